/- What the functions that TextDecodes reaches do: their typed texts, each with the proof that the machine does it. No condition. -/
import Derived.Test.YtipdidpalcmlhaaGreatEvX
set_option linter.unusedVariables false
set_option linter.unusedSimpArgs false
set_option linter.unusedSectionVars false
namespace Go.Proofs.YtipdidpalcmlhaaGreat
open Go Ev
open Go.IntKind (i64 u64 u8 i32 u32 u16)
noncomputable section
def ctb (r:List SC):List SC:=.int .i64 2048::.int .i64 1792::.int .i64 1568::.int .i64 1372::.int .i64 1201::.int .i64 1051::.int .i64 920::.int .i64 805::.int .i64 705::.int .i64 617::.int .i64 540::.int .i64 473::.int .i64 414::.int .i64 363::.int .i64 318::.int .i64 279::.int .i64 245::.int .i64 215::.int .i64 189::.int .i64 166::.int .i64 146::.int .i64 128::.int .i64 112::.int .i64 98::.int .i64 86::.int .i64 76::.int .i64 67::.int .i64 59::.int .i64 52::.int .i64 46::.int .i64 41::.int .i64 36::r
def ctn:List (IntKind×Int):=[(.i64,2048),(.i64,1792),(.i64,1568),(.i64,1372),(.i64,1201),(.i64,1051),(.i64,920),(.i64,805),(.i64,705),(.i64,617),(.i64,540),(.i64,473),(.i64,414),(.i64,363),(.i64,318),(.i64,279),(.i64,245),(.i64,215),(.i64,189),(.i64,166),(.i64,146),(.i64,128),(.i64,112),(.i64,98),(.i64,86),(.i64,76),(.i64,67),(.i64,59),(.i64,52),(.i64,46),(.i64,41),(.i64,36)]
def qb:List Nat→List Nat→Bool
 | [],[]=>true
 | a::x,b::y=>Nat.beq a b&&qb x y
 | _,_=>false
theorem qb_eq:∀ {x y:List Nat},qb x y=true→x=y
 | [],[],_=>rfl
 | [],_::_,h=>by cases h
 | _::_,[],h=>by cases h
 | a::x,b::y,h=>by
  have h:(Nat.beq a b&&qb x y)=true:=h
  rw [Bool.and_eq_true] at h
  rw [Nat.eq_of_beq_eq_true h.1,qb_eq h.2]
theorem w6 {x:Int} (h1: -9223372036854775808≤x:=by omega) (h2:x≤9223372036854775807:=by omega):i64.wrap x=x:=by
 simp [IntKind.wrap,IntKind.min,IntKind.max,IntKind.signed,IntKind.bits]
 omega
theorem fo0 {G:Nat→Option Ev.Spec} {J:Nat→Option Ev.Blk} {kp:Nat→Option (List Nat)} {fuel:Nat} {f:FuncId} {fn:Func} (hG:GOK Tryz.prog G) (hf:Tryz.prog.funcs[f]? =some fn) (hb:fn.body=some (fn.body.getD .skip)) (h:obl J (fn.body.getD .skip)= []):FnOK Tryz.prog f (evalFn tab G J kp fuel fn):=
  fn_ok tab_ok hG mixed hf (c:=fn.body.getD .skip) hb (fun q hq=>by
    rw [h] at hq
    cases hq)
@[match_pattern] abbrev i6 (x:Int):Ev.SC:=.int .i64 x
abbrev LI:Type:=List Int
abbrev OA:Type:=Option Ans
abbrev KT:Type:=Ev.Ex→Ev.St→Option Ans
def J0 (i:Nat):Option Ev.Blk:=Ev.look i []
theorem gc {k:Nat} {v:Ev.Spec} {r:List (Nat×Ev.Spec)} {fn:Func} {c:Code} (h:FnOK Tryz.prog (k % 1000000) v) (hf:Tryz.prog.funcs[k % 1000000]? =some fn) (hn:(fn.name== "runtime.NumGoroutine")=false) (hb:fn.body=some c) (hr:GOK Tryz.prog (fun f=>Ev.look f r)):GOK Tryz.prog (fun f=>Ev.look f ((k,v)::r)):=gok_cons ⟨h,enters_of hf hn hb⟩ hr
theorem bo0 {G:Nat→Option Ev.Spec} {J:Nat→Option Ev.Blk} {kp:Nat→Option (List Nat)} {fuel nt:Nat} {b:Code} {sp:Ev.Blk} (hG:GOK Tryz.prog G) (hfit:codeFit nt b=true) (h:obl J b= []) (hs:∀ st K r,sp st K=some r→evalCode tab G J kp fuel b st K=some r):BlkOK Tryz.prog nt b sp:=
  blk_of (blk_of_code tab_ok hG mixed hfit (fun q hq=>by
    rw [h] at hq
    cases hq)) hs
theorem fo1 {G:Nat→Option Ev.Spec} {J:Nat→Option Ev.Blk} {kp:Nat→Option (List Nat)} {fuel:Nat} {f:FuncId} {fn:Func} {b:Code} {sp:Ev.Blk} (hG:GOK Tryz.prog G) (hf:Tryz.prog.funcs[f]? =some fn) (hb:fn.body=some (fn.body.getD .skip)) (hk:BlkOK Tryz.prog fn.ntmps b sp) (h:obl J (fn.body.getD .skip)= [(b,sp)]):FnOK Tryz.prog f (evalFn tab G J kp fuel fn):=
  fn_ok tab_ok hG mixed hf (c:=fn.body.getD .skip) hb (fun q hq=>by
    rw [h] at hq
    simp only [List.mem_cons,List.not_mem_nil,or_false] at hq
    subst hq
    exact hk)
def kp48 (i:Nat):Option (List Nat):=Ev.look i []
def Gg48 (f:Nat):Option Ev.Spec:=Ev.look f []
def G48 (fuel:Nat):Nat→Option Ev.Spec:=Gg48
def F_coder_New (fuel:Nat) (b a:Int) (k0:(Int×Int×(List Int))→Option Ans):Option Ans:=bif b != 0 then bif b != 1 then k0 (0,2,[]) else bif decide (a < 0) then k0 (0,2,[]) else bif decide (a > 8192) then k0 (0,2,[]) else bif decide (0≤a∧a=a∧(↑(8:Nat):Int)*a≤281474976710656∧a≤281474976710656) then k0 (b,0,List.replicate a.toNat (0:Int)) else none else bif decide (a < 0) then k0 (0,2,[]) else bif decide (a > 8192) then k0 (0,2,[]) else bif decide (0≤a∧a=a∧(↑(8:Nat):Int)*a≤281474976710656∧a≤281474976710656) then k0 (b,0,List.replicate a.toNat (0:Int)) else none
abbrev YF48:Type:=Int→Int→((Int×Int×LI)→Option Ans)→Option Ans
theorem F48_eq (fuel:Nat) (a b:Int) (k:Ev.Cont):evalFn tab (G48 fuel) J0 kp48 fuel Tryz.f48 [.c (i6 a),.c (i6 b)] [] k=F_coder_New fuel a b (fun r=>match r with | (d,e,f)=>k (.tup [(true,[i6 d,.own 0]),(false,[i6 e])],[.vec 3 (.int .i64) f true])):=by
  kernel_rfl
theorem hG48 (fuel:Nat):GOK Tryz.prog (G48 fuel):=
  gok_nil
def spg48 (F:YF48):Ev.Spec:=fun args objs k=>match args,objs with | [.c (i6 a),.c (i6 b)],[]=>F a b (fun r=>match r with | (d,e,f)=>k (.tup [(true,[i6 d,.own 0]),(false,[i6 e])],[.vec 3 (.int .i64) f true])) | _,_=>none
def spec48 (fuel:Nat):Ev.Spec:=spg48 (F_coder_New fuel)
theorem ok48 (fuel:Nat):FnOK Tryz.prog 48 (spec48 fuel):=by
  intro args objs kk r h
  unfold spec48 spg48 at h
  split at h
  · skip
    exact fo0 (hG48 fuel) Tryz.func48 rfl (by kernel_rfl) _ _ kk r ((F48_eq fuel _ _ kk).trans h)
  · cases h
def kp118 (i:Nat):Option (List Nat):=Ev.look i [(7,[3,24,25,26]),(100000,[]),(400000,[2])]
def Gg118 (f:Nat):Option Ev.Spec:=Ev.look f []
def G118 (fuel:Nat):Nat→Option Ev.Spec:=Gg118
def S_coder_Valid_0 (fuel:Nat) (v:Int×(List Int)×Int×Int) (c:(Int×(List Int)×Int×Int)→Option Ans) (B:(Bool→Option Ans)×(Unit→Option Ans)):Option Ans:=match v,B with | (e,d,f,a),(ret,b)=>bif decide (a < f) then bif decide ((0:Int)≤a∧a < (↑d.length:Int)) then bif decide (d.getD a.toNat (0:Int) < (0:Int)) then ret false else bif decide (d.getD a.toNat (0:Int)≥e) then ret false else c (e,d,f,i64.wrap (a+(1:Int))) else none else b ()
def L_coder_Valid_0 (fuel:Nat) (v:Int×(List Int)×Int×Int) (ret:(Bool→Option Ans)) (b:(Unit→Option Ans)):Option Ans:=iter (S_coder_Valid_0 fuel) fuel v (ret,b)
def T118_0 (v:Int×LI×Int×Int):Ev.St:=match v with | (a,b,d,e)=>⟨[(3,.c (i6 a)),(24,.c (.sl (.int .i64) b)),(25,.c (i6 d)),(26,.c (i6 e))],[],0,0⟩
def E118_0 (K:KT):(Bool→OA)×(Unit→OA):=((fun v=>match v with | a=>K .ret ⟨[(2,.c (.bool a))],[],0,0⟩),(fun v=>match v with | ()=>K .normal ⟨[],[],0,0⟩))
theorem S118_0_ok (fuel:Nat) (R:Ev.St→OA) (K:KT) (a:Int) (b:LI) (c d:Int):evalCode tab (G118 fuel) J0 kp118 fuel (bodyOf 0 Tryz.f118) (T118_0 (a,b,c,d)) (lc kp118 7 0 R K)=S_coder_Valid_0 fuel (a,b,c,d) (fun v=>R (T118_0 v)) (E118_0 K):=by
  kernel_rfl
def B118_0 (fuel:Nat):Ev.Blk:=fun st K=>match canonO (kp118 7) st with | some s=>(match s with | ⟨[(a,.c (i6 b)),(d,.c (.sl (.int .i64) e)),(f,.c (i6 g)),(h,.c (i6 i))],[],j,k⟩=>bif qb [a,d,f,h,j,k] [3,24,25,26,0,0] then iter (S_coder_Valid_0 fuel) fuel (b,e,g,i) (E118_0 K) else none | _=>none) | none=>none
theorem B118_0_ok (fuel:Nat) (st:Ev.St) (K:KT) (r:Ans) (h:B118_0 fuel st K=some r):evalCode tab (G118 fuel) J0 kp118 fuel (.block 0 (.loop (bodyOf 0 Tryz.f118))) st K=some r:=by
  unfold B118_0 at h
  split at h
  · rename_i s hs
    split at h
    · skip
      obtain ⟨hb,h⟩:=cond_some' h
      cases qb_eq hb
      exact blk_loop (S:=T118_0) (ks:=E118_0) (step:=S_coder_Valid_0 fuel) (v:=(_,_,_,_)) (by kernel_rfl) (by kernel_rfl) (fun R K v=>by obtain ⟨a,b,c,d⟩:=v; exact S118_0_ok fuel R K a b c d) hs h
    · cases h
  · cases h
def J118 (fuel:Nat) (i:Nat):Option Ev.Blk:=Ev.look i [(100000,B118_0 fuel)]
def F_coder_Valid (fuel:Nat) (b:Int) (a:(List Int)) (k0:(Bool)→Option Ans):Option Ans:=bif b != 0 then bif b != 1 then k0 false else bif decide ((↑a.length:Int) > 8192) then k0 false else bif b==1 then (L_coder_Valid_0 fuel (65536,a,(↑a.length:Int),0) (fun ret0_0=>k0 ret0_0) (fun ()=>k0 true)) else (L_coder_Valid_0 fuel (64,a,(↑a.length:Int),0) (fun ret0_0=>k0 ret0_0) (fun ()=>k0 true)) else bif decide ((↑a.length:Int) > 8192) then k0 false else bif b==1 then (L_coder_Valid_0 fuel (65536,a,(↑a.length:Int),0) (fun ret0_0=>k0 ret0_0) (fun ()=>k0 true)) else (L_coder_Valid_0 fuel (64,a,(↑a.length:Int),0) (fun ret0_0=>k0 ret0_0) (fun ()=>k0 true))
abbrev YF118:Type:=Int→LI→(Bool→Option Ans)→Option Ans
theorem F118_eq (fuel:Nat) (a:Int) (b:LI) (k:Ev.Cont):evalFn tab (G118 fuel) (J118 fuel) kp118 fuel Tryz.f118 [.agg [i6 a,.sl (.int .i64) b]] [] k=F_coder_Valid fuel a b (fun r=>match r with | d=>k (.c (.bool d),[])):=by
  kernel_rfl
theorem hG118 (fuel:Nat):GOK Tryz.prog (G118 fuel):=
  gok_nil
theorem B118_0_blk (fuel:Nat):BlkOK Tryz.prog Tryz.f118.ntmps (.block 0 (.loop (bodyOf 0 Tryz.f118))) (B118_0 fuel):=bo0 (hG118 fuel) (by kernel_rfl) (by kernel_rfl) (B118_0_ok fuel)
def spg118 (F:YF118):Ev.Spec:=fun args objs k=>match args,objs with | [.agg [i6 a,.sl (.int .i64) b]],[]=>F a b (fun r=>match r with | d=>k (.c (.bool d),[])) | _,_=>none
theorem ok118 (fuel:Nat):FnOK Tryz.prog 118 (spg118 (F_coder_Valid fuel)):=by
  intro args objs kk r h
  unfold spg118 at h
  split at h
  · skip
    exact fo1 (hG118 fuel) Tryz.func118 rfl (B118_0_blk fuel) (by kernel_rfl) _ _ kk r ((F118_eq fuel _ _ kk).trans h)
  · cases h
def kp205 (i:Nat):Option (List Nat):=Ev.look i [(4,[0,1,2,4]),(100000,[0,1]),(400000,[0])]
def Gg205 (f:Nat):Option Ev.Spec:=Ev.look f []
def G205 (fuel:Nat):Nat→Option Ev.Spec:=Gg205
def F_coder_chances (fuel:Nat)  (k0:(Unit)→Option Ans):Option Ans:=k0 ()
abbrev YF205:Type:=((Unit)→Option Ans)→Option Ans
theorem F205_eq (fuel:Nat)  (k:Ev.Cont):evalFn tab (G205 fuel) J0 kp205 100 Tryz.f205 [] [] k=F_coder_chances fuel  (fun r=>match r with | ()=>k (.agg (ctb []),[])):=by
  kernel_rfl
theorem hG205 (fuel:Nat):GOK Tryz.prog (G205 fuel):=
  gok_nil
theorem fok205 (fuel:Nat):FnOK Tryz.prog 205 (evalFn tab (G205 fuel) J0 kp205 100 Tryz.f205):=
  fn_ok tab_ok (hG205 fuel) mixed Tryz.func205 (c:=(Tryz.f205.body).getD .skip) rfl (fun q hq=>by
    rw [(by kernel_rfl:obl J0 ((Tryz.f205.body).getD .skip)= [])] at hq
    cases hq)
def spg205 (F:YF205):Ev.Spec:=fun args objs k=>match args,objs with | [],[]=>F  (fun r=>match r with | ()=>k (.agg (ctb []),[])) | _,_=>none
theorem ok205 (fuel:Nat):FnOK Tryz.prog 205 (spg205 (F_coder_chances fuel)):=by
  intro args objs kk r h
  unfold spg205 at h
  split at h
  · skip
    exact fok205 fuel _ _ kk r ((F205_eq fuel kk).trans h)
  · cases h
def kp204 (i:Nat):Option (List Nat):=Ev.look i [(200001,[1])]
def Gg204 (f:Nat):Option Ev.Spec:=Ev.look f []
def G204 (fuel:Nat):Nat→Option Ev.Spec:=Gg204
def F_coder_clone (fuel:Nat) (b:Int) (a:(List Int)) (k0:(Int×(List Int))→Option Ans):Option Ans:=bif decide (((0:Nat)+a.length)*(8:Nat)≤(140737488355328:Nat)∧(0:Nat)+a.length≤(140737488355328:Nat)) then k0 (b,[]++a) else none
abbrev YF204:Type:=Int→LI→((Int×LI)→Option Ans)→Option Ans
theorem F204_eq (fuel:Nat) (a:Int) (b:LI) (k:Ev.Cont):evalFn tab (G204 fuel) J0 kp204 fuel Tryz.f204 [.agg [i6 a,.sl (.int .i64) b]] [] k=F_coder_clone fuel a b (fun r=>match r with | (c,d)=>k (.agg [i6 c,.own 0],[.vec 3 (.int .i64) d true])):=by
  kernel_rfl
theorem hG204 (fuel:Nat):GOK Tryz.prog (G204 fuel):=
  gok_nil
def spg204 (F:YF204):Ev.Spec:=fun args objs k=>match args,objs with | [.agg [i6 a,.sl (.int .i64) b]],[]=>F a b (fun r=>match r with | (c,d)=>k (.agg [i6 c,.own 0],[.vec 3 (.int .i64) d true])) | _,_=>none
theorem ok204 (fuel:Nat):FnOK Tryz.prog 204 (spg204 (F_coder_clone fuel)):=by
  intro args objs kk r h
  unfold spg204 at h
  split at h
  · skip
    exact fo0 (hG204 fuel) Tryz.func204 rfl (by kernel_rfl) _ _ kk r ((F204_eq fuel _ _ kk).trans h)
  · cases h
def kp119 (i:Nat):Option (List Nat):=Ev.look i []
def Gg119 (a:YF204) (b:YF205) (f:Nat):Option Ev.Spec:=Ev.look f [(204,spg204 a),(205,spg205 b)]
def G119 (fuel:Nat):Nat→Option Ev.Spec:=Gg119 (F_coder_clone fuel) (F_coder_chances fuel)
def Fg_coder_begin (fuel:Nat) (a:YF204) (b:YF205) (e:Int) (f:LI) (k0:(Int×Int×Int×LI)→OA):OA:=(a e f (fun (c,d)=>(b (fun g=>k0 (c,0,4294967295,d)))))
abbrev YF119:Type:=Int→LI→((Int×Int×Int×LI)→Option Ans)→Option Ans
def F_coder_begin (fuel:Nat):YF119:=Fg_coder_begin fuel (F_coder_clone fuel) (F_coder_chances fuel)
theorem F119_eqg (fuel:Nat) (a:YF204) (b:YF205) (c:Int) (d:LI) (k:Ev.Cont):evalFn tab (Gg119 a b) J0 kp119 fuel Tryz.f119 [.agg [i6 c,.sl (.int .i64) d]] [] k=Fg_coder_begin fuel a b c d (fun r=>match r with | (e,f,g,h)=>k (.agg (i6 e::.own 0::ctb (.int .u64 f::.int .u64 g::[])),[.vec 3 (.int .i64) h true])):=by
  kernel_rfl
theorem hG119 (fuel:Nat):GOK Tryz.prog (G119 fuel):=
  gc (ok204 fuel) Tryz.func204 (by kernel_rfl) rfl <|
  gc (ok205 fuel) Tryz.func205 (by kernel_rfl) rfl <|
  gok_nil
def spg119 (F:YF119):Ev.Spec:=fun args objs k=>match args,objs with | [.agg [i6 a,.sl (.int .i64) b]],[]=>F a b (fun r=>match r with | (c,d,e,f)=>k (.agg (i6 c::.own 0::ctb (.int .u64 d::.int .u64 e::[])),[.vec 3 (.int .i64) f true])) | _,_=>none
theorem ok119 (fuel:Nat):FnOK Tryz.prog 119 (spg119 (F_coder_begin fuel)):=by
  intro args objs kk r h
  unfold spg119 at h
  split at h
  · skip
    exact fo0 (hG119 fuel) Tryz.func119 rfl (by kernel_rfl) _ _ kk r ((F119_eqg fuel (F_coder_clone fuel) (F_coder_chances fuel) _ _ kk).trans h)
  · cases h
def kp49 (i:Nat):Option (List Nat):=Ev.look i [(600000,[])]
def Gg49 (a:YF118) (b:YF119) (f:Nat):Option Ev.Spec:=Ev.look f [(118,spg118 a),(119,spg119 b)]
def G49 (fuel:Nat):Nat→Option Ev.Spec:=Gg49 (F_coder_Valid fuel) (F_coder_begin fuel)
def Fg_coder_NewEncoder (fuel:Nat) (c:YF118) (d:YF119) (a:Int) (b:LI) (k0:(Int)→OA) (k1:(Int×Int×Int×Int×Bool×LI×LI)→OA):OA:=(c a b (fun i=>bif !i then k0 (10) else (d a b (fun (e,f,g,h)=>k1 (0,e,f,g,true,h,[])))))
abbrev YF49:Type:=Int→LI→(Int→Option Ans)→((Int×Int×Int×Int×Bool×LI×LI)→Option Ans)→Option Ans
def F_coder_NewEncoder (fuel:Nat):YF49:=Fg_coder_NewEncoder fuel (F_coder_Valid fuel) (F_coder_begin fuel)
theorem F49_eqg (fuel:Nat) (b:YF118) (c:YF119) (d:Int) (e:LI) (k:Ev.Cont):evalFn tab (Gg49 b c) J0 kp49 fuel Tryz.f49 [.agg [i6 d,.sl (.int .i64) e]] [] k=Fg_coder_NewEncoder fuel b c d e (fun r=>match r with | a=>k (.tup [(false,[.nilptr]),(false,[i6 a])],[])) (fun r=>match r with | (a,f,g,h,i,j,l)=>k (.tup [(false,[.ptr 0 0]),(false,[i6 a])],[.cells 173 (i6 f::.own 1::ctb (.int .u64 g::.int .u64 h::.own 2::.bool i::[])),.vec 3 (.int .i64) j true,.vec 5 (.int .u8) l true])):=by
  kernel_rfl
theorem hG49 (fuel:Nat):GOK Tryz.prog (G49 fuel):=
  gc (ok118 fuel) Tryz.func118 (by kernel_rfl) rfl <|
  gc (ok119 fuel) Tryz.func119 (by kernel_rfl) rfl <|
  gok_nil
def spg49 (F:YF49):Ev.Spec:=fun args objs k=>match args,objs with | [.agg [i6 b,.sl (.int .i64) c]],[]=>F b c (fun r=>match r with | a=>k (.tup [(false,[.nilptr]),(false,[i6 a])],[])) (fun r=>match r with | (a,d,e,f,g,h,i)=>k (.tup [(false,[.ptr 0 0]),(false,[i6 a])],[.cells 173 (i6 d::.own 1::ctb (.int .u64 e::.int .u64 f::.own 2::.bool g::[])),.vec 3 (.int .i64) h true,.vec 5 (.int .u8) i true])) | _,_=>none
def spec49 (fuel:Nat):Ev.Spec:=spg49 (F_coder_NewEncoder fuel)
theorem ok49 (fuel:Nat):FnOK Tryz.prog 49 (spec49 fuel):=by
  intro args objs kk r h
  unfold spec49 spg49 at h
  split at h
  · skip
    exact fo0 (hG49 fuel) Tryz.func49 rfl (by kernel_rfl) _ _ kk r ((F49_eqg fuel (F_coder_Valid fuel) (F_coder_begin fuel) _ _ kk).trans h)
  · cases h
def kp128_a20 (i:Nat):Option (List Nat):=Ev.look i []
def Gg128_a20 (f:Nat):Option Ev.Spec:=Ev.look f []
def G128_a20 (fuel:Nat):Nat→Option Ev.Spec:=Gg128_a20
def F_coder_Encoder_none_a20 (fuel:Nat) (b c d:Int) (a:Bool) (e f:(List Int)) (k0:(Bool×Int×Int×Int×Bool×(List Int)×(List Int))→Option Ans):Option Ans:=k0 (!a,b,c,d,a,e,f)
abbrev YF128_a20:Type:=Int→Int→Int→Bool→LI→LI→((Bool×Int×Int×Int×Bool×LI×LI)→Option Ans)→Option Ans
theorem F128_a20_eq (fuel:Nat) (a b d:Int) (e:Bool) (f g:LI) (k:Ev.Cont):evalFn tab (G128_a20 fuel) J0 kp128_a20 fuel Tryz.f128 [.c (.ptr 0 0)] [.cells 173 (i6 a::.own 1::ctb (.int .u64 b::.int .u64 d::.own 2::.bool e::[])),.vec 3 (.int .i64) f false,.vec 5 (.int .u8) g false] k=F_coder_Encoder_none_a20 fuel a b d e f g (fun r=>match r with | (h,i,j,l,m,n,o)=>k (.c (.bool h),[.cells 173 (i6 i::.own 1::ctb (.int .u64 j::.int .u64 l::.own 2::.bool m::[])),.vec 3 (.int .i64) n false,.vec 5 (.int .u8) o false])):=by
  kernel_rfl
theorem hG128_a20 (fuel:Nat):GOK Tryz.prog (G128_a20 fuel):=
  gok_nil
def spg128_a20 (F:YF128_a20):Ev.Spec:=fun args objs k=>match args,objs with | [.c (.ptr b d)],[.cells e a,.vec f (.int .i64) g false,.vec h (.int .u8) i false]=>(match splitRun 2 ctn a with | some ([i6 j,.own l],[.int .u64 m,.int .u64 n,.own o,.bool p])=>bif qb [b,d,e,f,h,l,o] [0,0,173,3,5,1,2] then F j m n p g i (fun r=>match r with | (q,s,t,u,v,w,x)=>k (.c (.bool q),[.cells 173 (i6 s::.own 1::ctb (.int .u64 t::.int .u64 u::.own 2::.bool v::[])),.vec 3 (.int .i64) w false,.vec 5 (.int .u8) x false])) else none | _=>none) | _,_=>none
theorem ok128_a20 (fuel:Nat):FnOK Tryz.prog 128 (spg128_a20 (F_coder_Encoder_none_a20 fuel)):=by
  intro args objs kk r h
  unfold spg128_a20 at h
  split at h
  · skip
    split at h
    rotate_left 1
    · cases h
    rename_i hsp
    have esp:=splitRun_eq hsp
    subst esp
    obtain ⟨hb,h⟩:=cond_some' h
    cases qb_eq hb
    exact fo0 (hG128_a20 fuel) Tryz.func128 rfl (by kernel_rfl) _ _ kk r ((F128_a20_eq fuel _ _ _ _ _ _ kk).trans h)
  · cases h
def kp52_a20 (i:Nat):Option (List Nat):=Ev.look i [(5,[0,3,15]),(10,[0,3,37,38]),(100000,[3]),(100002,[3]),(200008,[0]),(400000,[2]),(400002,[2])]
def Gg52_a20 (a:YF128_a20) (f:Nat):Option Ev.Spec:=Ev.look f [(128,spg128_a20 a)]
def G52_a20 (fuel:Nat):Nat→Option Ev.Spec:=Gg52_a20 (F_coder_Encoder_none_a20 fuel)
abbrev V_coder_Encoder_End_a20_2:Type:=Int×Int×Int×Int×Int×Bool×LI×LI×LI
abbrev W_coder_Encoder_End_a20_2:Type:=(Int×Int×Int×Bool×LI×LI×LI→OA)
def Sg_coder_Encoder_End_a20_2 (fuel:Nat) (l:YF128_a20) (f a:Int) (g h d:Int) (i:Bool) (j k e:LI) (c:V_coder_Encoder_End_a20_2→OA) (B:W_coder_Encoder_End_a20_2):OA:=match B with | b=>bif decide (a < f) then bif decide (i64.wrap (24 - i64.wrap (8*a)) < 0) then none else bif decide ((e.length+ [u8.wrap (Ev.ishr IntKind.u64 d (i64.wrap ((24:Int) - i64.wrap ((8:Int)*a))))].length)*(1:Nat)≤(140737488355328:Nat)∧e.length+ [u8.wrap (Ev.ishr IntKind.u64 d (i64.wrap ((24:Int) - i64.wrap ((8:Int)*a))))].length≤(140737488355328:Nat)) then c (f,i64.wrap (a+(1:Int)),g,h,d,i,j,k,e++ [u8.wrap (Ev.ishr IntKind.u64 d (i64.wrap ((24:Int) - i64.wrap ((8:Int)*a))))]) else none else b (g,h,d,i,j,k,e)
def S_coder_Encoder_End_a20_2 (fuel:Nat) (v:Int×Int×Int×Int×Int×Bool×(List Int)×(List Int)×(List Int)) (c:(Int×Int×Int×Int×Int×Bool×(List Int)×(List Int)×(List Int))→Option Ans) (B:(Int×Int×Int×Bool×(List Int)×(List Int)×(List Int)→Option Ans)):Option Ans:=match v with | (a,b,d,e,f,g,h,i,j)=>Sg_coder_Encoder_End_a20_2 fuel (F_coder_Encoder_none_a20 fuel) a b d e f g h i j c B
def L_coder_Encoder_End_a20_2 (fuel:Nat) (v:V_coder_Encoder_End_a20_2) (b:W_coder_Encoder_End_a20_2):Option Ans:=iter (S_coder_Encoder_End_a20_2 fuel) fuel v b
def T52_a20_2 (v:V_coder_Encoder_End_a20_2):Ev.St:=match v with | (a,b,d,e,f,g,h,i,j)=>⟨[(0,.c (.ptr 0 0)),(3,.c (.own 3)),(37,.c (i6 a)),(38,.c (i6 b))],[(0,.cells 173 (i6 d::.own 1::ctb (.int .u64 e::.int .u64 f::.own 2::.bool g::[]))),(1,.vec 3 (.int .i64) h false),(2,.vec 5 (.int .u8) i false),(3,.vec 5 (.int .u8) j true)],4,3⟩
def E52_a20_2 (K:KT):W_coder_Encoder_End_a20_2:=(fun v=>match v with | (a,b,d,e,f,g,h)=>K .normal ⟨[(3,.c (.own 3))],[(0,.cells 173 (i6 a::.own 1::ctb (.int .u64 b::.int .u64 d::.own 2::.bool e::[]))),(1,.vec 3 (.int .i64) f false),(2,.vec 5 (.int .u8) g false),(3,.vec 5 (.int .u8) h true)],4,3⟩)
theorem S52_a20_2_okg (fuel:Nat) (a:YF128_a20) (R:Ev.St→OA) (K:KT) (b c:Int) (d e f:Int) (g:Bool) (h i j:LI):evalCode tab (Gg52_a20 a) J0 kp52_a20 fuel (bodyOf 2 Tryz.f52) (T52_a20_2 (b,c,d,e,f,g,h,i,j)) (lc kp52_a20 10 2 R K)=Sg_coder_Encoder_End_a20_2 fuel a b c d e f g h i j (fun v=>R (T52_a20_2 v)) (E52_a20_2 K):=by
  kernel_rfl
def B52_a20_2 (fuel:Nat):Ev.Blk:=fun st K=>match canonO (kp52_a20 10) st with | some s=>(match s with | ⟨[(l,.c (.ptr m n)),(o,.c (.own p)),(q,.c (i6 r)),(t,.c (i6 u))],[(v,.cells w a),(x,.vec b (.int .i64) y false),(d,.vec e (.int .u8) z false),(f,.vec g (.int .u8) A true)],h,i⟩=>(match splitRun 2 ctn a with | some ([i6 B,.own j],[.int .u64 C,.int .u64 D,.own k,.bool E])=>bif qb [l,m,n,o,p,q,t,v,w,x,b,d,e,f,g,h,i,j,k] [0,0,0,3,3,37,38,0,173,1,3,2,5,3,5,4,3,1,2] then iter (S_coder_Encoder_End_a20_2 fuel) fuel (r,u,B,C,D,E,y,z,A) (E52_a20_2 K) else none | _=>none) | _=>none) | none=>none
theorem B52_a20_2_ok (fuel:Nat) (st:Ev.St) (K:KT) (r:Ans) (h:B52_a20_2 fuel st K=some r):evalCode tab (G52_a20 fuel) J0 kp52_a20 fuel (.block 2 (.loop (bodyOf 2 Tryz.f52))) st K=some r:=by
  unfold B52_a20_2 at h
  split at h
  · rename_i s hs
    split at h
    · skip
      split at h
      rotate_left 1
      · cases h
      rename_i hsp
      have esp:=splitRun_eq hsp
      subst esp
      obtain ⟨hb,h⟩:=cond_some' h
      cases qb_eq hb
      exact blk_loop (S:=T52_a20_2) (ks:=E52_a20_2) (step:=S_coder_Encoder_End_a20_2 fuel) (v:=(_,_,_,_,_,_,_,_,_)) (by kernel_rfl) (by kernel_rfl) (fun R K v=>by obtain ⟨a,b,c,d,e,f,g,i,j⟩:=v; exact S52_a20_2_okg fuel (F_coder_Encoder_none_a20 fuel) R K a b c d e f g i j) hs h
    · cases h
  · cases h
abbrev V_coder_Encoder_End_a20_0:Type:=Int×Int×Int×Int×Bool×LI×LI×LI
abbrev W_coder_Encoder_End_a20_0:Type:=(Int×Int×Int×Bool×LI×LI×LI→OA)×(Int×Int×Int×Bool×LI×LI×LI→OA)
def Sg_coder_Encoder_End_a20_0 (fuel:Nat) (r:YF128_a20) (a f:Int) (d e:Int) (g:Bool) (h i j:LI) (c:V_coder_Encoder_End_a20_0→OA) (B:W_coder_Encoder_End_a20_0):OA:=match B with | (ret,b)=>bif decide (a < 5) then bif decide (u64.wrap (i64.wrap (32 - i64.wrap (8*a))) < 0) then none else bif decide (u64.wrap (i64.wrap (32 - i64.wrap (8*a))) < 0) then none else bif decide (Ev.ishl IntKind.u64 (Ev.ishr IntKind.u64 e (u64.wrap (i64.wrap (32 - i64.wrap (8*a))))) (u64.wrap (i64.wrap (32 - i64.wrap (8*a))))≥d) then (L_coder_Encoder_End_a20_2 fuel (a,0,f,d,e,g,h,i,j) (fun (k,l,m,n,o,p,q)=>ret (k,l,m,n,o,p,q))) else c (i64.wrap (a+1),f,d,e,g,h,i,j) else b (f,d,e,g,h,i,j)
def S_coder_Encoder_End_a20_0 (fuel:Nat) (v:Int×Int×Int×Int×Bool×(List Int)×(List Int)×(List Int)) (c:(Int×Int×Int×Int×Bool×(List Int)×(List Int)×(List Int))→Option Ans) (B:(Int×Int×Int×Bool×(List Int)×(List Int)×(List Int)→Option Ans)×(Int×Int×Int×Bool×(List Int)×(List Int)×(List Int)→Option Ans)):Option Ans:=match v with | (a,b,d,e,f,g,h,i)=>Sg_coder_Encoder_End_a20_0 fuel (F_coder_Encoder_none_a20 fuel) a b d e f g h i c B
def L_coder_Encoder_End_a20_0 (fuel:Nat) (v:V_coder_Encoder_End_a20_0) (ret:(Int×Int×Int×Bool×(List Int)×(List Int)×(List Int)→Option Ans)) (b:(Int×Int×Int×Bool×(List Int)×(List Int)×(List Int)→Option Ans)):Option Ans:=iter (S_coder_Encoder_End_a20_0 fuel) fuel v (ret,b)
def J52_a20_0 (fuel:Nat) (i:Nat):Option Ev.Blk:=Ev.look i [(100002,B52_a20_2 fuel)]
def T52_a20_0 (v:V_coder_Encoder_End_a20_0):Ev.St:=match v with | (a,b,d,e,f,g,h,i)=>⟨[(0,.c (.ptr 0 0)),(3,.c (.own 3)),(15,.c (i6 a))],[(0,.cells 173 (i6 b::.own 1::ctb (.int .u64 d::.int .u64 e::.own 2::.bool f::[]))),(1,.vec 3 (.int .i64) g false),(2,.vec 5 (.int .u8) h false),(3,.vec 5 (.int .u8) i true)],4,3⟩
def E52_a20_0 (K:KT):W_coder_Encoder_End_a20_0:=((fun v=>match v with | (a,b,d,e,f,g,h)=>K .ret ⟨[(2,.c (.own 3))],[(0,.cells 173 (i6 a::.own 1::ctb (.int .u64 b::.int .u64 d::.own 2::.bool e::[]))),(1,.vec 3 (.int .i64) f false),(2,.vec 5 (.int .u8) g false),(3,.vec 5 (.int .u8) h true)],4,3⟩),(fun v=>match v with | (a,b,d,e,f,g,h)=>K .normal ⟨[(3,.c (.own 3))],[(0,.cells 173 (i6 a::.own 1::ctb (.int .u64 b::.int .u64 d::.own 2::.bool e::[]))),(1,.vec 3 (.int .i64) f false),(2,.vec 5 (.int .u8) g false),(3,.vec 5 (.int .u8) h true)],4,3⟩))
theorem S52_a20_0_okg (fuel:Nat) (a:YF128_a20) (R:Ev.St→OA) (K:KT) (b c:Int) (d e:Int) (f:Bool) (g h i:LI):evalCode tab (Gg52_a20 a) (J52_a20_0 fuel) kp52_a20 fuel (bodyOf 0 Tryz.f52) (T52_a20_0 (b,c,d,e,f,g,h,i)) (lc kp52_a20 5 0 R K)=Sg_coder_Encoder_End_a20_0 fuel a b c d e f g h i (fun v=>R (T52_a20_0 v)) (E52_a20_0 K):=by
  kernel_rfl
def B52_a20_0 (fuel:Nat):Ev.Blk:=fun st K=>match canonO (kp52_a20 5) st with | some s=>(match s with | ⟨[(k,.c (.ptr l m)),(n,.c (.own o)),(p,.c (i6 q))],[(r,.cells t a),(u,.vec v (.int .i64) w false),(b,.vec d (.int .u8) x false),(e,.vec f (.int .u8) y true)],g,h⟩=>(match splitRun 2 ctn a with | some ([i6 z,.own i],[.int .u64 A,.int .u64 B,.own j,.bool C])=>bif qb [k,l,m,n,o,p,r,t,u,v,b,d,e,f,g,h,i,j] [0,0,0,3,3,15,0,173,1,3,2,5,3,5,4,3,1,2] then iter (S_coder_Encoder_End_a20_0 fuel) fuel (q,z,A,B,C,w,x,y) (E52_a20_0 K) else none | _=>none) | _=>none) | none=>none
theorem B52_a20_0_ok (fuel:Nat) (st:Ev.St) (K:KT) (r:Ans) (h:B52_a20_0 fuel st K=some r):evalCode tab (G52_a20 fuel) (J52_a20_0 fuel) kp52_a20 fuel (.block 0 (.loop (bodyOf 0 Tryz.f52))) st K=some r:=by
  unfold B52_a20_0 at h
  split at h
  · rename_i s hs
    split at h
    · skip
      split at h
      rotate_left 1
      · cases h
      rename_i hsp
      have esp:=splitRun_eq hsp
      subst esp
      obtain ⟨hb,h⟩:=cond_some' h
      cases qb_eq hb
      exact blk_loop (S:=T52_a20_0) (ks:=E52_a20_0) (step:=S_coder_Encoder_End_a20_0 fuel) (v:=(_,_,_,_,_,_,_,_)) (by kernel_rfl) (by kernel_rfl) (fun R K v=>by obtain ⟨a,b,c,d,e,f,g,i⟩:=v; exact S52_a20_0_okg fuel (F_coder_Encoder_none_a20 fuel) R K a b c d e f g i) hs h
    · cases h
  · cases h
def J52_a20 (fuel:Nat) (i:Nat):Option Ev.Blk:=Ev.look i [(100002,B52_a20_2 fuel),(100000,B52_a20_0 fuel)]
def Fg_coder_Encoder_End_a20 (fuel:Nat) (g:YF128_a20) (p q r:Int) (s:Bool) (t u:LI) (k0:(Int×Int×Int×Bool×LI×LI×LI)→OA):OA:=(g p q r s t u (fun (h,b,c,d,e,f,a)=>bif h then k0 (b,c,d,e,f,a,[]) else bif decide (((0:Nat)+a.length)*(1:Nat)≤(140737488355328:Nat)∧(0:Nat)+a.length≤(140737488355328:Nat)) then (L_coder_Encoder_End_a20_0 fuel ((0:Int),b,c,d,e,f,a,[]++a) (fun (ret0_0,ret0_1,ret0_2,ret0_3,ret0_4,ret0_5,ret0_6)=>k0 (ret0_0,ret0_1,ret0_2,ret0_3,ret0_4,ret0_5,ret0_6)) (fun (i,j,k,l,m,n,o)=>k0 (i,j,k,l,m,n,o))) else none))
abbrev YF52_a20:Type:=Int→Int→Int→Bool→LI→LI→((Int×Int×Int×Bool×LI×LI×LI)→Option Ans)→Option Ans
def F_coder_Encoder_End_a20 (fuel:Nat):YF52_a20:=Fg_coder_Encoder_End_a20 fuel (F_coder_Encoder_none_a20 fuel)
theorem F52_a20_eqg (fuel:Nat) (a:YF128_a20) (b d e:Int) (f:Bool) (g h:LI) (k:Ev.Cont):evalFn tab (Gg52_a20 a) (J52_a20 fuel) kp52_a20 fuel Tryz.f52 [.c (.ptr 0 0)] [.cells 173 (i6 b::.own 1::ctb (.int .u64 d::.int .u64 e::.own 2::.bool f::[])),.vec 3 (.int .i64) g false,.vec 5 (.int .u8) h false] k=Fg_coder_Encoder_End_a20 fuel a b d e f g h (fun r=>match r with | (i,j,l,m,n,o,p)=>k (.c (.own 3),[.cells 173 (i6 i::.own 1::ctb (.int .u64 j::.int .u64 l::.own 2::.bool m::[])),.vec 3 (.int .i64) n false,.vec 5 (.int .u8) o false,.vec 5 (.int .u8) p true])):=by
  kernel_rfl
theorem hG52_a20 (fuel:Nat):GOK Tryz.prog (G52_a20 fuel):=
  gc (ok128_a20 fuel) Tryz.func128 (by kernel_rfl) rfl <|
  gok_nil
theorem B52_a20_2_blk (fuel:Nat):BlkOK Tryz.prog Tryz.f52.ntmps (.block 2 (.loop (bodyOf 2 Tryz.f52))) (B52_a20_2 fuel):=bo0 (hG52_a20 fuel) (by kernel_rfl) (by kernel_rfl) (B52_a20_2_ok fuel)
theorem B52_a20_0_blk (fuel:Nat):BlkOK Tryz.prog Tryz.f52.ntmps (.block 0 (.loop (bodyOf 0 Tryz.f52))) (B52_a20_0 fuel):=
  blk_of (blk_of_code tab_ok (hG52_a20 fuel) mixed (J:=J52_a20_0 fuel) (kp:=kp52_a20) (fuel:=fuel) (by kernel_rfl) (fun q hq=>by
    rw [(by kernel_rfl:obl (J52_a20_0 fuel) (.block 0 (.loop (bodyOf 0 Tryz.f52)))= [(.block 2 (.loop (bodyOf 2 Tryz.f52)),B52_a20_2 fuel)])] at hq
    simp only [List.mem_cons,List.not_mem_nil,or_false] at hq
    subst hq
    · exact B52_a20_2_blk fuel)) (B52_a20_0_ok fuel)
def spg52_a20 (F:YF52_a20):Ev.Spec:=fun args objs k=>match args,objs with | [.c (.ptr b d)],[.cells e a,.vec f (.int .i64) g false,.vec h (.int .u8) i false]=>(match splitRun 2 ctn a with | some ([i6 j,.own l],[.int .u64 m,.int .u64 n,.own o,.bool p])=>bif qb [b,d,e,f,h,l,o] [0,0,173,3,5,1,2] then F j m n p g i (fun r=>match r with | (q,s,t,u,v,w,x)=>k (.c (.own 3),[.cells 173 (i6 q::.own 1::ctb (.int .u64 s::.int .u64 t::.own 2::.bool u::[])),.vec 3 (.int .i64) v false,.vec 5 (.int .u8) w false,.vec 5 (.int .u8) x true])) else none | _=>none) | _,_=>none
def spec52_a20 (fuel:Nat):Ev.Spec:=spg52_a20 (F_coder_Encoder_End_a20 fuel)
theorem ok52_a20 (fuel:Nat):FnOK Tryz.prog 52 (spec52_a20 fuel):=by
  intro args objs kk r h
  unfold spec52_a20 spg52_a20 at h
  split at h
  · skip
    split at h
    rotate_left 1
    · cases h
    rename_i hsp
    have esp:=splitRun_eq hsp
    subst esp
    obtain ⟨hb,h⟩:=cond_some' h
    cases qb_eq hb
    exact fo1 (hG52_a20 fuel) Tryz.func52 rfl (B52_a20_0_blk fuel) (by kernel_rfl) _ _ kk r ((F52_a20_eqg fuel (F_coder_Encoder_none_a20 fuel) _ _ _ _ _ _ kk).trans h)
  · cases h
def kp145_40a (i:Nat):Option (List Nat):=Ev.look i [(200001,[0]),(200002,[0])]
def Gg145_40a (f:Nat):Option Ev.Spec:=Ev.look f []
def G145_40a (fuel:Nat):Nat→Option Ev.Spec:=Gg145_40a
def F_coder_Decoder_shift_40a (fuel:Nat) (c d:Int) (e a:Int) (f g:Int) (h i:Bool) (j b:(List Int)) (k0:(Int×Int×Int×Int×Int×Int×Bool×Bool×(List Int)×(List Int))→Option Ans):Option Ans:=bif decide (a < (↑b.length:Int)) then bif decide (0≤a∧a < (↑b.length:Int)) then k0 (c,d,e,i64.wrap (a+1),Ev.ior IntKind.u64 (Ev.iand IntKind.u64 (Ev.ishl IntKind.u64 f 8) 4294967295) (u64.wrap (b.getD a.toNat 0)),g,h,i,j,b) else none else k0 (c,d,e,i64.wrap (a+1),Ev.ior IntKind.u64 (Ev.iand IntKind.u64 (Ev.ishl IntKind.u64 f 8) 4294967295) (u64.wrap 0),i64.wrap (g+1),h,i,j,b)
abbrev YF145_40a:Type:=Int→Int→Int→Int→Int→Int→Bool→Bool→LI→LI→((Int×Int×Int×Int×Int×Int×Bool×Bool×LI×LI)→Option Ans)→Option Ans
theorem F145_40a_eq (fuel:Nat) (a b:Int) (d e:Int) (f g:Int) (h i:Bool) (j l:LI) (k:Ev.Cont):evalFn tab (G145_40a fuel) J0 kp145_40a fuel Tryz.f145 [.c (.ptr 0 0)] [.cells 194 (i6 a::.own 1::ctb (.int .u64 b::.int .u64 d::.own 2::i6 e::.int .u64 f::i6 g::.bool h::.bool i::[])),.vec 3 (.int .i64) j false,.vec 5 (.int .u8) l false] k=F_coder_Decoder_shift_40a fuel a b d e f g h i j l (fun r=>match r with | (m,n,o,p,q,s,t,u,v,w)=>k (.tup [],[.cells 194 (i6 m::.own 1::ctb (.int .u64 n::.int .u64 o::.own 2::i6 p::.int .u64 q::i6 s::.bool t::.bool u::[])),.vec 3 (.int .i64) v false,.vec 5 (.int .u8) w false])):=by
  kernel_rfl
theorem hG145_40a (fuel:Nat):GOK Tryz.prog (G145_40a fuel):=
  gok_nil
def spg145_40a (F:YF145_40a):Ev.Spec:=fun args objs k=>match args,objs with | [.c (.ptr b d)],[.cells e a,.vec f (.int .i64) g false,.vec h (.int .u8) i false]=>(match splitRun 2 ctn a with | some ([i6 j,.own l],[.int .u64 m,.int .u64 n,.own o,i6 p,.int .u64 q,i6 s,.bool t,.bool u])=>bif qb [b,d,e,f,h,l,o] [0,0,194,3,5,1,2] then F j m n p q s t u g i (fun r=>match r with | (v,w,x,y,z,A,B,C,D,E)=>k (.tup [],[.cells 194 (i6 v::.own 1::ctb (.int .u64 w::.int .u64 x::.own 2::i6 y::.int .u64 z::i6 A::.bool B::.bool C::[])),.vec 3 (.int .i64) D false,.vec 5 (.int .u8) E false])) else none | _=>none) | _,_=>none
theorem ok145_40a (fuel:Nat):FnOK Tryz.prog 145 (spg145_40a (F_coder_Decoder_shift_40a fuel)):=by
  intro args objs kk r h
  unfold spg145_40a at h
  split at h
  · skip
    split at h
    rotate_left 1
    · cases h
    rename_i hsp
    have esp:=splitRun_eq hsp
    subst esp
    obtain ⟨hb,h⟩:=cond_some' h
    cases qb_eq hb
    exact fo0 (hG145_40a fuel) Tryz.func145 rfl (by kernel_rfl) _ _ kk r ((F145_40a_eq fuel _ _ _ _ _ _ _ _ _ _ kk).trans h)
  · cases h
def kp65 (i:Nat):Option (List Nat):=Ev.look i [(5,[6,17]),(100000,[6]),(400000,[4,5]),(600000,[])]
def Gg65 (b:YF118) (c:YF119) (a:YF145_40a) (f:Nat):Option Ev.Spec:=Ev.look f [(118,spg118 b),(119,spg119 c),(145,spg145_40a a)]
def G65 (fuel:Nat):Nat→Option Ev.Spec:=Gg65 (F_coder_Valid fuel) (F_coder_begin fuel) (F_coder_Decoder_shift_40a fuel)
abbrev V_coder_NewDecoder_0:Type:=Int×Int×Int×Int×Int×Int×Int×Bool×Bool×LI×LI
abbrev W_coder_NewDecoder_0:Type:=(Int×Int×Int×Int×Int×Int×Bool×Bool×LI×LI→OA)
def Sg_coder_NewDecoder_0 (fuel:Nat) (y:YF118) (z:YF119) (n:YF145_40a) (d e:Int) (f g:Int) (h i j:Int) (k l:Bool) (m a:LI) (c:V_coder_NewDecoder_0→OA) (B:W_coder_NewDecoder_0):OA:=match B with | b=>bif decide (d < 4) then (n e f g h i j k l m a (fun (o,p,q,r,s,t,u,v,w,x)=>c (i64.wrap (d+1),o,p,q,r,s,t,u,v,w,x))) else b (e,f,g,h,i,j,k,l,m,a)
def S_coder_NewDecoder_0 (fuel:Nat) (v:Int×Int×Int×Int×Int×Int×Int×Bool×Bool×(List Int)×(List Int)) (c:(Int×Int×Int×Int×Int×Int×Int×Bool×Bool×(List Int)×(List Int))→Option Ans) (B:(Int×Int×Int×Int×Int×Int×Bool×Bool×(List Int)×(List Int)→Option Ans)):Option Ans:=match v with | (b,d,e,f,g,h,i,j,k,l,a)=>Sg_coder_NewDecoder_0 fuel (F_coder_Valid fuel) (F_coder_begin fuel) (F_coder_Decoder_shift_40a fuel) b d e f g h i j k l a c B
def L_coder_NewDecoder_0 (fuel:Nat) (v:V_coder_NewDecoder_0) (b:W_coder_NewDecoder_0):Option Ans:=iter (S_coder_NewDecoder_0 fuel) fuel v b
def T65_0 (v:V_coder_NewDecoder_0):Ev.St:=match v with | (b,d,e,f,g,h,i,j,k,l,a)=>⟨[(6,.c (.ptr 0 0)),(17,.c (i6 b))],[(0,.cells 194 (i6 d::.own 1::ctb (.int .u64 e::.int .u64 f::.own 2::i6 g::.int .u64 h::i6 i::.bool j::.bool k::[]))),(1,.vec 3 (.int .i64) l true),(2,.vec 5 (.int .u8) a true)],3,0⟩
def E65_0 (K:KT):W_coder_NewDecoder_0:=(fun v=>match v with | (a,b,d,e,f,g,h,i,j,k)=>K .normal ⟨[(6,.c (.ptr 0 0))],[(0,.cells 194 (i6 a::.own 1::ctb (.int .u64 b::.int .u64 d::.own 2::i6 e::.int .u64 f::i6 g::.bool h::.bool i::[]))),(1,.vec 3 (.int .i64) j true),(2,.vec 5 (.int .u8) k true)],3,0⟩)
theorem S65_0_okg (fuel:Nat) (b:YF118) (c:YF119) (a:YF145_40a) (R:Ev.St→OA) (K:KT) (e f:Int) (g h:Int) (i j k:Int) (l m:Bool) (n d:LI):evalCode tab (Gg65 b c a) J0 kp65 fuel (bodyOf 0 Tryz.f65) (T65_0 (e,f,g,h,i,j,k,l,m,n,d)) (lc kp65 5 0 R K)=Sg_coder_NewDecoder_0 fuel b c a e f g h i j k l m n d (fun v=>R (T65_0 v)) (E65_0 K):=by
  kernel_rfl
def B65_0 (fuel:Nat):Ev.Blk:=fun st K=>match canonO (kp65 5) st with | some s=>(match s with | ⟨[(h,.c (.ptr i j)),(k,.c (i6 l))],[(m,.cells n a),(o,.vec p (.int .i64) q true),(r,.vec t (.int .u8) b true)],d,e⟩=>(match splitRun 2 ctn a with | some ([i6 u,.own f],[.int .u64 v,.int .u64 w,.own g,i6 x,.int .u64 y,i6 z,.bool A,.bool B])=>bif qb [h,i,j,k,m,n,o,p,r,t,d,e,f,g] [6,0,0,17,0,194,1,3,2,5,3,0,1,2] then iter (S_coder_NewDecoder_0 fuel) fuel (l,u,v,w,x,y,z,A,B,q,b) (E65_0 K) else none | _=>none) | _=>none) | none=>none
theorem B65_0_ok (fuel:Nat) (st:Ev.St) (K:KT) (r:Ans) (h:B65_0 fuel st K=some r):evalCode tab (G65 fuel) J0 kp65 fuel (.block 0 (.loop (bodyOf 0 Tryz.f65))) st K=some r:=by
  unfold B65_0 at h
  split at h
  · rename_i s hs
    split at h
    · skip
      split at h
      rotate_left 1
      · cases h
      rename_i hsp
      have esp:=splitRun_eq hsp
      subst esp
      obtain ⟨hb,h⟩:=cond_some' h
      cases qb_eq hb
      exact blk_loop (S:=T65_0) (ks:=E65_0) (step:=S_coder_NewDecoder_0 fuel) (v:=(_,_,_,_,_,_,_,_,_,_,_)) (by kernel_rfl) (by kernel_rfl) (fun R K v=>by obtain ⟨b,c,d,e,f,g,i,j,k,l,a⟩:=v; exact S65_0_okg fuel (F_coder_Valid fuel) (F_coder_begin fuel) (F_coder_Decoder_shift_40a fuel) R K b c d e f g i j k l a) hs h
    · cases h
  · cases h
def J65 (fuel:Nat) (i:Nat):Option Ev.Blk:=Ev.look i [(100000,B65_0 fuel)]
def Fg_coder_NewDecoder (fuel:Nat) (d:YF118) (e:YF119) (u:YF145_40a) (b:Int) (c a:LI) (k0:(Int)→OA) (k1:(Int×Int×Int×Int×Int×Int×Int×Bool×Bool×LI×LI)→OA):OA:=(d b c (fun t=>bif !t then k0 (10) else (e b c (fun (f,g,h,i)=>bif decide (((0:Nat)+a.length)*(1:Nat)≤(140737488355328:Nat)∧(0:Nat)+a.length≤(140737488355328:Nat)) then (L_coder_NewDecoder_0 fuel ((0:Int),f,g,h,(0:Int),(0:Int),(0:Int),false,true,i,[]++a) (fun (j,k,l,m,n,o,p,q,r,s)=>k1 (0,j,k,l,m,n,o,p,q,r,s))) else none))))
abbrev YF65:Type:=Int→LI→LI→(Int→Option Ans)→((Int×Int×Int×Int×Int×Int×Int×Bool×Bool×LI×LI)→Option Ans)→Option Ans
def F_coder_NewDecoder (fuel:Nat):YF65:=Fg_coder_NewDecoder fuel (F_coder_Valid fuel) (F_coder_begin fuel) (F_coder_Decoder_shift_40a fuel)
theorem F65_eqg (fuel:Nat) (d:YF118) (e:YF119) (b:YF145_40a) (f:Int) (g h:LI) (k:Ev.Cont):evalFn tab (Gg65 d e b) (J65 fuel) kp65 fuel Tryz.f65 [.agg [i6 f,.sl (.int .i64) g],.c (.sl (.int .u8) h)] [] k=Fg_coder_NewDecoder fuel d e b f g h (fun r=>match r with | a=>k (.tup [(false,[.nilptr]),(false,[i6 a])],[])) (fun r=>match r with | (a,j,l,m,n,o,p,q,s,t,i)=>k (.tup [(false,[.ptr 0 0]),(false,[i6 a])],[.cells 194 (i6 j::.own 1::ctb (.int .u64 l::.int .u64 m::.own 2::i6 n::.int .u64 o::i6 p::.bool q::.bool s::[])),.vec 3 (.int .i64) t true,.vec 5 (.int .u8) i true])):=by
  kernel_rfl
theorem hG65 (fuel:Nat):GOK Tryz.prog (G65 fuel):=
  gc (ok118 fuel) Tryz.func118 (by kernel_rfl) rfl <|
  gc (ok119 fuel) Tryz.func119 (by kernel_rfl) rfl <|
  gc (ok145_40a fuel) Tryz.func145 (by kernel_rfl) rfl <|
  gok_nil
theorem B65_0_blk (fuel:Nat):BlkOK Tryz.prog Tryz.f65.ntmps (.block 0 (.loop (bodyOf 0 Tryz.f65))) (B65_0 fuel):=bo0 (hG65 fuel) (by kernel_rfl) (by kernel_rfl) (B65_0_ok fuel)
def spg65 (F:YF65):Ev.Spec:=fun args objs k=>match args,objs with | [.agg [i6 d,.sl (.int .i64) e],.c (.sl (.int .u8) f)],[]=>F d e f (fun r=>match r with | a=>k (.tup [(false,[.nilptr]),(false,[i6 a])],[])) (fun r=>match r with | (a,g,h,i,j,l,m,n,o,p,b)=>k (.tup [(false,[.ptr 0 0]),(false,[i6 a])],[.cells 194 (i6 g::.own 1::ctb (.int .u64 h::.int .u64 i::.own 2::i6 j::.int .u64 l::i6 m::.bool n::.bool o::[])),.vec 3 (.int .i64) p true,.vec 5 (.int .u8) b true])) | _,_=>none
def spec65 (fuel:Nat):Ev.Spec:=spg65 (F_coder_NewDecoder fuel)
theorem ok65 (fuel:Nat):FnOK Tryz.prog 65 (spec65 fuel):=by
  intro args objs kk r h
  unfold spec65 spg65 at h
  split at h
  · skip
    exact fo1 (hG65 fuel) Tryz.func65 rfl (B65_0_blk fuel) (by kernel_rfl) _ _ kk r ((F65_eqg fuel (F_coder_Valid fuel) (F_coder_begin fuel) (F_coder_Decoder_shift_40a fuel) _ _ _ kk).trans h)
  · cases h
def kp207 (i:Nat):Option (List Nat):=Ev.look i []
def Gg207 (f:Nat):Option Ev.Spec:=Ev.look f []
def G207 (fuel:Nat):Nat→Option Ev.Spec:=Gg207
def F_math_bits_Len64 (fuel:Nat) (a:Int) (k0:(Int)→Option Ans):Option Ans:=bif decide (a≥4294967296) then bif decide (Ev.ishr IntKind.u64 a (32:Int)≥(65536:Int)) then bif decide (Ev.ishr IntKind.u64 (Ev.ishr IntKind.u64 a (32:Int)) (16:Int)≥(256:Int)) then bif decide (0≤u8.wrap (Ev.ishr IntKind.u64 (Ev.ishr IntKind.u64 (Ev.ishr IntKind.u64 a 32) 16) 8)∧u8.wrap (Ev.ishr IntKind.u64 (Ev.ishr IntKind.u64 (Ev.ishr IntKind.u64 a 32) 16) 8) < (↑(ByteArray.mk (([(0:UInt8),(1:UInt8),(2:UInt8),(2:UInt8),(3:UInt8),(3:UInt8),(3:UInt8),(3:UInt8),(4:UInt8),(4:UInt8),(4:UInt8),(4:UInt8),(4:UInt8),(4:UInt8),(4:UInt8),(4:UInt8),(5:UInt8),(5:UInt8),(5:UInt8),(5:UInt8),(5:UInt8),(5:UInt8),(5:UInt8),(5:UInt8),(5:UInt8),(5:UInt8),(5:UInt8),(5:UInt8),(5:UInt8),(5:UInt8),(5:UInt8),(5:UInt8),(6:UInt8),(6:UInt8),(6:UInt8),(6:UInt8),(6:UInt8),(6:UInt8),(6:UInt8),(6:UInt8),(6:UInt8),(6:UInt8),(6:UInt8),(6:UInt8),(6:UInt8),(6:UInt8),(6:UInt8),(6:UInt8),(6:UInt8),(6:UInt8),(6:UInt8),(6:UInt8),(6:UInt8),(6:UInt8),(6:UInt8),(6:UInt8),(6:UInt8),(6:UInt8),(6:UInt8),(6:UInt8),(6:UInt8),(6:UInt8),(6:UInt8),(6:UInt8)].append [(7:UInt8),(7:UInt8),(7:UInt8),(7:UInt8),(7:UInt8),(7:UInt8),(7:UInt8),(7:UInt8),(7:UInt8),(7:UInt8),(7:UInt8),(7:UInt8),(7:UInt8),(7:UInt8),(7:UInt8),(7:UInt8),(7:UInt8),(7:UInt8),(7:UInt8),(7:UInt8),(7:UInt8),(7:UInt8),(7:UInt8),(7:UInt8),(7:UInt8),(7:UInt8),(7:UInt8),(7:UInt8),(7:UInt8),(7:UInt8),(7:UInt8),(7:UInt8),(7:UInt8),(7:UInt8),(7:UInt8),(7:UInt8),(7:UInt8),(7:UInt8),(7:UInt8),(7:UInt8),(7:UInt8),(7:UInt8),(7:UInt8),(7:UInt8),(7:UInt8),(7:UInt8),(7:UInt8),(7:UInt8),(7:UInt8),(7:UInt8),(7:UInt8),(7:UInt8),(7:UInt8),(7:UInt8),(7:UInt8),(7:UInt8),(7:UInt8),(7:UInt8),(7:UInt8),(7:UInt8),(7:UInt8),(7:UInt8),(7:UInt8),(7:UInt8)]).append ([(8:UInt8),(8:UInt8),(8:UInt8),(8:UInt8),(8:UInt8),(8:UInt8),(8:UInt8),(8:UInt8),(8:UInt8),(8:UInt8),(8:UInt8),(8:UInt8),(8:UInt8),(8:UInt8),(8:UInt8),(8:UInt8),(8:UInt8),(8:UInt8),(8:UInt8),(8:UInt8),(8:UInt8),(8:UInt8),(8:UInt8),(8:UInt8),(8:UInt8),(8:UInt8),(8:UInt8),(8:UInt8),(8:UInt8),(8:UInt8),(8:UInt8),(8:UInt8),(8:UInt8),(8:UInt8),(8:UInt8),(8:UInt8),(8:UInt8),(8:UInt8),(8:UInt8),(8:UInt8),(8:UInt8),(8:UInt8),(8:UInt8),(8:UInt8),(8:UInt8),(8:UInt8),(8:UInt8),(8:UInt8),(8:UInt8),(8:UInt8),(8:UInt8),(8:UInt8),(8:UInt8),(8:UInt8),(8:UInt8),(8:UInt8),(8:UInt8),(8:UInt8),(8:UInt8),(8:UInt8),(8:UInt8),(8:UInt8),(8:UInt8),(8:UInt8)].append [(8:UInt8),(8:UInt8),(8:UInt8),(8:UInt8),(8:UInt8),(8:UInt8),(8:UInt8),(8:UInt8),(8:UInt8),(8:UInt8),(8:UInt8),(8:UInt8),(8:UInt8),(8:UInt8),(8:UInt8),(8:UInt8),(8:UInt8),(8:UInt8),(8:UInt8),(8:UInt8),(8:UInt8),(8:UInt8),(8:UInt8),(8:UInt8),(8:UInt8),(8:UInt8),(8:UInt8),(8:UInt8),(8:UInt8),(8:UInt8),(8:UInt8),(8:UInt8),(8:UInt8),(8:UInt8),(8:UInt8),(8:UInt8),(8:UInt8),(8:UInt8),(8:UInt8),(8:UInt8),(8:UInt8),(8:UInt8),(8:UInt8),(8:UInt8),(8:UInt8),(8:UInt8),(8:UInt8),(8:UInt8),(8:UInt8),(8:UInt8),(8:UInt8),(8:UInt8),(8:UInt8),(8:UInt8),(8:UInt8),(8:UInt8),(8:UInt8),(8:UInt8),(8:UInt8),(8:UInt8),(8:UInt8),(8:UInt8),(8:UInt8),(8:UInt8)])).toArray).size:Int)) then k0 (i64.wrap (i64.wrap (i64.wrap ((32:Int)+(16:Int))+(8:Int))+i64.wrap (↑((ByteArray.mk (([(0:UInt8),(1:UInt8),(2:UInt8),(2:UInt8),(3:UInt8),(3:UInt8),(3:UInt8),(3:UInt8),(4:UInt8),(4:UInt8),(4:UInt8),(4:UInt8),(4:UInt8),(4:UInt8),(4:UInt8),(4:UInt8),(5:UInt8),(5:UInt8),(5:UInt8),(5:UInt8),(5:UInt8),(5:UInt8),(5:UInt8),(5:UInt8),(5:UInt8),(5:UInt8),(5:UInt8),(5:UInt8),(5:UInt8),(5:UInt8),(5:UInt8),(5:UInt8),(6:UInt8),(6:UInt8),(6:UInt8),(6:UInt8),(6:UInt8),(6:UInt8),(6:UInt8),(6:UInt8),(6:UInt8),(6:UInt8),(6:UInt8),(6:UInt8),(6:UInt8),(6:UInt8),(6:UInt8),(6:UInt8),(6:UInt8),(6:UInt8),(6:UInt8),(6:UInt8),(6:UInt8),(6:UInt8),(6:UInt8),(6:UInt8),(6:UInt8),(6:UInt8),(6:UInt8),(6:UInt8),(6:UInt8),(6:UInt8),(6:UInt8),(6:UInt8)].append [(7:UInt8),(7:UInt8),(7:UInt8),(7:UInt8),(7:UInt8),(7:UInt8),(7:UInt8),(7:UInt8),(7:UInt8),(7:UInt8),(7:UInt8),(7:UInt8),(7:UInt8),(7:UInt8),(7:UInt8),(7:UInt8),(7:UInt8),(7:UInt8),(7:UInt8),(7:UInt8),(7:UInt8),(7:UInt8),(7:UInt8),(7:UInt8),(7:UInt8),(7:UInt8),(7:UInt8),(7:UInt8),(7:UInt8),(7:UInt8),(7:UInt8),(7:UInt8),(7:UInt8),(7:UInt8),(7:UInt8),(7:UInt8),(7:UInt8),(7:UInt8),(7:UInt8),(7:UInt8),(7:UInt8),(7:UInt8),(7:UInt8),(7:UInt8),(7:UInt8),(7:UInt8),(7:UInt8),(7:UInt8),(7:UInt8),(7:UInt8),(7:UInt8),(7:UInt8),(7:UInt8),(7:UInt8),(7:UInt8),(7:UInt8),(7:UInt8),(7:UInt8),(7:UInt8),(7:UInt8),(7:UInt8),(7:UInt8),(7:UInt8),(7:UInt8)]).append ([(8:UInt8),(8:UInt8),(8:UInt8),(8:UInt8),(8:UInt8),(8:UInt8),(8:UInt8),(8:UInt8),(8:UInt8),(8:UInt8),(8:UInt8),(8:UInt8),(8:UInt8),(8:UInt8),(8:UInt8),(8:UInt8),(8:UInt8),(8:UInt8),(8:UInt8),(8:UInt8),(8:UInt8),(8:UInt8),(8:UInt8),(8:UInt8),(8:UInt8),(8:UInt8),(8:UInt8),(8:UInt8),(8:UInt8),(8:UInt8),(8:UInt8),(8:UInt8),(8:UInt8),(8:UInt8),(8:UInt8),(8:UInt8),(8:UInt8),(8:UInt8),(8:UInt8),(8:UInt8),(8:UInt8),(8:UInt8),(8:UInt8),(8:UInt8),(8:UInt8),(8:UInt8),(8:UInt8),(8:UInt8),(8:UInt8),(8:UInt8),(8:UInt8),(8:UInt8),(8:UInt8),(8:UInt8),(8:UInt8),(8:UInt8),(8:UInt8),(8:UInt8),(8:UInt8),(8:UInt8),(8:UInt8),(8:UInt8),(8:UInt8),(8:UInt8)].append [(8:UInt8),(8:UInt8),(8:UInt8),(8:UInt8),(8:UInt8),(8:UInt8),(8:UInt8),(8:UInt8),(8:UInt8),(8:UInt8),(8:UInt8),(8:UInt8),(8:UInt8),(8:UInt8),(8:UInt8),(8:UInt8),(8:UInt8),(8:UInt8),(8:UInt8),(8:UInt8),(8:UInt8),(8:UInt8),(8:UInt8),(8:UInt8),(8:UInt8),(8:UInt8),(8:UInt8),(8:UInt8),(8:UInt8),(8:UInt8),(8:UInt8),(8:UInt8),(8:UInt8),(8:UInt8),(8:UInt8),(8:UInt8),(8:UInt8),(8:UInt8),(8:UInt8),(8:UInt8),(8:UInt8),(8:UInt8),(8:UInt8),(8:UInt8),(8:UInt8),(8:UInt8),(8:UInt8),(8:UInt8),(8:UInt8),(8:UInt8),(8:UInt8),(8:UInt8),(8:UInt8),(8:UInt8),(8:UInt8),(8:UInt8),(8:UInt8),(8:UInt8),(8:UInt8),(8:UInt8),(8:UInt8),(8:UInt8),(8:UInt8),(8:UInt8)])).toArray).data.toList.getD (u8.wrap (Ev.ishr IntKind.u64 (Ev.ishr IntKind.u64 (Ev.ishr IntKind.u64 a (32:Int)) (16:Int)) (8:Int))).toNat (0:UInt8)).toNat:Int))) else none else bif decide (0≤u8.wrap (Ev.ishr IntKind.u64 (Ev.ishr IntKind.u64 a 32) 16)∧u8.wrap (Ev.ishr IntKind.u64 (Ev.ishr IntKind.u64 a 32) 16) < (↑(ByteArray.mk (([(0:UInt8),(1:UInt8),(2:UInt8),(2:UInt8),(3:UInt8),(3:UInt8),(3:UInt8),(3:UInt8),(4:UInt8),(4:UInt8),(4:UInt8),(4:UInt8),(4:UInt8),(4:UInt8),(4:UInt8),(4:UInt8),(5:UInt8),(5:UInt8),(5:UInt8),(5:UInt8),(5:UInt8),(5:UInt8),(5:UInt8),(5:UInt8),(5:UInt8),(5:UInt8),(5:UInt8),(5:UInt8),(5:UInt8),(5:UInt8),(5:UInt8),(5:UInt8),(6:UInt8),(6:UInt8),(6:UInt8),(6:UInt8),(6:UInt8),(6:UInt8),(6:UInt8),(6:UInt8),(6:UInt8),(6:UInt8),(6:UInt8),(6:UInt8),(6:UInt8),(6:UInt8),(6:UInt8),(6:UInt8),(6:UInt8),(6:UInt8),(6:UInt8),(6:UInt8),(6:UInt8),(6:UInt8),(6:UInt8),(6:UInt8),(6:UInt8),(6:UInt8),(6:UInt8),(6:UInt8),(6:UInt8),(6:UInt8),(6:UInt8),(6:UInt8)].append [(7:UInt8),(7:UInt8),(7:UInt8),(7:UInt8),(7:UInt8),(7:UInt8),(7:UInt8),(7:UInt8),(7:UInt8),(7:UInt8),(7:UInt8),(7:UInt8),(7:UInt8),(7:UInt8),(7:UInt8),(7:UInt8),(7:UInt8),(7:UInt8),(7:UInt8),(7:UInt8),(7:UInt8),(7:UInt8),(7:UInt8),(7:UInt8),(7:UInt8),(7:UInt8),(7:UInt8),(7:UInt8),(7:UInt8),(7:UInt8),(7:UInt8),(7:UInt8),(7:UInt8),(7:UInt8),(7:UInt8),(7:UInt8),(7:UInt8),(7:UInt8),(7:UInt8),(7:UInt8),(7:UInt8),(7:UInt8),(7:UInt8),(7:UInt8),(7:UInt8),(7:UInt8),(7:UInt8),(7:UInt8),(7:UInt8),(7:UInt8),(7:UInt8),(7:UInt8),(7:UInt8),(7:UInt8),(7:UInt8),(7:UInt8),(7:UInt8),(7:UInt8),(7:UInt8),(7:UInt8),(7:UInt8),(7:UInt8),(7:UInt8),(7:UInt8)]).append ([(8:UInt8),(8:UInt8),(8:UInt8),(8:UInt8),(8:UInt8),(8:UInt8),(8:UInt8),(8:UInt8),(8:UInt8),(8:UInt8),(8:UInt8),(8:UInt8),(8:UInt8),(8:UInt8),(8:UInt8),(8:UInt8),(8:UInt8),(8:UInt8),(8:UInt8),(8:UInt8),(8:UInt8),(8:UInt8),(8:UInt8),(8:UInt8),(8:UInt8),(8:UInt8),(8:UInt8),(8:UInt8),(8:UInt8),(8:UInt8),(8:UInt8),(8:UInt8),(8:UInt8),(8:UInt8),(8:UInt8),(8:UInt8),(8:UInt8),(8:UInt8),(8:UInt8),(8:UInt8),(8:UInt8),(8:UInt8),(8:UInt8),(8:UInt8),(8:UInt8),(8:UInt8),(8:UInt8),(8:UInt8),(8:UInt8),(8:UInt8),(8:UInt8),(8:UInt8),(8:UInt8),(8:UInt8),(8:UInt8),(8:UInt8),(8:UInt8),(8:UInt8),(8:UInt8),(8:UInt8),(8:UInt8),(8:UInt8),(8:UInt8),(8:UInt8)].append [(8:UInt8),(8:UInt8),(8:UInt8),(8:UInt8),(8:UInt8),(8:UInt8),(8:UInt8),(8:UInt8),(8:UInt8),(8:UInt8),(8:UInt8),(8:UInt8),(8:UInt8),(8:UInt8),(8:UInt8),(8:UInt8),(8:UInt8),(8:UInt8),(8:UInt8),(8:UInt8),(8:UInt8),(8:UInt8),(8:UInt8),(8:UInt8),(8:UInt8),(8:UInt8),(8:UInt8),(8:UInt8),(8:UInt8),(8:UInt8),(8:UInt8),(8:UInt8),(8:UInt8),(8:UInt8),(8:UInt8),(8:UInt8),(8:UInt8),(8:UInt8),(8:UInt8),(8:UInt8),(8:UInt8),(8:UInt8),(8:UInt8),(8:UInt8),(8:UInt8),(8:UInt8),(8:UInt8),(8:UInt8),(8:UInt8),(8:UInt8),(8:UInt8),(8:UInt8),(8:UInt8),(8:UInt8),(8:UInt8),(8:UInt8),(8:UInt8),(8:UInt8),(8:UInt8),(8:UInt8),(8:UInt8),(8:UInt8),(8:UInt8),(8:UInt8)])).toArray).size:Int)) then k0 (i64.wrap (i64.wrap ((32:Int)+(16:Int))+i64.wrap (↑((ByteArray.mk (([(0:UInt8),(1:UInt8),(2:UInt8),(2:UInt8),(3:UInt8),(3:UInt8),(3:UInt8),(3:UInt8),(4:UInt8),(4:UInt8),(4:UInt8),(4:UInt8),(4:UInt8),(4:UInt8),(4:UInt8),(4:UInt8),(5:UInt8),(5:UInt8),(5:UInt8),(5:UInt8),(5:UInt8),(5:UInt8),(5:UInt8),(5:UInt8),(5:UInt8),(5:UInt8),(5:UInt8),(5:UInt8),(5:UInt8),(5:UInt8),(5:UInt8),(5:UInt8),(6:UInt8),(6:UInt8),(6:UInt8),(6:UInt8),(6:UInt8),(6:UInt8),(6:UInt8),(6:UInt8),(6:UInt8),(6:UInt8),(6:UInt8),(6:UInt8),(6:UInt8),(6:UInt8),(6:UInt8),(6:UInt8),(6:UInt8),(6:UInt8),(6:UInt8),(6:UInt8),(6:UInt8),(6:UInt8),(6:UInt8),(6:UInt8),(6:UInt8),(6:UInt8),(6:UInt8),(6:UInt8),(6:UInt8),(6:UInt8),(6:UInt8),(6:UInt8)].append [(7:UInt8),(7:UInt8),(7:UInt8),(7:UInt8),(7:UInt8),(7:UInt8),(7:UInt8),(7:UInt8),(7:UInt8),(7:UInt8),(7:UInt8),(7:UInt8),(7:UInt8),(7:UInt8),(7:UInt8),(7:UInt8),(7:UInt8),(7:UInt8),(7:UInt8),(7:UInt8),(7:UInt8),(7:UInt8),(7:UInt8),(7:UInt8),(7:UInt8),(7:UInt8),(7:UInt8),(7:UInt8),(7:UInt8),(7:UInt8),(7:UInt8),(7:UInt8),(7:UInt8),(7:UInt8),(7:UInt8),(7:UInt8),(7:UInt8),(7:UInt8),(7:UInt8),(7:UInt8),(7:UInt8),(7:UInt8),(7:UInt8),(7:UInt8),(7:UInt8),(7:UInt8),(7:UInt8),(7:UInt8),(7:UInt8),(7:UInt8),(7:UInt8),(7:UInt8),(7:UInt8),(7:UInt8),(7:UInt8),(7:UInt8),(7:UInt8),(7:UInt8),(7:UInt8),(7:UInt8),(7:UInt8),(7:UInt8),(7:UInt8),(7:UInt8)]).append ([(8:UInt8),(8:UInt8),(8:UInt8),(8:UInt8),(8:UInt8),(8:UInt8),(8:UInt8),(8:UInt8),(8:UInt8),(8:UInt8),(8:UInt8),(8:UInt8),(8:UInt8),(8:UInt8),(8:UInt8),(8:UInt8),(8:UInt8),(8:UInt8),(8:UInt8),(8:UInt8),(8:UInt8),(8:UInt8),(8:UInt8),(8:UInt8),(8:UInt8),(8:UInt8),(8:UInt8),(8:UInt8),(8:UInt8),(8:UInt8),(8:UInt8),(8:UInt8),(8:UInt8),(8:UInt8),(8:UInt8),(8:UInt8),(8:UInt8),(8:UInt8),(8:UInt8),(8:UInt8),(8:UInt8),(8:UInt8),(8:UInt8),(8:UInt8),(8:UInt8),(8:UInt8),(8:UInt8),(8:UInt8),(8:UInt8),(8:UInt8),(8:UInt8),(8:UInt8),(8:UInt8),(8:UInt8),(8:UInt8),(8:UInt8),(8:UInt8),(8:UInt8),(8:UInt8),(8:UInt8),(8:UInt8),(8:UInt8),(8:UInt8),(8:UInt8)].append [(8:UInt8),(8:UInt8),(8:UInt8),(8:UInt8),(8:UInt8),(8:UInt8),(8:UInt8),(8:UInt8),(8:UInt8),(8:UInt8),(8:UInt8),(8:UInt8),(8:UInt8),(8:UInt8),(8:UInt8),(8:UInt8),(8:UInt8),(8:UInt8),(8:UInt8),(8:UInt8),(8:UInt8),(8:UInt8),(8:UInt8),(8:UInt8),(8:UInt8),(8:UInt8),(8:UInt8),(8:UInt8),(8:UInt8),(8:UInt8),(8:UInt8),(8:UInt8),(8:UInt8),(8:UInt8),(8:UInt8),(8:UInt8),(8:UInt8),(8:UInt8),(8:UInt8),(8:UInt8),(8:UInt8),(8:UInt8),(8:UInt8),(8:UInt8),(8:UInt8),(8:UInt8),(8:UInt8),(8:UInt8),(8:UInt8),(8:UInt8),(8:UInt8),(8:UInt8),(8:UInt8),(8:UInt8),(8:UInt8),(8:UInt8),(8:UInt8),(8:UInt8),(8:UInt8),(8:UInt8),(8:UInt8),(8:UInt8),(8:UInt8),(8:UInt8)])).toArray).data.toList.getD (u8.wrap (Ev.ishr IntKind.u64 (Ev.ishr IntKind.u64 a (32:Int)) (16:Int))).toNat (0:UInt8)).toNat:Int))) else none else bif decide (Ev.ishr IntKind.u64 a (32:Int)≥(256:Int)) then bif decide (0≤u8.wrap (Ev.ishr IntKind.u64 (Ev.ishr IntKind.u64 a 32) 8)∧u8.wrap (Ev.ishr IntKind.u64 (Ev.ishr IntKind.u64 a 32) 8) < (↑(ByteArray.mk (([(0:UInt8),(1:UInt8),(2:UInt8),(2:UInt8),(3:UInt8),(3:UInt8),(3:UInt8),(3:UInt8),(4:UInt8),(4:UInt8),(4:UInt8),(4:UInt8),(4:UInt8),(4:UInt8),(4:UInt8),(4:UInt8),(5:UInt8),(5:UInt8),(5:UInt8),(5:UInt8),(5:UInt8),(5:UInt8),(5:UInt8),(5:UInt8),(5:UInt8),(5:UInt8),(5:UInt8),(5:UInt8),(5:UInt8),(5:UInt8),(5:UInt8),(5:UInt8),(6:UInt8),(6:UInt8),(6:UInt8),(6:UInt8),(6:UInt8),(6:UInt8),(6:UInt8),(6:UInt8),(6:UInt8),(6:UInt8),(6:UInt8),(6:UInt8),(6:UInt8),(6:UInt8),(6:UInt8),(6:UInt8),(6:UInt8),(6:UInt8),(6:UInt8),(6:UInt8),(6:UInt8),(6:UInt8),(6:UInt8),(6:UInt8),(6:UInt8),(6:UInt8),(6:UInt8),(6:UInt8),(6:UInt8),(6:UInt8),(6:UInt8),(6:UInt8)].append [(7:UInt8),(7:UInt8),(7:UInt8),(7:UInt8),(7:UInt8),(7:UInt8),(7:UInt8),(7:UInt8),(7:UInt8),(7:UInt8),(7:UInt8),(7:UInt8),(7:UInt8),(7:UInt8),(7:UInt8),(7:UInt8),(7:UInt8),(7:UInt8),(7:UInt8),(7:UInt8),(7:UInt8),(7:UInt8),(7:UInt8),(7:UInt8),(7:UInt8),(7:UInt8),(7:UInt8),(7:UInt8),(7:UInt8),(7:UInt8),(7:UInt8),(7:UInt8),(7:UInt8),(7:UInt8),(7:UInt8),(7:UInt8),(7:UInt8),(7:UInt8),(7:UInt8),(7:UInt8),(7:UInt8),(7:UInt8),(7:UInt8),(7:UInt8),(7:UInt8),(7:UInt8),(7:UInt8),(7:UInt8),(7:UInt8),(7:UInt8),(7:UInt8),(7:UInt8),(7:UInt8),(7:UInt8),(7:UInt8),(7:UInt8),(7:UInt8),(7:UInt8),(7:UInt8),(7:UInt8),(7:UInt8),(7:UInt8),(7:UInt8),(7:UInt8)]).append ([(8:UInt8),(8:UInt8),(8:UInt8),(8:UInt8),(8:UInt8),(8:UInt8),(8:UInt8),(8:UInt8),(8:UInt8),(8:UInt8),(8:UInt8),(8:UInt8),(8:UInt8),(8:UInt8),(8:UInt8),(8:UInt8),(8:UInt8),(8:UInt8),(8:UInt8),(8:UInt8),(8:UInt8),(8:UInt8),(8:UInt8),(8:UInt8),(8:UInt8),(8:UInt8),(8:UInt8),(8:UInt8),(8:UInt8),(8:UInt8),(8:UInt8),(8:UInt8),(8:UInt8),(8:UInt8),(8:UInt8),(8:UInt8),(8:UInt8),(8:UInt8),(8:UInt8),(8:UInt8),(8:UInt8),(8:UInt8),(8:UInt8),(8:UInt8),(8:UInt8),(8:UInt8),(8:UInt8),(8:UInt8),(8:UInt8),(8:UInt8),(8:UInt8),(8:UInt8),(8:UInt8),(8:UInt8),(8:UInt8),(8:UInt8),(8:UInt8),(8:UInt8),(8:UInt8),(8:UInt8),(8:UInt8),(8:UInt8),(8:UInt8),(8:UInt8)].append [(8:UInt8),(8:UInt8),(8:UInt8),(8:UInt8),(8:UInt8),(8:UInt8),(8:UInt8),(8:UInt8),(8:UInt8),(8:UInt8),(8:UInt8),(8:UInt8),(8:UInt8),(8:UInt8),(8:UInt8),(8:UInt8),(8:UInt8),(8:UInt8),(8:UInt8),(8:UInt8),(8:UInt8),(8:UInt8),(8:UInt8),(8:UInt8),(8:UInt8),(8:UInt8),(8:UInt8),(8:UInt8),(8:UInt8),(8:UInt8),(8:UInt8),(8:UInt8),(8:UInt8),(8:UInt8),(8:UInt8),(8:UInt8),(8:UInt8),(8:UInt8),(8:UInt8),(8:UInt8),(8:UInt8),(8:UInt8),(8:UInt8),(8:UInt8),(8:UInt8),(8:UInt8),(8:UInt8),(8:UInt8),(8:UInt8),(8:UInt8),(8:UInt8),(8:UInt8),(8:UInt8),(8:UInt8),(8:UInt8),(8:UInt8),(8:UInt8),(8:UInt8),(8:UInt8),(8:UInt8),(8:UInt8),(8:UInt8),(8:UInt8),(8:UInt8)])).toArray).size:Int)) then k0 (i64.wrap (i64.wrap ((32:Int)+(8:Int))+i64.wrap (↑((ByteArray.mk (([(0:UInt8),(1:UInt8),(2:UInt8),(2:UInt8),(3:UInt8),(3:UInt8),(3:UInt8),(3:UInt8),(4:UInt8),(4:UInt8),(4:UInt8),(4:UInt8),(4:UInt8),(4:UInt8),(4:UInt8),(4:UInt8),(5:UInt8),(5:UInt8),(5:UInt8),(5:UInt8),(5:UInt8),(5:UInt8),(5:UInt8),(5:UInt8),(5:UInt8),(5:UInt8),(5:UInt8),(5:UInt8),(5:UInt8),(5:UInt8),(5:UInt8),(5:UInt8),(6:UInt8),(6:UInt8),(6:UInt8),(6:UInt8),(6:UInt8),(6:UInt8),(6:UInt8),(6:UInt8),(6:UInt8),(6:UInt8),(6:UInt8),(6:UInt8),(6:UInt8),(6:UInt8),(6:UInt8),(6:UInt8),(6:UInt8),(6:UInt8),(6:UInt8),(6:UInt8),(6:UInt8),(6:UInt8),(6:UInt8),(6:UInt8),(6:UInt8),(6:UInt8),(6:UInt8),(6:UInt8),(6:UInt8),(6:UInt8),(6:UInt8),(6:UInt8)].append [(7:UInt8),(7:UInt8),(7:UInt8),(7:UInt8),(7:UInt8),(7:UInt8),(7:UInt8),(7:UInt8),(7:UInt8),(7:UInt8),(7:UInt8),(7:UInt8),(7:UInt8),(7:UInt8),(7:UInt8),(7:UInt8),(7:UInt8),(7:UInt8),(7:UInt8),(7:UInt8),(7:UInt8),(7:UInt8),(7:UInt8),(7:UInt8),(7:UInt8),(7:UInt8),(7:UInt8),(7:UInt8),(7:UInt8),(7:UInt8),(7:UInt8),(7:UInt8),(7:UInt8),(7:UInt8),(7:UInt8),(7:UInt8),(7:UInt8),(7:UInt8),(7:UInt8),(7:UInt8),(7:UInt8),(7:UInt8),(7:UInt8),(7:UInt8),(7:UInt8),(7:UInt8),(7:UInt8),(7:UInt8),(7:UInt8),(7:UInt8),(7:UInt8),(7:UInt8),(7:UInt8),(7:UInt8),(7:UInt8),(7:UInt8),(7:UInt8),(7:UInt8),(7:UInt8),(7:UInt8),(7:UInt8),(7:UInt8),(7:UInt8),(7:UInt8)]).append ([(8:UInt8),(8:UInt8),(8:UInt8),(8:UInt8),(8:UInt8),(8:UInt8),(8:UInt8),(8:UInt8),(8:UInt8),(8:UInt8),(8:UInt8),(8:UInt8),(8:UInt8),(8:UInt8),(8:UInt8),(8:UInt8),(8:UInt8),(8:UInt8),(8:UInt8),(8:UInt8),(8:UInt8),(8:UInt8),(8:UInt8),(8:UInt8),(8:UInt8),(8:UInt8),(8:UInt8),(8:UInt8),(8:UInt8),(8:UInt8),(8:UInt8),(8:UInt8),(8:UInt8),(8:UInt8),(8:UInt8),(8:UInt8),(8:UInt8),(8:UInt8),(8:UInt8),(8:UInt8),(8:UInt8),(8:UInt8),(8:UInt8),(8:UInt8),(8:UInt8),(8:UInt8),(8:UInt8),(8:UInt8),(8:UInt8),(8:UInt8),(8:UInt8),(8:UInt8),(8:UInt8),(8:UInt8),(8:UInt8),(8:UInt8),(8:UInt8),(8:UInt8),(8:UInt8),(8:UInt8),(8:UInt8),(8:UInt8),(8:UInt8),(8:UInt8)].append [(8:UInt8),(8:UInt8),(8:UInt8),(8:UInt8),(8:UInt8),(8:UInt8),(8:UInt8),(8:UInt8),(8:UInt8),(8:UInt8),(8:UInt8),(8:UInt8),(8:UInt8),(8:UInt8),(8:UInt8),(8:UInt8),(8:UInt8),(8:UInt8),(8:UInt8),(8:UInt8),(8:UInt8),(8:UInt8),(8:UInt8),(8:UInt8),(8:UInt8),(8:UInt8),(8:UInt8),(8:UInt8),(8:UInt8),(8:UInt8),(8:UInt8),(8:UInt8),(8:UInt8),(8:UInt8),(8:UInt8),(8:UInt8),(8:UInt8),(8:UInt8),(8:UInt8),(8:UInt8),(8:UInt8),(8:UInt8),(8:UInt8),(8:UInt8),(8:UInt8),(8:UInt8),(8:UInt8),(8:UInt8),(8:UInt8),(8:UInt8),(8:UInt8),(8:UInt8),(8:UInt8),(8:UInt8),(8:UInt8),(8:UInt8),(8:UInt8),(8:UInt8),(8:UInt8),(8:UInt8),(8:UInt8),(8:UInt8),(8:UInt8),(8:UInt8)])).toArray).data.toList.getD (u8.wrap (Ev.ishr IntKind.u64 (Ev.ishr IntKind.u64 a (32:Int)) (8:Int))).toNat (0:UInt8)).toNat:Int))) else none else bif decide (0≤u8.wrap (Ev.ishr IntKind.u64 a 32)∧u8.wrap (Ev.ishr IntKind.u64 a 32) < (↑(ByteArray.mk (([(0:UInt8),(1:UInt8),(2:UInt8),(2:UInt8),(3:UInt8),(3:UInt8),(3:UInt8),(3:UInt8),(4:UInt8),(4:UInt8),(4:UInt8),(4:UInt8),(4:UInt8),(4:UInt8),(4:UInt8),(4:UInt8),(5:UInt8),(5:UInt8),(5:UInt8),(5:UInt8),(5:UInt8),(5:UInt8),(5:UInt8),(5:UInt8),(5:UInt8),(5:UInt8),(5:UInt8),(5:UInt8),(5:UInt8),(5:UInt8),(5:UInt8),(5:UInt8),(6:UInt8),(6:UInt8),(6:UInt8),(6:UInt8),(6:UInt8),(6:UInt8),(6:UInt8),(6:UInt8),(6:UInt8),(6:UInt8),(6:UInt8),(6:UInt8),(6:UInt8),(6:UInt8),(6:UInt8),(6:UInt8),(6:UInt8),(6:UInt8),(6:UInt8),(6:UInt8),(6:UInt8),(6:UInt8),(6:UInt8),(6:UInt8),(6:UInt8),(6:UInt8),(6:UInt8),(6:UInt8),(6:UInt8),(6:UInt8),(6:UInt8),(6:UInt8)].append [(7:UInt8),(7:UInt8),(7:UInt8),(7:UInt8),(7:UInt8),(7:UInt8),(7:UInt8),(7:UInt8),(7:UInt8),(7:UInt8),(7:UInt8),(7:UInt8),(7:UInt8),(7:UInt8),(7:UInt8),(7:UInt8),(7:UInt8),(7:UInt8),(7:UInt8),(7:UInt8),(7:UInt8),(7:UInt8),(7:UInt8),(7:UInt8),(7:UInt8),(7:UInt8),(7:UInt8),(7:UInt8),(7:UInt8),(7:UInt8),(7:UInt8),(7:UInt8),(7:UInt8),(7:UInt8),(7:UInt8),(7:UInt8),(7:UInt8),(7:UInt8),(7:UInt8),(7:UInt8),(7:UInt8),(7:UInt8),(7:UInt8),(7:UInt8),(7:UInt8),(7:UInt8),(7:UInt8),(7:UInt8),(7:UInt8),(7:UInt8),(7:UInt8),(7:UInt8),(7:UInt8),(7:UInt8),(7:UInt8),(7:UInt8),(7:UInt8),(7:UInt8),(7:UInt8),(7:UInt8),(7:UInt8),(7:UInt8),(7:UInt8),(7:UInt8)]).append ([(8:UInt8),(8:UInt8),(8:UInt8),(8:UInt8),(8:UInt8),(8:UInt8),(8:UInt8),(8:UInt8),(8:UInt8),(8:UInt8),(8:UInt8),(8:UInt8),(8:UInt8),(8:UInt8),(8:UInt8),(8:UInt8),(8:UInt8),(8:UInt8),(8:UInt8),(8:UInt8),(8:UInt8),(8:UInt8),(8:UInt8),(8:UInt8),(8:UInt8),(8:UInt8),(8:UInt8),(8:UInt8),(8:UInt8),(8:UInt8),(8:UInt8),(8:UInt8),(8:UInt8),(8:UInt8),(8:UInt8),(8:UInt8),(8:UInt8),(8:UInt8),(8:UInt8),(8:UInt8),(8:UInt8),(8:UInt8),(8:UInt8),(8:UInt8),(8:UInt8),(8:UInt8),(8:UInt8),(8:UInt8),(8:UInt8),(8:UInt8),(8:UInt8),(8:UInt8),(8:UInt8),(8:UInt8),(8:UInt8),(8:UInt8),(8:UInt8),(8:UInt8),(8:UInt8),(8:UInt8),(8:UInt8),(8:UInt8),(8:UInt8),(8:UInt8)].append [(8:UInt8),(8:UInt8),(8:UInt8),(8:UInt8),(8:UInt8),(8:UInt8),(8:UInt8),(8:UInt8),(8:UInt8),(8:UInt8),(8:UInt8),(8:UInt8),(8:UInt8),(8:UInt8),(8:UInt8),(8:UInt8),(8:UInt8),(8:UInt8),(8:UInt8),(8:UInt8),(8:UInt8),(8:UInt8),(8:UInt8),(8:UInt8),(8:UInt8),(8:UInt8),(8:UInt8),(8:UInt8),(8:UInt8),(8:UInt8),(8:UInt8),(8:UInt8),(8:UInt8),(8:UInt8),(8:UInt8),(8:UInt8),(8:UInt8),(8:UInt8),(8:UInt8),(8:UInt8),(8:UInt8),(8:UInt8),(8:UInt8),(8:UInt8),(8:UInt8),(8:UInt8),(8:UInt8),(8:UInt8),(8:UInt8),(8:UInt8),(8:UInt8),(8:UInt8),(8:UInt8),(8:UInt8),(8:UInt8),(8:UInt8),(8:UInt8),(8:UInt8),(8:UInt8),(8:UInt8),(8:UInt8),(8:UInt8),(8:UInt8),(8:UInt8)])).toArray).size:Int)) then k0 (i64.wrap (32+i64.wrap (↑((ByteArray.mk (([(0:UInt8),(1:UInt8),(2:UInt8),(2:UInt8),(3:UInt8),(3:UInt8),(3:UInt8),(3:UInt8),(4:UInt8),(4:UInt8),(4:UInt8),(4:UInt8),(4:UInt8),(4:UInt8),(4:UInt8),(4:UInt8),(5:UInt8),(5:UInt8),(5:UInt8),(5:UInt8),(5:UInt8),(5:UInt8),(5:UInt8),(5:UInt8),(5:UInt8),(5:UInt8),(5:UInt8),(5:UInt8),(5:UInt8),(5:UInt8),(5:UInt8),(5:UInt8),(6:UInt8),(6:UInt8),(6:UInt8),(6:UInt8),(6:UInt8),(6:UInt8),(6:UInt8),(6:UInt8),(6:UInt8),(6:UInt8),(6:UInt8),(6:UInt8),(6:UInt8),(6:UInt8),(6:UInt8),(6:UInt8),(6:UInt8),(6:UInt8),(6:UInt8),(6:UInt8),(6:UInt8),(6:UInt8),(6:UInt8),(6:UInt8),(6:UInt8),(6:UInt8),(6:UInt8),(6:UInt8),(6:UInt8),(6:UInt8),(6:UInt8),(6:UInt8)].append [(7:UInt8),(7:UInt8),(7:UInt8),(7:UInt8),(7:UInt8),(7:UInt8),(7:UInt8),(7:UInt8),(7:UInt8),(7:UInt8),(7:UInt8),(7:UInt8),(7:UInt8),(7:UInt8),(7:UInt8),(7:UInt8),(7:UInt8),(7:UInt8),(7:UInt8),(7:UInt8),(7:UInt8),(7:UInt8),(7:UInt8),(7:UInt8),(7:UInt8),(7:UInt8),(7:UInt8),(7:UInt8),(7:UInt8),(7:UInt8),(7:UInt8),(7:UInt8),(7:UInt8),(7:UInt8),(7:UInt8),(7:UInt8),(7:UInt8),(7:UInt8),(7:UInt8),(7:UInt8),(7:UInt8),(7:UInt8),(7:UInt8),(7:UInt8),(7:UInt8),(7:UInt8),(7:UInt8),(7:UInt8),(7:UInt8),(7:UInt8),(7:UInt8),(7:UInt8),(7:UInt8),(7:UInt8),(7:UInt8),(7:UInt8),(7:UInt8),(7:UInt8),(7:UInt8),(7:UInt8),(7:UInt8),(7:UInt8),(7:UInt8),(7:UInt8)]).append ([(8:UInt8),(8:UInt8),(8:UInt8),(8:UInt8),(8:UInt8),(8:UInt8),(8:UInt8),(8:UInt8),(8:UInt8),(8:UInt8),(8:UInt8),(8:UInt8),(8:UInt8),(8:UInt8),(8:UInt8),(8:UInt8),(8:UInt8),(8:UInt8),(8:UInt8),(8:UInt8),(8:UInt8),(8:UInt8),(8:UInt8),(8:UInt8),(8:UInt8),(8:UInt8),(8:UInt8),(8:UInt8),(8:UInt8),(8:UInt8),(8:UInt8),(8:UInt8),(8:UInt8),(8:UInt8),(8:UInt8),(8:UInt8),(8:UInt8),(8:UInt8),(8:UInt8),(8:UInt8),(8:UInt8),(8:UInt8),(8:UInt8),(8:UInt8),(8:UInt8),(8:UInt8),(8:UInt8),(8:UInt8),(8:UInt8),(8:UInt8),(8:UInt8),(8:UInt8),(8:UInt8),(8:UInt8),(8:UInt8),(8:UInt8),(8:UInt8),(8:UInt8),(8:UInt8),(8:UInt8),(8:UInt8),(8:UInt8),(8:UInt8),(8:UInt8)].append [(8:UInt8),(8:UInt8),(8:UInt8),(8:UInt8),(8:UInt8),(8:UInt8),(8:UInt8),(8:UInt8),(8:UInt8),(8:UInt8),(8:UInt8),(8:UInt8),(8:UInt8),(8:UInt8),(8:UInt8),(8:UInt8),(8:UInt8),(8:UInt8),(8:UInt8),(8:UInt8),(8:UInt8),(8:UInt8),(8:UInt8),(8:UInt8),(8:UInt8),(8:UInt8),(8:UInt8),(8:UInt8),(8:UInt8),(8:UInt8),(8:UInt8),(8:UInt8),(8:UInt8),(8:UInt8),(8:UInt8),(8:UInt8),(8:UInt8),(8:UInt8),(8:UInt8),(8:UInt8),(8:UInt8),(8:UInt8),(8:UInt8),(8:UInt8),(8:UInt8),(8:UInt8),(8:UInt8),(8:UInt8),(8:UInt8),(8:UInt8),(8:UInt8),(8:UInt8),(8:UInt8),(8:UInt8),(8:UInt8),(8:UInt8),(8:UInt8),(8:UInt8),(8:UInt8),(8:UInt8),(8:UInt8),(8:UInt8),(8:UInt8),(8:UInt8)])).toArray).data.toList.getD (u8.wrap (Ev.ishr IntKind.u64 a 32)).toNat (0:UInt8)).toNat:Int))) else none else bif decide (a≥65536) then bif decide (Ev.ishr IntKind.u64 a (16:Int)≥(256:Int)) then bif decide (0≤u8.wrap (Ev.ishr IntKind.u64 (Ev.ishr IntKind.u64 a 16) 8)∧u8.wrap (Ev.ishr IntKind.u64 (Ev.ishr IntKind.u64 a 16) 8) < (↑(ByteArray.mk (([(0:UInt8),(1:UInt8),(2:UInt8),(2:UInt8),(3:UInt8),(3:UInt8),(3:UInt8),(3:UInt8),(4:UInt8),(4:UInt8),(4:UInt8),(4:UInt8),(4:UInt8),(4:UInt8),(4:UInt8),(4:UInt8),(5:UInt8),(5:UInt8),(5:UInt8),(5:UInt8),(5:UInt8),(5:UInt8),(5:UInt8),(5:UInt8),(5:UInt8),(5:UInt8),(5:UInt8),(5:UInt8),(5:UInt8),(5:UInt8),(5:UInt8),(5:UInt8),(6:UInt8),(6:UInt8),(6:UInt8),(6:UInt8),(6:UInt8),(6:UInt8),(6:UInt8),(6:UInt8),(6:UInt8),(6:UInt8),(6:UInt8),(6:UInt8),(6:UInt8),(6:UInt8),(6:UInt8),(6:UInt8),(6:UInt8),(6:UInt8),(6:UInt8),(6:UInt8),(6:UInt8),(6:UInt8),(6:UInt8),(6:UInt8),(6:UInt8),(6:UInt8),(6:UInt8),(6:UInt8),(6:UInt8),(6:UInt8),(6:UInt8),(6:UInt8)].append [(7:UInt8),(7:UInt8),(7:UInt8),(7:UInt8),(7:UInt8),(7:UInt8),(7:UInt8),(7:UInt8),(7:UInt8),(7:UInt8),(7:UInt8),(7:UInt8),(7:UInt8),(7:UInt8),(7:UInt8),(7:UInt8),(7:UInt8),(7:UInt8),(7:UInt8),(7:UInt8),(7:UInt8),(7:UInt8),(7:UInt8),(7:UInt8),(7:UInt8),(7:UInt8),(7:UInt8),(7:UInt8),(7:UInt8),(7:UInt8),(7:UInt8),(7:UInt8),(7:UInt8),(7:UInt8),(7:UInt8),(7:UInt8),(7:UInt8),(7:UInt8),(7:UInt8),(7:UInt8),(7:UInt8),(7:UInt8),(7:UInt8),(7:UInt8),(7:UInt8),(7:UInt8),(7:UInt8),(7:UInt8),(7:UInt8),(7:UInt8),(7:UInt8),(7:UInt8),(7:UInt8),(7:UInt8),(7:UInt8),(7:UInt8),(7:UInt8),(7:UInt8),(7:UInt8),(7:UInt8),(7:UInt8),(7:UInt8),(7:UInt8),(7:UInt8)]).append ([(8:UInt8),(8:UInt8),(8:UInt8),(8:UInt8),(8:UInt8),(8:UInt8),(8:UInt8),(8:UInt8),(8:UInt8),(8:UInt8),(8:UInt8),(8:UInt8),(8:UInt8),(8:UInt8),(8:UInt8),(8:UInt8),(8:UInt8),(8:UInt8),(8:UInt8),(8:UInt8),(8:UInt8),(8:UInt8),(8:UInt8),(8:UInt8),(8:UInt8),(8:UInt8),(8:UInt8),(8:UInt8),(8:UInt8),(8:UInt8),(8:UInt8),(8:UInt8),(8:UInt8),(8:UInt8),(8:UInt8),(8:UInt8),(8:UInt8),(8:UInt8),(8:UInt8),(8:UInt8),(8:UInt8),(8:UInt8),(8:UInt8),(8:UInt8),(8:UInt8),(8:UInt8),(8:UInt8),(8:UInt8),(8:UInt8),(8:UInt8),(8:UInt8),(8:UInt8),(8:UInt8),(8:UInt8),(8:UInt8),(8:UInt8),(8:UInt8),(8:UInt8),(8:UInt8),(8:UInt8),(8:UInt8),(8:UInt8),(8:UInt8),(8:UInt8)].append [(8:UInt8),(8:UInt8),(8:UInt8),(8:UInt8),(8:UInt8),(8:UInt8),(8:UInt8),(8:UInt8),(8:UInt8),(8:UInt8),(8:UInt8),(8:UInt8),(8:UInt8),(8:UInt8),(8:UInt8),(8:UInt8),(8:UInt8),(8:UInt8),(8:UInt8),(8:UInt8),(8:UInt8),(8:UInt8),(8:UInt8),(8:UInt8),(8:UInt8),(8:UInt8),(8:UInt8),(8:UInt8),(8:UInt8),(8:UInt8),(8:UInt8),(8:UInt8),(8:UInt8),(8:UInt8),(8:UInt8),(8:UInt8),(8:UInt8),(8:UInt8),(8:UInt8),(8:UInt8),(8:UInt8),(8:UInt8),(8:UInt8),(8:UInt8),(8:UInt8),(8:UInt8),(8:UInt8),(8:UInt8),(8:UInt8),(8:UInt8),(8:UInt8),(8:UInt8),(8:UInt8),(8:UInt8),(8:UInt8),(8:UInt8),(8:UInt8),(8:UInt8),(8:UInt8),(8:UInt8),(8:UInt8),(8:UInt8),(8:UInt8),(8:UInt8)])).toArray).size:Int)) then k0 (i64.wrap (i64.wrap (i64.wrap ((0:Int)+(16:Int))+(8:Int))+i64.wrap (↑((ByteArray.mk (([(0:UInt8),(1:UInt8),(2:UInt8),(2:UInt8),(3:UInt8),(3:UInt8),(3:UInt8),(3:UInt8),(4:UInt8),(4:UInt8),(4:UInt8),(4:UInt8),(4:UInt8),(4:UInt8),(4:UInt8),(4:UInt8),(5:UInt8),(5:UInt8),(5:UInt8),(5:UInt8),(5:UInt8),(5:UInt8),(5:UInt8),(5:UInt8),(5:UInt8),(5:UInt8),(5:UInt8),(5:UInt8),(5:UInt8),(5:UInt8),(5:UInt8),(5:UInt8),(6:UInt8),(6:UInt8),(6:UInt8),(6:UInt8),(6:UInt8),(6:UInt8),(6:UInt8),(6:UInt8),(6:UInt8),(6:UInt8),(6:UInt8),(6:UInt8),(6:UInt8),(6:UInt8),(6:UInt8),(6:UInt8),(6:UInt8),(6:UInt8),(6:UInt8),(6:UInt8),(6:UInt8),(6:UInt8),(6:UInt8),(6:UInt8),(6:UInt8),(6:UInt8),(6:UInt8),(6:UInt8),(6:UInt8),(6:UInt8),(6:UInt8),(6:UInt8)].append [(7:UInt8),(7:UInt8),(7:UInt8),(7:UInt8),(7:UInt8),(7:UInt8),(7:UInt8),(7:UInt8),(7:UInt8),(7:UInt8),(7:UInt8),(7:UInt8),(7:UInt8),(7:UInt8),(7:UInt8),(7:UInt8),(7:UInt8),(7:UInt8),(7:UInt8),(7:UInt8),(7:UInt8),(7:UInt8),(7:UInt8),(7:UInt8),(7:UInt8),(7:UInt8),(7:UInt8),(7:UInt8),(7:UInt8),(7:UInt8),(7:UInt8),(7:UInt8),(7:UInt8),(7:UInt8),(7:UInt8),(7:UInt8),(7:UInt8),(7:UInt8),(7:UInt8),(7:UInt8),(7:UInt8),(7:UInt8),(7:UInt8),(7:UInt8),(7:UInt8),(7:UInt8),(7:UInt8),(7:UInt8),(7:UInt8),(7:UInt8),(7:UInt8),(7:UInt8),(7:UInt8),(7:UInt8),(7:UInt8),(7:UInt8),(7:UInt8),(7:UInt8),(7:UInt8),(7:UInt8),(7:UInt8),(7:UInt8),(7:UInt8),(7:UInt8)]).append ([(8:UInt8),(8:UInt8),(8:UInt8),(8:UInt8),(8:UInt8),(8:UInt8),(8:UInt8),(8:UInt8),(8:UInt8),(8:UInt8),(8:UInt8),(8:UInt8),(8:UInt8),(8:UInt8),(8:UInt8),(8:UInt8),(8:UInt8),(8:UInt8),(8:UInt8),(8:UInt8),(8:UInt8),(8:UInt8),(8:UInt8),(8:UInt8),(8:UInt8),(8:UInt8),(8:UInt8),(8:UInt8),(8:UInt8),(8:UInt8),(8:UInt8),(8:UInt8),(8:UInt8),(8:UInt8),(8:UInt8),(8:UInt8),(8:UInt8),(8:UInt8),(8:UInt8),(8:UInt8),(8:UInt8),(8:UInt8),(8:UInt8),(8:UInt8),(8:UInt8),(8:UInt8),(8:UInt8),(8:UInt8),(8:UInt8),(8:UInt8),(8:UInt8),(8:UInt8),(8:UInt8),(8:UInt8),(8:UInt8),(8:UInt8),(8:UInt8),(8:UInt8),(8:UInt8),(8:UInt8),(8:UInt8),(8:UInt8),(8:UInt8),(8:UInt8)].append [(8:UInt8),(8:UInt8),(8:UInt8),(8:UInt8),(8:UInt8),(8:UInt8),(8:UInt8),(8:UInt8),(8:UInt8),(8:UInt8),(8:UInt8),(8:UInt8),(8:UInt8),(8:UInt8),(8:UInt8),(8:UInt8),(8:UInt8),(8:UInt8),(8:UInt8),(8:UInt8),(8:UInt8),(8:UInt8),(8:UInt8),(8:UInt8),(8:UInt8),(8:UInt8),(8:UInt8),(8:UInt8),(8:UInt8),(8:UInt8),(8:UInt8),(8:UInt8),(8:UInt8),(8:UInt8),(8:UInt8),(8:UInt8),(8:UInt8),(8:UInt8),(8:UInt8),(8:UInt8),(8:UInt8),(8:UInt8),(8:UInt8),(8:UInt8),(8:UInt8),(8:UInt8),(8:UInt8),(8:UInt8),(8:UInt8),(8:UInt8),(8:UInt8),(8:UInt8),(8:UInt8),(8:UInt8),(8:UInt8),(8:UInt8),(8:UInt8),(8:UInt8),(8:UInt8),(8:UInt8),(8:UInt8),(8:UInt8),(8:UInt8),(8:UInt8)])).toArray).data.toList.getD (u8.wrap (Ev.ishr IntKind.u64 (Ev.ishr IntKind.u64 a (16:Int)) (8:Int))).toNat (0:UInt8)).toNat:Int))) else none else bif decide (0≤u8.wrap (Ev.ishr IntKind.u64 a 16)∧u8.wrap (Ev.ishr IntKind.u64 a 16) < (↑(ByteArray.mk (([(0:UInt8),(1:UInt8),(2:UInt8),(2:UInt8),(3:UInt8),(3:UInt8),(3:UInt8),(3:UInt8),(4:UInt8),(4:UInt8),(4:UInt8),(4:UInt8),(4:UInt8),(4:UInt8),(4:UInt8),(4:UInt8),(5:UInt8),(5:UInt8),(5:UInt8),(5:UInt8),(5:UInt8),(5:UInt8),(5:UInt8),(5:UInt8),(5:UInt8),(5:UInt8),(5:UInt8),(5:UInt8),(5:UInt8),(5:UInt8),(5:UInt8),(5:UInt8),(6:UInt8),(6:UInt8),(6:UInt8),(6:UInt8),(6:UInt8),(6:UInt8),(6:UInt8),(6:UInt8),(6:UInt8),(6:UInt8),(6:UInt8),(6:UInt8),(6:UInt8),(6:UInt8),(6:UInt8),(6:UInt8),(6:UInt8),(6:UInt8),(6:UInt8),(6:UInt8),(6:UInt8),(6:UInt8),(6:UInt8),(6:UInt8),(6:UInt8),(6:UInt8),(6:UInt8),(6:UInt8),(6:UInt8),(6:UInt8),(6:UInt8),(6:UInt8)].append [(7:UInt8),(7:UInt8),(7:UInt8),(7:UInt8),(7:UInt8),(7:UInt8),(7:UInt8),(7:UInt8),(7:UInt8),(7:UInt8),(7:UInt8),(7:UInt8),(7:UInt8),(7:UInt8),(7:UInt8),(7:UInt8),(7:UInt8),(7:UInt8),(7:UInt8),(7:UInt8),(7:UInt8),(7:UInt8),(7:UInt8),(7:UInt8),(7:UInt8),(7:UInt8),(7:UInt8),(7:UInt8),(7:UInt8),(7:UInt8),(7:UInt8),(7:UInt8),(7:UInt8),(7:UInt8),(7:UInt8),(7:UInt8),(7:UInt8),(7:UInt8),(7:UInt8),(7:UInt8),(7:UInt8),(7:UInt8),(7:UInt8),(7:UInt8),(7:UInt8),(7:UInt8),(7:UInt8),(7:UInt8),(7:UInt8),(7:UInt8),(7:UInt8),(7:UInt8),(7:UInt8),(7:UInt8),(7:UInt8),(7:UInt8),(7:UInt8),(7:UInt8),(7:UInt8),(7:UInt8),(7:UInt8),(7:UInt8),(7:UInt8),(7:UInt8)]).append ([(8:UInt8),(8:UInt8),(8:UInt8),(8:UInt8),(8:UInt8),(8:UInt8),(8:UInt8),(8:UInt8),(8:UInt8),(8:UInt8),(8:UInt8),(8:UInt8),(8:UInt8),(8:UInt8),(8:UInt8),(8:UInt8),(8:UInt8),(8:UInt8),(8:UInt8),(8:UInt8),(8:UInt8),(8:UInt8),(8:UInt8),(8:UInt8),(8:UInt8),(8:UInt8),(8:UInt8),(8:UInt8),(8:UInt8),(8:UInt8),(8:UInt8),(8:UInt8),(8:UInt8),(8:UInt8),(8:UInt8),(8:UInt8),(8:UInt8),(8:UInt8),(8:UInt8),(8:UInt8),(8:UInt8),(8:UInt8),(8:UInt8),(8:UInt8),(8:UInt8),(8:UInt8),(8:UInt8),(8:UInt8),(8:UInt8),(8:UInt8),(8:UInt8),(8:UInt8),(8:UInt8),(8:UInt8),(8:UInt8),(8:UInt8),(8:UInt8),(8:UInt8),(8:UInt8),(8:UInt8),(8:UInt8),(8:UInt8),(8:UInt8),(8:UInt8)].append [(8:UInt8),(8:UInt8),(8:UInt8),(8:UInt8),(8:UInt8),(8:UInt8),(8:UInt8),(8:UInt8),(8:UInt8),(8:UInt8),(8:UInt8),(8:UInt8),(8:UInt8),(8:UInt8),(8:UInt8),(8:UInt8),(8:UInt8),(8:UInt8),(8:UInt8),(8:UInt8),(8:UInt8),(8:UInt8),(8:UInt8),(8:UInt8),(8:UInt8),(8:UInt8),(8:UInt8),(8:UInt8),(8:UInt8),(8:UInt8),(8:UInt8),(8:UInt8),(8:UInt8),(8:UInt8),(8:UInt8),(8:UInt8),(8:UInt8),(8:UInt8),(8:UInt8),(8:UInt8),(8:UInt8),(8:UInt8),(8:UInt8),(8:UInt8),(8:UInt8),(8:UInt8),(8:UInt8),(8:UInt8),(8:UInt8),(8:UInt8),(8:UInt8),(8:UInt8),(8:UInt8),(8:UInt8),(8:UInt8),(8:UInt8),(8:UInt8),(8:UInt8),(8:UInt8),(8:UInt8),(8:UInt8),(8:UInt8),(8:UInt8),(8:UInt8)])).toArray).size:Int)) then k0 (i64.wrap (i64.wrap ((0:Int)+(16:Int))+i64.wrap (↑((ByteArray.mk (([(0:UInt8),(1:UInt8),(2:UInt8),(2:UInt8),(3:UInt8),(3:UInt8),(3:UInt8),(3:UInt8),(4:UInt8),(4:UInt8),(4:UInt8),(4:UInt8),(4:UInt8),(4:UInt8),(4:UInt8),(4:UInt8),(5:UInt8),(5:UInt8),(5:UInt8),(5:UInt8),(5:UInt8),(5:UInt8),(5:UInt8),(5:UInt8),(5:UInt8),(5:UInt8),(5:UInt8),(5:UInt8),(5:UInt8),(5:UInt8),(5:UInt8),(5:UInt8),(6:UInt8),(6:UInt8),(6:UInt8),(6:UInt8),(6:UInt8),(6:UInt8),(6:UInt8),(6:UInt8),(6:UInt8),(6:UInt8),(6:UInt8),(6:UInt8),(6:UInt8),(6:UInt8),(6:UInt8),(6:UInt8),(6:UInt8),(6:UInt8),(6:UInt8),(6:UInt8),(6:UInt8),(6:UInt8),(6:UInt8),(6:UInt8),(6:UInt8),(6:UInt8),(6:UInt8),(6:UInt8),(6:UInt8),(6:UInt8),(6:UInt8),(6:UInt8)].append [(7:UInt8),(7:UInt8),(7:UInt8),(7:UInt8),(7:UInt8),(7:UInt8),(7:UInt8),(7:UInt8),(7:UInt8),(7:UInt8),(7:UInt8),(7:UInt8),(7:UInt8),(7:UInt8),(7:UInt8),(7:UInt8),(7:UInt8),(7:UInt8),(7:UInt8),(7:UInt8),(7:UInt8),(7:UInt8),(7:UInt8),(7:UInt8),(7:UInt8),(7:UInt8),(7:UInt8),(7:UInt8),(7:UInt8),(7:UInt8),(7:UInt8),(7:UInt8),(7:UInt8),(7:UInt8),(7:UInt8),(7:UInt8),(7:UInt8),(7:UInt8),(7:UInt8),(7:UInt8),(7:UInt8),(7:UInt8),(7:UInt8),(7:UInt8),(7:UInt8),(7:UInt8),(7:UInt8),(7:UInt8),(7:UInt8),(7:UInt8),(7:UInt8),(7:UInt8),(7:UInt8),(7:UInt8),(7:UInt8),(7:UInt8),(7:UInt8),(7:UInt8),(7:UInt8),(7:UInt8),(7:UInt8),(7:UInt8),(7:UInt8),(7:UInt8)]).append ([(8:UInt8),(8:UInt8),(8:UInt8),(8:UInt8),(8:UInt8),(8:UInt8),(8:UInt8),(8:UInt8),(8:UInt8),(8:UInt8),(8:UInt8),(8:UInt8),(8:UInt8),(8:UInt8),(8:UInt8),(8:UInt8),(8:UInt8),(8:UInt8),(8:UInt8),(8:UInt8),(8:UInt8),(8:UInt8),(8:UInt8),(8:UInt8),(8:UInt8),(8:UInt8),(8:UInt8),(8:UInt8),(8:UInt8),(8:UInt8),(8:UInt8),(8:UInt8),(8:UInt8),(8:UInt8),(8:UInt8),(8:UInt8),(8:UInt8),(8:UInt8),(8:UInt8),(8:UInt8),(8:UInt8),(8:UInt8),(8:UInt8),(8:UInt8),(8:UInt8),(8:UInt8),(8:UInt8),(8:UInt8),(8:UInt8),(8:UInt8),(8:UInt8),(8:UInt8),(8:UInt8),(8:UInt8),(8:UInt8),(8:UInt8),(8:UInt8),(8:UInt8),(8:UInt8),(8:UInt8),(8:UInt8),(8:UInt8),(8:UInt8),(8:UInt8)].append [(8:UInt8),(8:UInt8),(8:UInt8),(8:UInt8),(8:UInt8),(8:UInt8),(8:UInt8),(8:UInt8),(8:UInt8),(8:UInt8),(8:UInt8),(8:UInt8),(8:UInt8),(8:UInt8),(8:UInt8),(8:UInt8),(8:UInt8),(8:UInt8),(8:UInt8),(8:UInt8),(8:UInt8),(8:UInt8),(8:UInt8),(8:UInt8),(8:UInt8),(8:UInt8),(8:UInt8),(8:UInt8),(8:UInt8),(8:UInt8),(8:UInt8),(8:UInt8),(8:UInt8),(8:UInt8),(8:UInt8),(8:UInt8),(8:UInt8),(8:UInt8),(8:UInt8),(8:UInt8),(8:UInt8),(8:UInt8),(8:UInt8),(8:UInt8),(8:UInt8),(8:UInt8),(8:UInt8),(8:UInt8),(8:UInt8),(8:UInt8),(8:UInt8),(8:UInt8),(8:UInt8),(8:UInt8),(8:UInt8),(8:UInt8),(8:UInt8),(8:UInt8),(8:UInt8),(8:UInt8),(8:UInt8),(8:UInt8),(8:UInt8),(8:UInt8)])).toArray).data.toList.getD (u8.wrap (Ev.ishr IntKind.u64 a (16:Int))).toNat (0:UInt8)).toNat:Int))) else none else bif decide (a≥256) then bif decide (0≤u8.wrap (Ev.ishr IntKind.u64 a 8)∧u8.wrap (Ev.ishr IntKind.u64 a 8) < (↑(ByteArray.mk (([(0:UInt8),(1:UInt8),(2:UInt8),(2:UInt8),(3:UInt8),(3:UInt8),(3:UInt8),(3:UInt8),(4:UInt8),(4:UInt8),(4:UInt8),(4:UInt8),(4:UInt8),(4:UInt8),(4:UInt8),(4:UInt8),(5:UInt8),(5:UInt8),(5:UInt8),(5:UInt8),(5:UInt8),(5:UInt8),(5:UInt8),(5:UInt8),(5:UInt8),(5:UInt8),(5:UInt8),(5:UInt8),(5:UInt8),(5:UInt8),(5:UInt8),(5:UInt8),(6:UInt8),(6:UInt8),(6:UInt8),(6:UInt8),(6:UInt8),(6:UInt8),(6:UInt8),(6:UInt8),(6:UInt8),(6:UInt8),(6:UInt8),(6:UInt8),(6:UInt8),(6:UInt8),(6:UInt8),(6:UInt8),(6:UInt8),(6:UInt8),(6:UInt8),(6:UInt8),(6:UInt8),(6:UInt8),(6:UInt8),(6:UInt8),(6:UInt8),(6:UInt8),(6:UInt8),(6:UInt8),(6:UInt8),(6:UInt8),(6:UInt8),(6:UInt8)].append [(7:UInt8),(7:UInt8),(7:UInt8),(7:UInt8),(7:UInt8),(7:UInt8),(7:UInt8),(7:UInt8),(7:UInt8),(7:UInt8),(7:UInt8),(7:UInt8),(7:UInt8),(7:UInt8),(7:UInt8),(7:UInt8),(7:UInt8),(7:UInt8),(7:UInt8),(7:UInt8),(7:UInt8),(7:UInt8),(7:UInt8),(7:UInt8),(7:UInt8),(7:UInt8),(7:UInt8),(7:UInt8),(7:UInt8),(7:UInt8),(7:UInt8),(7:UInt8),(7:UInt8),(7:UInt8),(7:UInt8),(7:UInt8),(7:UInt8),(7:UInt8),(7:UInt8),(7:UInt8),(7:UInt8),(7:UInt8),(7:UInt8),(7:UInt8),(7:UInt8),(7:UInt8),(7:UInt8),(7:UInt8),(7:UInt8),(7:UInt8),(7:UInt8),(7:UInt8),(7:UInt8),(7:UInt8),(7:UInt8),(7:UInt8),(7:UInt8),(7:UInt8),(7:UInt8),(7:UInt8),(7:UInt8),(7:UInt8),(7:UInt8),(7:UInt8)]).append ([(8:UInt8),(8:UInt8),(8:UInt8),(8:UInt8),(8:UInt8),(8:UInt8),(8:UInt8),(8:UInt8),(8:UInt8),(8:UInt8),(8:UInt8),(8:UInt8),(8:UInt8),(8:UInt8),(8:UInt8),(8:UInt8),(8:UInt8),(8:UInt8),(8:UInt8),(8:UInt8),(8:UInt8),(8:UInt8),(8:UInt8),(8:UInt8),(8:UInt8),(8:UInt8),(8:UInt8),(8:UInt8),(8:UInt8),(8:UInt8),(8:UInt8),(8:UInt8),(8:UInt8),(8:UInt8),(8:UInt8),(8:UInt8),(8:UInt8),(8:UInt8),(8:UInt8),(8:UInt8),(8:UInt8),(8:UInt8),(8:UInt8),(8:UInt8),(8:UInt8),(8:UInt8),(8:UInt8),(8:UInt8),(8:UInt8),(8:UInt8),(8:UInt8),(8:UInt8),(8:UInt8),(8:UInt8),(8:UInt8),(8:UInt8),(8:UInt8),(8:UInt8),(8:UInt8),(8:UInt8),(8:UInt8),(8:UInt8),(8:UInt8),(8:UInt8)].append [(8:UInt8),(8:UInt8),(8:UInt8),(8:UInt8),(8:UInt8),(8:UInt8),(8:UInt8),(8:UInt8),(8:UInt8),(8:UInt8),(8:UInt8),(8:UInt8),(8:UInt8),(8:UInt8),(8:UInt8),(8:UInt8),(8:UInt8),(8:UInt8),(8:UInt8),(8:UInt8),(8:UInt8),(8:UInt8),(8:UInt8),(8:UInt8),(8:UInt8),(8:UInt8),(8:UInt8),(8:UInt8),(8:UInt8),(8:UInt8),(8:UInt8),(8:UInt8),(8:UInt8),(8:UInt8),(8:UInt8),(8:UInt8),(8:UInt8),(8:UInt8),(8:UInt8),(8:UInt8),(8:UInt8),(8:UInt8),(8:UInt8),(8:UInt8),(8:UInt8),(8:UInt8),(8:UInt8),(8:UInt8),(8:UInt8),(8:UInt8),(8:UInt8),(8:UInt8),(8:UInt8),(8:UInt8),(8:UInt8),(8:UInt8),(8:UInt8),(8:UInt8),(8:UInt8),(8:UInt8),(8:UInt8),(8:UInt8),(8:UInt8),(8:UInt8)])).toArray).size:Int)) then k0 (i64.wrap (i64.wrap ((0:Int)+(8:Int))+i64.wrap (↑((ByteArray.mk (([(0:UInt8),(1:UInt8),(2:UInt8),(2:UInt8),(3:UInt8),(3:UInt8),(3:UInt8),(3:UInt8),(4:UInt8),(4:UInt8),(4:UInt8),(4:UInt8),(4:UInt8),(4:UInt8),(4:UInt8),(4:UInt8),(5:UInt8),(5:UInt8),(5:UInt8),(5:UInt8),(5:UInt8),(5:UInt8),(5:UInt8),(5:UInt8),(5:UInt8),(5:UInt8),(5:UInt8),(5:UInt8),(5:UInt8),(5:UInt8),(5:UInt8),(5:UInt8),(6:UInt8),(6:UInt8),(6:UInt8),(6:UInt8),(6:UInt8),(6:UInt8),(6:UInt8),(6:UInt8),(6:UInt8),(6:UInt8),(6:UInt8),(6:UInt8),(6:UInt8),(6:UInt8),(6:UInt8),(6:UInt8),(6:UInt8),(6:UInt8),(6:UInt8),(6:UInt8),(6:UInt8),(6:UInt8),(6:UInt8),(6:UInt8),(6:UInt8),(6:UInt8),(6:UInt8),(6:UInt8),(6:UInt8),(6:UInt8),(6:UInt8),(6:UInt8)].append [(7:UInt8),(7:UInt8),(7:UInt8),(7:UInt8),(7:UInt8),(7:UInt8),(7:UInt8),(7:UInt8),(7:UInt8),(7:UInt8),(7:UInt8),(7:UInt8),(7:UInt8),(7:UInt8),(7:UInt8),(7:UInt8),(7:UInt8),(7:UInt8),(7:UInt8),(7:UInt8),(7:UInt8),(7:UInt8),(7:UInt8),(7:UInt8),(7:UInt8),(7:UInt8),(7:UInt8),(7:UInt8),(7:UInt8),(7:UInt8),(7:UInt8),(7:UInt8),(7:UInt8),(7:UInt8),(7:UInt8),(7:UInt8),(7:UInt8),(7:UInt8),(7:UInt8),(7:UInt8),(7:UInt8),(7:UInt8),(7:UInt8),(7:UInt8),(7:UInt8),(7:UInt8),(7:UInt8),(7:UInt8),(7:UInt8),(7:UInt8),(7:UInt8),(7:UInt8),(7:UInt8),(7:UInt8),(7:UInt8),(7:UInt8),(7:UInt8),(7:UInt8),(7:UInt8),(7:UInt8),(7:UInt8),(7:UInt8),(7:UInt8),(7:UInt8)]).append ([(8:UInt8),(8:UInt8),(8:UInt8),(8:UInt8),(8:UInt8),(8:UInt8),(8:UInt8),(8:UInt8),(8:UInt8),(8:UInt8),(8:UInt8),(8:UInt8),(8:UInt8),(8:UInt8),(8:UInt8),(8:UInt8),(8:UInt8),(8:UInt8),(8:UInt8),(8:UInt8),(8:UInt8),(8:UInt8),(8:UInt8),(8:UInt8),(8:UInt8),(8:UInt8),(8:UInt8),(8:UInt8),(8:UInt8),(8:UInt8),(8:UInt8),(8:UInt8),(8:UInt8),(8:UInt8),(8:UInt8),(8:UInt8),(8:UInt8),(8:UInt8),(8:UInt8),(8:UInt8),(8:UInt8),(8:UInt8),(8:UInt8),(8:UInt8),(8:UInt8),(8:UInt8),(8:UInt8),(8:UInt8),(8:UInt8),(8:UInt8),(8:UInt8),(8:UInt8),(8:UInt8),(8:UInt8),(8:UInt8),(8:UInt8),(8:UInt8),(8:UInt8),(8:UInt8),(8:UInt8),(8:UInt8),(8:UInt8),(8:UInt8),(8:UInt8)].append [(8:UInt8),(8:UInt8),(8:UInt8),(8:UInt8),(8:UInt8),(8:UInt8),(8:UInt8),(8:UInt8),(8:UInt8),(8:UInt8),(8:UInt8),(8:UInt8),(8:UInt8),(8:UInt8),(8:UInt8),(8:UInt8),(8:UInt8),(8:UInt8),(8:UInt8),(8:UInt8),(8:UInt8),(8:UInt8),(8:UInt8),(8:UInt8),(8:UInt8),(8:UInt8),(8:UInt8),(8:UInt8),(8:UInt8),(8:UInt8),(8:UInt8),(8:UInt8),(8:UInt8),(8:UInt8),(8:UInt8),(8:UInt8),(8:UInt8),(8:UInt8),(8:UInt8),(8:UInt8),(8:UInt8),(8:UInt8),(8:UInt8),(8:UInt8),(8:UInt8),(8:UInt8),(8:UInt8),(8:UInt8),(8:UInt8),(8:UInt8),(8:UInt8),(8:UInt8),(8:UInt8),(8:UInt8),(8:UInt8),(8:UInt8),(8:UInt8),(8:UInt8),(8:UInt8),(8:UInt8),(8:UInt8),(8:UInt8),(8:UInt8),(8:UInt8)])).toArray).data.toList.getD (u8.wrap (Ev.ishr IntKind.u64 a (8:Int))).toNat (0:UInt8)).toNat:Int))) else none else bif decide (0≤u8.wrap a∧u8.wrap a < (↑(ByteArray.mk (([(0:UInt8),(1:UInt8),(2:UInt8),(2:UInt8),(3:UInt8),(3:UInt8),(3:UInt8),(3:UInt8),(4:UInt8),(4:UInt8),(4:UInt8),(4:UInt8),(4:UInt8),(4:UInt8),(4:UInt8),(4:UInt8),(5:UInt8),(5:UInt8),(5:UInt8),(5:UInt8),(5:UInt8),(5:UInt8),(5:UInt8),(5:UInt8),(5:UInt8),(5:UInt8),(5:UInt8),(5:UInt8),(5:UInt8),(5:UInt8),(5:UInt8),(5:UInt8),(6:UInt8),(6:UInt8),(6:UInt8),(6:UInt8),(6:UInt8),(6:UInt8),(6:UInt8),(6:UInt8),(6:UInt8),(6:UInt8),(6:UInt8),(6:UInt8),(6:UInt8),(6:UInt8),(6:UInt8),(6:UInt8),(6:UInt8),(6:UInt8),(6:UInt8),(6:UInt8),(6:UInt8),(6:UInt8),(6:UInt8),(6:UInt8),(6:UInt8),(6:UInt8),(6:UInt8),(6:UInt8),(6:UInt8),(6:UInt8),(6:UInt8),(6:UInt8)].append [(7:UInt8),(7:UInt8),(7:UInt8),(7:UInt8),(7:UInt8),(7:UInt8),(7:UInt8),(7:UInt8),(7:UInt8),(7:UInt8),(7:UInt8),(7:UInt8),(7:UInt8),(7:UInt8),(7:UInt8),(7:UInt8),(7:UInt8),(7:UInt8),(7:UInt8),(7:UInt8),(7:UInt8),(7:UInt8),(7:UInt8),(7:UInt8),(7:UInt8),(7:UInt8),(7:UInt8),(7:UInt8),(7:UInt8),(7:UInt8),(7:UInt8),(7:UInt8),(7:UInt8),(7:UInt8),(7:UInt8),(7:UInt8),(7:UInt8),(7:UInt8),(7:UInt8),(7:UInt8),(7:UInt8),(7:UInt8),(7:UInt8),(7:UInt8),(7:UInt8),(7:UInt8),(7:UInt8),(7:UInt8),(7:UInt8),(7:UInt8),(7:UInt8),(7:UInt8),(7:UInt8),(7:UInt8),(7:UInt8),(7:UInt8),(7:UInt8),(7:UInt8),(7:UInt8),(7:UInt8),(7:UInt8),(7:UInt8),(7:UInt8),(7:UInt8)]).append ([(8:UInt8),(8:UInt8),(8:UInt8),(8:UInt8),(8:UInt8),(8:UInt8),(8:UInt8),(8:UInt8),(8:UInt8),(8:UInt8),(8:UInt8),(8:UInt8),(8:UInt8),(8:UInt8),(8:UInt8),(8:UInt8),(8:UInt8),(8:UInt8),(8:UInt8),(8:UInt8),(8:UInt8),(8:UInt8),(8:UInt8),(8:UInt8),(8:UInt8),(8:UInt8),(8:UInt8),(8:UInt8),(8:UInt8),(8:UInt8),(8:UInt8),(8:UInt8),(8:UInt8),(8:UInt8),(8:UInt8),(8:UInt8),(8:UInt8),(8:UInt8),(8:UInt8),(8:UInt8),(8:UInt8),(8:UInt8),(8:UInt8),(8:UInt8),(8:UInt8),(8:UInt8),(8:UInt8),(8:UInt8),(8:UInt8),(8:UInt8),(8:UInt8),(8:UInt8),(8:UInt8),(8:UInt8),(8:UInt8),(8:UInt8),(8:UInt8),(8:UInt8),(8:UInt8),(8:UInt8),(8:UInt8),(8:UInt8),(8:UInt8),(8:UInt8)].append [(8:UInt8),(8:UInt8),(8:UInt8),(8:UInt8),(8:UInt8),(8:UInt8),(8:UInt8),(8:UInt8),(8:UInt8),(8:UInt8),(8:UInt8),(8:UInt8),(8:UInt8),(8:UInt8),(8:UInt8),(8:UInt8),(8:UInt8),(8:UInt8),(8:UInt8),(8:UInt8),(8:UInt8),(8:UInt8),(8:UInt8),(8:UInt8),(8:UInt8),(8:UInt8),(8:UInt8),(8:UInt8),(8:UInt8),(8:UInt8),(8:UInt8),(8:UInt8),(8:UInt8),(8:UInt8),(8:UInt8),(8:UInt8),(8:UInt8),(8:UInt8),(8:UInt8),(8:UInt8),(8:UInt8),(8:UInt8),(8:UInt8),(8:UInt8),(8:UInt8),(8:UInt8),(8:UInt8),(8:UInt8),(8:UInt8),(8:UInt8),(8:UInt8),(8:UInt8),(8:UInt8),(8:UInt8),(8:UInt8),(8:UInt8),(8:UInt8),(8:UInt8),(8:UInt8),(8:UInt8),(8:UInt8),(8:UInt8),(8:UInt8),(8:UInt8)])).toArray).size:Int)) then k0 (i64.wrap (0+i64.wrap (↑((ByteArray.mk (([(0:UInt8),(1:UInt8),(2:UInt8),(2:UInt8),(3:UInt8),(3:UInt8),(3:UInt8),(3:UInt8),(4:UInt8),(4:UInt8),(4:UInt8),(4:UInt8),(4:UInt8),(4:UInt8),(4:UInt8),(4:UInt8),(5:UInt8),(5:UInt8),(5:UInt8),(5:UInt8),(5:UInt8),(5:UInt8),(5:UInt8),(5:UInt8),(5:UInt8),(5:UInt8),(5:UInt8),(5:UInt8),(5:UInt8),(5:UInt8),(5:UInt8),(5:UInt8),(6:UInt8),(6:UInt8),(6:UInt8),(6:UInt8),(6:UInt8),(6:UInt8),(6:UInt8),(6:UInt8),(6:UInt8),(6:UInt8),(6:UInt8),(6:UInt8),(6:UInt8),(6:UInt8),(6:UInt8),(6:UInt8),(6:UInt8),(6:UInt8),(6:UInt8),(6:UInt8),(6:UInt8),(6:UInt8),(6:UInt8),(6:UInt8),(6:UInt8),(6:UInt8),(6:UInt8),(6:UInt8),(6:UInt8),(6:UInt8),(6:UInt8),(6:UInt8)].append [(7:UInt8),(7:UInt8),(7:UInt8),(7:UInt8),(7:UInt8),(7:UInt8),(7:UInt8),(7:UInt8),(7:UInt8),(7:UInt8),(7:UInt8),(7:UInt8),(7:UInt8),(7:UInt8),(7:UInt8),(7:UInt8),(7:UInt8),(7:UInt8),(7:UInt8),(7:UInt8),(7:UInt8),(7:UInt8),(7:UInt8),(7:UInt8),(7:UInt8),(7:UInt8),(7:UInt8),(7:UInt8),(7:UInt8),(7:UInt8),(7:UInt8),(7:UInt8),(7:UInt8),(7:UInt8),(7:UInt8),(7:UInt8),(7:UInt8),(7:UInt8),(7:UInt8),(7:UInt8),(7:UInt8),(7:UInt8),(7:UInt8),(7:UInt8),(7:UInt8),(7:UInt8),(7:UInt8),(7:UInt8),(7:UInt8),(7:UInt8),(7:UInt8),(7:UInt8),(7:UInt8),(7:UInt8),(7:UInt8),(7:UInt8),(7:UInt8),(7:UInt8),(7:UInt8),(7:UInt8),(7:UInt8),(7:UInt8),(7:UInt8),(7:UInt8)]).append ([(8:UInt8),(8:UInt8),(8:UInt8),(8:UInt8),(8:UInt8),(8:UInt8),(8:UInt8),(8:UInt8),(8:UInt8),(8:UInt8),(8:UInt8),(8:UInt8),(8:UInt8),(8:UInt8),(8:UInt8),(8:UInt8),(8:UInt8),(8:UInt8),(8:UInt8),(8:UInt8),(8:UInt8),(8:UInt8),(8:UInt8),(8:UInt8),(8:UInt8),(8:UInt8),(8:UInt8),(8:UInt8),(8:UInt8),(8:UInt8),(8:UInt8),(8:UInt8),(8:UInt8),(8:UInt8),(8:UInt8),(8:UInt8),(8:UInt8),(8:UInt8),(8:UInt8),(8:UInt8),(8:UInt8),(8:UInt8),(8:UInt8),(8:UInt8),(8:UInt8),(8:UInt8),(8:UInt8),(8:UInt8),(8:UInt8),(8:UInt8),(8:UInt8),(8:UInt8),(8:UInt8),(8:UInt8),(8:UInt8),(8:UInt8),(8:UInt8),(8:UInt8),(8:UInt8),(8:UInt8),(8:UInt8),(8:UInt8),(8:UInt8),(8:UInt8)].append [(8:UInt8),(8:UInt8),(8:UInt8),(8:UInt8),(8:UInt8),(8:UInt8),(8:UInt8),(8:UInt8),(8:UInt8),(8:UInt8),(8:UInt8),(8:UInt8),(8:UInt8),(8:UInt8),(8:UInt8),(8:UInt8),(8:UInt8),(8:UInt8),(8:UInt8),(8:UInt8),(8:UInt8),(8:UInt8),(8:UInt8),(8:UInt8),(8:UInt8),(8:UInt8),(8:UInt8),(8:UInt8),(8:UInt8),(8:UInt8),(8:UInt8),(8:UInt8),(8:UInt8),(8:UInt8),(8:UInt8),(8:UInt8),(8:UInt8),(8:UInt8),(8:UInt8),(8:UInt8),(8:UInt8),(8:UInt8),(8:UInt8),(8:UInt8),(8:UInt8),(8:UInt8),(8:UInt8),(8:UInt8),(8:UInt8),(8:UInt8),(8:UInt8),(8:UInt8),(8:UInt8),(8:UInt8),(8:UInt8),(8:UInt8),(8:UInt8),(8:UInt8),(8:UInt8),(8:UInt8),(8:UInt8),(8:UInt8),(8:UInt8),(8:UInt8)])).toArray).data.toList.getD (u8.wrap a).toNat (0:UInt8)).toNat:Int))) else none
abbrev YF207:Type:=Int→(Int→Option Ans)→Option Ans
theorem F207_eq (fuel:Nat) (a:Int) (k:Ev.Cont):evalFn tab (G207 fuel) J0 kp207 fuel Tryz.f207 [.c (.int .u64 a)] [] k=F_math_bits_Len64 fuel a (fun r=>match r with | b=>k (.c (i6 b),[])):=by
  kernel_rfl
theorem hG207 (fuel:Nat):GOK Tryz.prog (G207 fuel):=
  gok_nil
def spg207 (F:YF207):Ev.Spec:=fun args objs k=>match args,objs with | [.c (.int .u64 a)],[]=>F a (fun r=>match r with | b=>k (.c (i6 b),[])) | _,_=>none
theorem ok207 (fuel:Nat):FnOK Tryz.prog 207 (spg207 (F_math_bits_Len64 fuel)):=by
  intro args objs kk r h
  unfold spg207 at h
  split at h
  · skip
    exact fo0 (hG207 fuel) Tryz.func207 rfl (by kernel_rfl) _ _ kk r ((F207_eq fuel _ kk).trans h)
  · cases h
def kp120 (i:Nat):Option (List Nat):=Ev.look i []
def Gg120 (a:YF207) (f:Nat):Option Ev.Spec:=Ev.look f [(207,spg207 a)]
def G120 (fuel:Nat):Nat→Option Ev.Spec:=Gg120 (F_math_bits_Len64 fuel)
def Fg_math_bits_Len (fuel:Nat) (a:YF207) (b:Int) (k0:(Int)→OA):OA:=(a b (fun c=>k0 c))
abbrev YF120:Type:=Int→(Int→Option Ans)→Option Ans
def F_math_bits_Len (fuel:Nat):YF120:=Fg_math_bits_Len fuel (F_math_bits_Len64 fuel)
theorem F120_eqg (fuel:Nat) (a:YF207) (b:Int) (k:Ev.Cont):evalFn tab (Gg120 a) J0 kp120 fuel Tryz.f120 [.c (.int .u64 b)] [] k=Fg_math_bits_Len fuel a b (fun r=>match r with | d=>k (.c (i6 d),[])):=by
  kernel_rfl
theorem hG120 (fuel:Nat):GOK Tryz.prog (G120 fuel):=
  gc (ok207 fuel) Tryz.func207 (by kernel_rfl) rfl <|
  gok_nil
def spg120 (F:YF120):Ev.Spec:=fun args objs k=>match args,objs with | [.c (.int .u64 a)],[]=>F a (fun r=>match r with | b=>k (.c (i6 b),[])) | _,_=>none
theorem ok120 (fuel:Nat):FnOK Tryz.prog 120 (spg120 (F_math_bits_Len fuel)):=by
  intro args objs kk r h
  unfold spg120 at h
  split at h
  · skip
    exact fo0 (hG120 fuel) Tryz.func120 rfl (by kernel_rfl) _ _ kk r ((F120_eqg fuel (F_math_bits_Len64 fuel) _ kk).trans h)
  · cases h
def kp50 (i:Nat):Option (List Nat):=Ev.look i []
def Gg50 (a:YF120) (f:Nat):Option Ev.Spec:=Ev.look f [(120,spg120 a)]
def G50 (fuel:Nat):Nat→Option Ev.Spec:=Gg50 (F_math_bits_Len fuel)
def Fg_number_Width (fuel:Nat) (b:YF120) (a:Int) (k0:(Int)→OA):OA:=bif decide (a < 1) then k0 (0) else (b (u64.wrap (i64.wrap (a - 1))) (fun c=>k0 c))
abbrev YF50:Type:=Int→(Int→Option Ans)→Option Ans
def F_number_Width (fuel:Nat):YF50:=Fg_number_Width fuel (F_math_bits_Len fuel)
theorem F50_eqg (fuel:Nat) (a:YF120) (b:Int) (k:Ev.Cont):evalFn tab (Gg50 a) J0 kp50 fuel Tryz.f50 [.c (i6 b)] [] k=Fg_number_Width fuel a b (fun r=>match r with | d=>k (.c (i6 d),[])):=by
  kernel_rfl
theorem hG50 (fuel:Nat):GOK Tryz.prog (G50 fuel):=
  gc (ok120 fuel) Tryz.func120 (by kernel_rfl) rfl <|
  gok_nil
def spg50 (F:YF50):Ev.Spec:=fun args objs k=>match args,objs with | [.c (i6 a)],[]=>F a (fun r=>match r with | b=>k (.c (i6 b),[])) | _,_=>none
theorem ok50 (fuel:Nat):FnOK Tryz.prog 50 (spg50 (F_number_Width fuel)):=by
  intro args objs kk r h
  unfold spg50 at h
  split at h
  · skip
    exact fo0 (hG50 fuel) Tryz.func50 rfl (by kernel_rfl) _ _ kk r ((F50_eqg fuel (F_math_bits_Len fuel) _ kk).trans h)
  · cases h
def kp249 (i:Nat):Option (List Nat):=Ev.look i []
def Gg249 (f:Nat):Option Ev.Spec:=Ev.look f []
def G249 (fuel:Nat):Nat→Option Ev.Spec:=Gg249
def F_refine_fresh (fuel:Nat) (a:Int) (k0:((List (Int×Int)))→Option Ans):Option Ans:=bif a==0 then k0 ([((-1:Int),(-1:Int)),(0,(-1:Int)),(1,(-1:Int)),((-1:Int),0)]) else k0 ([(0,(-1:Int)),((-1:Int),0)])
abbrev YF249:Type:=Int→(((List (Int×Int)))→Option Ans)→Option Ans
theorem F249_eq (fuel:Nat) (a:Int) (k:Ev.Cont):evalFn tab (G249 fuel) J0 kp249 fuel Tryz.f249 [.c (i6 a)] [] k=F_refine_fresh fuel a (fun r=>match r with | b=>k (.c (.own 0),[.vec 76 (.pair (.int .i64) (.int .i64)) b true])):=by
  kernel_rfl
theorem hG249 (fuel:Nat):GOK Tryz.prog (G249 fuel):=
  gok_nil
def spg249 (F:YF249):Ev.Spec:=fun args objs k=>match args,objs with | [.c (i6 a)],[]=>F a (fun r=>match r with | b=>k (.c (.own 0),[.vec 76 (.pair (.int .i64) (.int .i64)) b true])) | _,_=>none
theorem ok249 (fuel:Nat):FnOK Tryz.prog 249 (spg249 (F_refine_fresh fuel)):=by
  intro args objs kk r h
  unfold spg249 at h
  split at h
  · skip
    exact fo0 (hG249 fuel) Tryz.func249 rfl (by kernel_rfl) _ _ kk r ((F249_eq fuel _ kk).trans h)
  · cases h
def kp228 (i:Nat):Option (List Nat):=Ev.look i []
def Gg228 (a:YF249) (f:Nat):Option Ev.Spec:=Ev.look f [(249,spg249 a)]
def G228 (fuel:Nat):Nat→Option Ev.Spec:=Gg228 (F_refine_fresh fuel)
def Fg_refine_contexts (fuel:Nat) (a:YF249) (b:Int) (k0:(Int)→OA):OA:=(a b (fun c=>k0 (Ev.ishl IntKind.i64 32 (↑c.length:Int))))
abbrev YF228:Type:=Int→(Int→Option Ans)→Option Ans
def F_refine_contexts (fuel:Nat):YF228:=Fg_refine_contexts fuel (F_refine_fresh fuel)
theorem F228_eqg (fuel:Nat) (a:YF249) (b:Int) (k:Ev.Cont):evalFn tab (Gg228 a) J0 kp228 fuel Tryz.f228 [.c (i6 b)] [] k=Fg_refine_contexts fuel a b (fun r=>match r with | d=>k (.c (i6 d),[])):=by
  kernel_rfl
theorem hG228 (fuel:Nat):GOK Tryz.prog (G228 fuel):=
  gc (ok249 fuel) Tryz.func249 (by kernel_rfl) rfl <|
  gok_nil
def spg228 (F:YF228):Ev.Spec:=fun args objs k=>match args,objs with | [.c (i6 a)],[]=>F a (fun r=>match r with | b=>k (.c (i6 b),[])) | _,_=>none
theorem ok228 (fuel:Nat):FnOK Tryz.prog 228 (spg228 (F_refine_contexts fuel)):=by
  intro args objs kk r h
  unfold spg228 at h
  split at h
  · skip
    exact fo0 (hG228 fuel) Tryz.func228 rfl (by kernel_rfl) _ _ kk r ((F228_eqg fuel (F_refine_fresh fuel) _ kk).trans h)
  · cases h
def kp165 (i:Nat):Option (List Nat):=Ev.look i []
def Gg165 (a:YF228) (f:Nat):Option Ev.Spec:=Ev.look f [(228,spg228 a)]
def G165 (fuel:Nat):Nat→Option Ev.Spec:=Gg165 (F_refine_contexts fuel)
def Fg_refine_Size (fuel:Nat) (b:YF228) (a:Int) (k0:(Int×Int)→OA):OA:=bif a != 0 then bif a != 1 then k0 (0,2) else (b a (fun c=>k0 (i64.wrap (c+1),0))) else (b a (fun d=>k0 (i64.wrap (d+1),0)))
abbrev YF165:Type:=Int→((Int×Int)→Option Ans)→Option Ans
def F_refine_Size (fuel:Nat):YF165:=Fg_refine_Size fuel (F_refine_contexts fuel)
theorem F165_eqg (fuel:Nat) (a:YF228) (b:Int) (k:Ev.Cont):evalFn tab (Gg165 a) J0 kp165 fuel Tryz.f165 [.c (i6 b)] [] k=Fg_refine_Size fuel a b (fun r=>match r with | (d,e)=>k (.tup [(false,[i6 d]),(false,[i6 e])],[])):=by
  kernel_rfl
theorem hG165 (fuel:Nat):GOK Tryz.prog (G165 fuel):=
  gc (ok228 fuel) Tryz.func228 (by kernel_rfl) rfl <|
  gok_nil
def spg165 (F:YF165):Ev.Spec:=fun args objs k=>match args,objs with | [.c (i6 a)],[]=>F a (fun r=>match r with | (b,d)=>k (.tup [(false,[i6 b]),(false,[i6 d])],[])) | _,_=>none
theorem ok165 (fuel:Nat):FnOK Tryz.prog 165 (spg165 (F_refine_Size fuel)):=by
  intro args objs kk r h
  unfold spg165 at h
  split at h
  · skip
    exact fo0 (hG165 fuel) Tryz.func165 rfl (by kernel_rfl) _ _ kk r ((F165_eqg fuel (F_refine_contexts fuel) _ kk).trans h)
  · cases h
def kp78 (i:Nat):Option (List Nat):=Ev.look i [(200001,[2])]
def Gg78 (b:YF50) (a:YF165) (f:Nat):Option Ev.Spec:=Ev.look f [(50,spg50 b),(165,spg165 a)]
def G78 (fuel:Nat):Nat→Option Ev.Spec:=Gg78 (F_number_Width fuel) (F_refine_Size fuel)
def Fg_text_lay (fuel:Nat) (l:YF50) (k:YF165) (d e:Int) (f:Bool) (g h i:Int) (b:Bool) (c m:Int) (k0:(Int×Int×Bool×Int×Int×Int×Bool×Int×Int×Int×Int)→OA):OA:=both ((l m (fun a=>both (bif decide (a < 0) then none else bif b then (k c (fun (j,n)=>k0 (d,e,f,g,h,i,b,c,a,i64.wrap (i64.wrap (385+Ev.ishl IntKind.i64 1 a) - 1),i64.wrap (i64.wrap (i64.wrap (385+Ev.ishl IntKind.i64 1 a) - 1)+j)))) else k0 (d,e,f,g,h,i,b,c,a,i64.wrap (i64.wrap (385+Ev.ishl IntKind.i64 1 a) - 1),i64.wrap (i64.wrap (385+Ev.ishl IntKind.i64 1 a) - 1))) (bif decide (a < 0) then none else bif b then (k c (fun (j,n)=>k0 (d,e,f,g,h,i,b,c,a,i64.wrap (i64.wrap (385+Ev.ishl IntKind.i64 1 a) - 1),i64.wrap (i64.wrap (i64.wrap (385+Ev.ishl IntKind.i64 1 a) - 1)+j)))) else k0 (d,e,f,g,h,i,b,c,a,i64.wrap (i64.wrap (385+Ev.ishl IntKind.i64 1 a) - 1),i64.wrap (i64.wrap (385+Ev.ishl IntKind.i64 1 a) - 1)))))) ((l m (fun a=>bif decide (a < 0) then none else bif b then (k c (fun (o,p)=>k0 (d,e,f,g,h,i,b,c,a,i64.wrap (i64.wrap (385+Ev.ishl IntKind.i64 1 a) - 1),i64.wrap (i64.wrap (i64.wrap (385+Ev.ishl IntKind.i64 1 a) - 1)+o)))) else k0 (d,e,f,g,h,i,b,c,a,i64.wrap (i64.wrap (385+Ev.ishl IntKind.i64 1 a) - 1),i64.wrap (i64.wrap (385+Ev.ishl IntKind.i64 1 a) - 1)))))
abbrev YF78:Type:=Int→Int→Bool→Int→Int→Int→Bool→Int→Int→((Int×Int×Bool×Int×Int×Int×Bool×Int×Int×Int×Int)→Option Ans)→Option Ans
def F_text_lay (fuel:Nat):YF78:=Fg_text_lay fuel (F_number_Width fuel) (F_refine_Size fuel)
theorem F78_eqg (fuel:Nat) (b:YF50) (a:YF165) (d e:Int) (f:Bool) (g h i:Int) (j:Bool) (l m:Int) (k:Ev.Cont):evalFn tab (Gg78 b a) J0 kp78 fuel Tryz.f78 [.agg [i6 d,i6 e,.bool f,i6 g,i6 h,i6 i,.bool j,i6 l],.c (i6 m)] [] k=Fg_text_lay fuel b a d e f g h i j l m (fun r=>match r with | (o,p,q,s,t,u,v,w,x,y,n)=>k (.agg [i6 o,i6 p,.bool q,i6 s,i6 t,i6 u,.bool v,i6 w,i6 x,i6 y,i6 n],[])):=by
  kernel_rfl
theorem hG78 (fuel:Nat):GOK Tryz.prog (G78 fuel):=
  gc (ok50 fuel) Tryz.func50 (by kernel_rfl) rfl <|
  gc (ok165 fuel) Tryz.func165 (by kernel_rfl) rfl <|
  gok_nil
def spg78 (F:YF78):Ev.Spec:=fun args objs k=>match args,objs with | [.agg [i6 b,i6 d,.bool e,i6 f,i6 g,i6 h,.bool i,i6 j],.c (i6 l)],[]=>F b d e f g h i j l (fun r=>match r with | (m,n,o,p,q,s,t,u,v,w,a)=>k (.agg [i6 m,i6 n,.bool o,i6 p,i6 q,i6 s,.bool t,i6 u,i6 v,i6 w,i6 a],[])) | _,_=>none
def spec78 (fuel:Nat):Ev.Spec:=spg78 (F_text_lay fuel)
theorem ok78 (fuel:Nat):FnOK Tryz.prog 78 (spec78 fuel):=by
  intro args objs kk r h
  unfold spec78 spg78 at h
  split at h
  · skip
    exact fo0 (hG78 fuel) Tryz.func78 rfl (by kernel_rfl) _ _ kk r ((F78_eqg fuel (F_number_Width fuel) (F_refine_Size fuel) _ _ _ _ _ _ _ _ _ kk).trans h)
  · cases h
def kp126_a20 (i:Nat):Option (List Nat):=Ev.look i []
def Gg126_a20 (a:YF128_a20) (b:YF204) (f:Nat):Option Ev.Spec:=Ev.look f [(128,spg128_a20 a),(204,spg204 b)]
def G126_a20 (fuel:Nat):Nat→Option Ev.Spec:=Gg126_a20 (F_coder_Encoder_none_a20 fuel) (F_coder_clone fuel)
def Fg_coder_Encoder_Model_a20 (fuel:Nat) (g:YF128_a20) (h:YF204) (l m n:Int) (o:Bool) (p q:LI) (k0:(Int×Int×Int×Int×Bool×LI×LI×LI)→OA):OA:=(g l m n o p q (fun (i,a,c,d,e,b,f)=>bif i then k0 (0,a,c,d,e,b,f,[]) else (h a b (fun (j,k)=>k0 (j,a,c,d,e,b,f,k)))))
abbrev YF126_a20:Type:=Int→Int→Int→Bool→LI→LI→((Int×Int×Int×Int×Bool×LI×LI×LI)→Option Ans)→Option Ans
def F_coder_Encoder_Model_a20 (fuel:Nat):YF126_a20:=Fg_coder_Encoder_Model_a20 fuel (F_coder_Encoder_none_a20 fuel) (F_coder_clone fuel)
theorem F126_a20_eqg (fuel:Nat) (a:YF128_a20) (b:YF204) (d e f:Int) (g:Bool) (h i:LI) (k:Ev.Cont):evalFn tab (Gg126_a20 a b) J0 kp126_a20 fuel Tryz.f126 [.c (.ptr 0 0)] [.cells 173 (i6 d::.own 1::ctb (.int .u64 e::.int .u64 f::.own 2::.bool g::[])),.vec 3 (.int .i64) h false,.vec 5 (.int .u8) i false] k=Fg_coder_Encoder_Model_a20 fuel a b d e f g h i (fun r=>match r with | (j,l,m,n,o,p,q,s)=>k (.agg [i6 j,.own 3],[.cells 173 (i6 l::.own 1::ctb (.int .u64 m::.int .u64 n::.own 2::.bool o::[])),.vec 3 (.int .i64) p false,.vec 5 (.int .u8) q false,.vec 3 (.int .i64) s true])):=by
  kernel_rfl
theorem hG126_a20 (fuel:Nat):GOK Tryz.prog (G126_a20 fuel):=
  gc (ok128_a20 fuel) Tryz.func128 (by kernel_rfl) rfl <|
  gc (ok204 fuel) Tryz.func204 (by kernel_rfl) rfl <|
  gok_nil
def spg126_a20 (F:YF126_a20):Ev.Spec:=fun args objs k=>match args,objs with | [.c (.ptr b d)],[.cells e a,.vec f (.int .i64) g false,.vec h (.int .u8) i false]=>(match splitRun 2 ctn a with | some ([i6 j,.own l],[.int .u64 m,.int .u64 n,.own o,.bool p])=>bif qb [b,d,e,f,h,l,o] [0,0,173,3,5,1,2] then F j m n p g i (fun r=>match r with | (q,s,t,u,v,w,x,y)=>k (.agg [i6 q,.own 3],[.cells 173 (i6 s::.own 1::ctb (.int .u64 t::.int .u64 u::.own 2::.bool v::[])),.vec 3 (.int .i64) w false,.vec 5 (.int .u8) x false,.vec 3 (.int .i64) y true])) else none | _=>none) | _,_=>none
def spec126_a20 (fuel:Nat):Ev.Spec:=spg126_a20 (F_coder_Encoder_Model_a20 fuel)
theorem ok126_a20 (fuel:Nat):FnOK Tryz.prog 126 (spec126_a20 fuel):=by
  intro args objs kk r h
  unfold spec126_a20 spg126_a20 at h
  split at h
  · skip
    split at h
    rotate_left 1
    · cases h
    rename_i hsp
    have esp:=splitRun_eq hsp
    subst esp
    obtain ⟨hb,h⟩:=cond_some' h
    cases qb_eq hb
    exact fo0 (hG126_a20 fuel) Tryz.func126 rfl (by kernel_rfl) _ _ kk r ((F126_a20_eqg fuel (F_coder_Encoder_none_a20 fuel) (F_coder_clone fuel) _ _ _ _ _ _ kk).trans h)
  · cases h
def kp211_a20 (i:Nat):Option (List Nat):=Ev.look i []
def Gg211_a20 (f:Nat):Option Ev.Spec:=Ev.look f []
def G211_a20 (fuel:Nat):Nat→Option Ev.Spec:=Gg211_a20
def F_coder_interval_lose_a20 (fuel:Nat) (b a c:Int) (d:Bool) (e f:(List Int)) (k0:(Int×Int×Int×Int×Bool×(List Int)×(List Int))→Option Ans):Option Ans:=k0 (u8.wrap (Ev.ishr IntKind.u64 a 24),b,Ev.iand IntKind.u64 (Ev.ishl IntKind.u64 a 8) 4294967295,Ev.ior IntKind.u64 (Ev.iand IntKind.u64 (Ev.ishl IntKind.u64 c 8) 4294967295) 255,d,e,f)
abbrev YF211_a20:Type:=Int→Int→Int→Bool→LI→LI→((Int×Int×Int×Int×Bool×LI×LI)→Option Ans)→Option Ans
theorem F211_a20_eq (fuel:Nat) (a b d:Int) (e:Bool) (f g:LI) (k:Ev.Cont):evalFn tab (G211_a20 fuel) J0 kp211_a20 fuel Tryz.f211 [.c (.ptr 0 0)] [.cells 173 (i6 a::.own 1::ctb (.int .u64 b::.int .u64 d::.own 2::.bool e::[])),.vec 3 (.int .i64) f false,.vec 5 (.int .u8) g false] k=F_coder_interval_lose_a20 fuel a b d e f g (fun r=>match r with | (h,i,j,l,m,n,o)=>k (.c (.int .u8 h),[.cells 173 (i6 i::.own 1::ctb (.int .u64 j::.int .u64 l::.own 2::.bool m::[])),.vec 3 (.int .i64) n false,.vec 5 (.int .u8) o false])):=by
  kernel_rfl
theorem hG211_a20 (fuel:Nat):GOK Tryz.prog (G211_a20 fuel):=
  gok_nil
def spg211_a20 (F:YF211_a20):Ev.Spec:=fun args objs k=>match args,objs with | [.c (.ptr b d)],[.cells e a,.vec f (.int .i64) g false,.vec h (.int .u8) i false]=>(match splitRun 2 ctn a with | some ([i6 j,.own l],[.int .u64 m,.int .u64 n,.own o,.bool p])=>bif qb [b,d,e,f,h,l,o] [0,0,173,3,5,1,2] then F j m n p g i (fun r=>match r with | (q,s,t,u,v,w,x)=>k (.c (.int .u8 q),[.cells 173 (i6 s::.own 1::ctb (.int .u64 t::.int .u64 u::.own 2::.bool v::[])),.vec 3 (.int .i64) w false,.vec 5 (.int .u8) x false])) else none | _=>none) | _,_=>none
theorem ok211_a20 (fuel:Nat):FnOK Tryz.prog 211 (spg211_a20 (F_coder_interval_lose_a20 fuel)):=by
  intro args objs kk r h
  unfold spg211_a20 at h
  split at h
  · skip
    split at h
    rotate_left 1
    · cases h
    rename_i hsp
    have esp:=splitRun_eq hsp
    subst esp
    obtain ⟨hb,h⟩:=cond_some' h
    cases qb_eq hb
    exact fo0 (hG211_a20 fuel) Tryz.func211 rfl (by kernel_rfl) _ _ kk r ((F211_a20_eq fuel _ _ _ _ _ _ kk).trans h)
  · cases h
def kp247_bb9 (i:Nat):Option (List Nat):=Ev.look i []
def Gg247_bb9 (f:Nat):Option Ev.Spec:=Ev.look f []
def G247_bb9 (fuel:Nat):Nat→Option Ev.Spec:=Gg247_bb9
def F_coder_table_chance_bb9 (fuel:Nat) (b a:Int) (k0:(Int)→Option Ans):Option Ans:=bif b==1 then bif decide (i64.wrap (i64.wrap (i64.wrap (2*i64.wrap (a.tdiv 256))+i64.wrap (2*a.tmod 256))+2)=0) then none else k0 (bif decide (4095 < bif decide (1 > i64.wrap ((i64.wrap (i64.wrap (i64.wrap (2*a.tmod 256)+1)*4096)).tdiv (i64.wrap (i64.wrap (i64.wrap (2*i64.wrap (a.tdiv 256))+i64.wrap (2*a.tmod 256))+2)))) then 1 else i64.wrap ((i64.wrap (i64.wrap (i64.wrap (2*a.tmod 256)+1)*4096)).tdiv (i64.wrap (i64.wrap (i64.wrap (2*i64.wrap (a.tdiv 256))+i64.wrap (2*a.tmod 256))+2)))) then 4095 else bif decide (1 > i64.wrap ((i64.wrap (i64.wrap (i64.wrap (2*a.tmod 256)+1)*4096)).tdiv (i64.wrap (i64.wrap (i64.wrap (2*i64.wrap (a.tdiv 256))+i64.wrap (2*a.tmod 256))+2)))) then 1 else i64.wrap ((i64.wrap (i64.wrap (i64.wrap (2*a.tmod 256)+1)*4096)).tdiv (i64.wrap (i64.wrap (i64.wrap (2*i64.wrap (a.tdiv 256))+i64.wrap (2*a.tmod 256))+2)))) else bif decide (a≥32) then bif decide (0≤i64.wrap (a - 32)∧i64.wrap (a - 32) < (↑(32:Nat):Int)) then bif decide (i64.wrap (a - 32)=(↑(0:Nat):Int)) then k0 (i64.wrap ((4096:Int) - (2048:Int))) else bif decide (i64.wrap (a - 32)=(↑(1:Nat):Int)) then k0 (i64.wrap ((4096:Int) - (1792:Int))) else bif decide (i64.wrap (a - 32)=(↑(2:Nat):Int)) then k0 (i64.wrap ((4096:Int) - (1568:Int))) else bif decide (i64.wrap (a - 32)=(↑(3:Nat):Int)) then k0 (i64.wrap ((4096:Int) - (1372:Int))) else bif decide (i64.wrap (a - 32)=(↑(4:Nat):Int)) then k0 (i64.wrap ((4096:Int) - (1201:Int))) else bif decide (i64.wrap (a - 32)=(↑(5:Nat):Int)) then k0 (i64.wrap ((4096:Int) - (1051:Int))) else bif decide (i64.wrap (a - 32)=(↑(6:Nat):Int)) then k0 (i64.wrap ((4096:Int) - (920:Int))) else bif decide (i64.wrap (a - 32)=(↑(7:Nat):Int)) then k0 (i64.wrap ((4096:Int) - (805:Int))) else bif decide (i64.wrap (a - 32)=(↑(8:Nat):Int)) then k0 (i64.wrap ((4096:Int) - (705:Int))) else bif decide (i64.wrap (a - 32)=(↑(9:Nat):Int)) then k0 (i64.wrap ((4096:Int) - (617:Int))) else bif decide (i64.wrap (a - 32)=(↑(10:Nat):Int)) then k0 (i64.wrap ((4096:Int) - (540:Int))) else bif decide (i64.wrap (a - 32)=(↑(11:Nat):Int)) then k0 (i64.wrap ((4096:Int) - (473:Int))) else bif decide (i64.wrap (a - 32)=(↑(12:Nat):Int)) then k0 (i64.wrap ((4096:Int) - (414:Int))) else bif decide (i64.wrap (a - 32)=(↑(13:Nat):Int)) then k0 (i64.wrap ((4096:Int) - (363:Int))) else bif decide (i64.wrap (a - 32)=(↑(14:Nat):Int)) then k0 (i64.wrap ((4096:Int) - (318:Int))) else bif decide (i64.wrap (a - 32)=(↑(15:Nat):Int)) then k0 (i64.wrap ((4096:Int) - (279:Int))) else bif decide (i64.wrap (a - 32)=(↑(16:Nat):Int)) then k0 (i64.wrap ((4096:Int) - (245:Int))) else bif decide (i64.wrap (a - 32)=(↑(17:Nat):Int)) then k0 (i64.wrap ((4096:Int) - (215:Int))) else bif decide (i64.wrap (a - 32)=(↑(18:Nat):Int)) then k0 (i64.wrap ((4096:Int) - (189:Int))) else bif decide (i64.wrap (a - 32)=(↑(19:Nat):Int)) then k0 (i64.wrap ((4096:Int) - (166:Int))) else bif decide (i64.wrap (a - 32)=(↑(20:Nat):Int)) then k0 (i64.wrap ((4096:Int) - (146:Int))) else bif decide (i64.wrap (a - 32)=(↑(21:Nat):Int)) then k0 (i64.wrap ((4096:Int) - (128:Int))) else bif decide (i64.wrap (a - 32)=(↑(22:Nat):Int)) then k0 (i64.wrap ((4096:Int) - (112:Int))) else bif decide (i64.wrap (a - 32)=(↑(23:Nat):Int)) then k0 (i64.wrap ((4096:Int) - (98:Int))) else bif decide (i64.wrap (a - 32)=(↑(24:Nat):Int)) then k0 (i64.wrap ((4096:Int) - (86:Int))) else bif decide (i64.wrap (a - 32)=(↑(25:Nat):Int)) then k0 (i64.wrap ((4096:Int) - (76:Int))) else bif decide (i64.wrap (a - 32)=(↑(26:Nat):Int)) then k0 (i64.wrap ((4096:Int) - (67:Int))) else bif decide (i64.wrap (a - 32)=(↑(27:Nat):Int)) then k0 (i64.wrap ((4096:Int) - (59:Int))) else bif decide (i64.wrap (a - 32)=(↑(28:Nat):Int)) then k0 (i64.wrap ((4096:Int) - (52:Int))) else bif decide (i64.wrap (a - 32)=(↑(29:Nat):Int)) then k0 (i64.wrap ((4096:Int) - (46:Int))) else bif decide (i64.wrap (a - 32)=(↑(30:Nat):Int)) then k0 (i64.wrap ((4096:Int) - (41:Int))) else bif decide (i64.wrap (a - 32)=(↑(31:Nat):Int)) then k0 (i64.wrap ((4096:Int) - (36:Int))) else none else none else bif decide (0≤a∧a < (↑(32:Nat):Int)) then bif decide (a=(↑(0:Nat):Int)) then k0 (2048) else bif decide (a=(↑(1:Nat):Int)) then k0 (1792) else bif decide (a=(↑(2:Nat):Int)) then k0 (1568) else bif decide (a=(↑(3:Nat):Int)) then k0 (1372) else bif decide (a=(↑(4:Nat):Int)) then k0 (1201) else bif decide (a=(↑(5:Nat):Int)) then k0 (1051) else bif decide (a=(↑(6:Nat):Int)) then k0 (920) else bif decide (a=(↑(7:Nat):Int)) then k0 (805) else bif decide (a=(↑(8:Nat):Int)) then k0 (705) else bif decide (a=(↑(9:Nat):Int)) then k0 (617) else bif decide (a=(↑(10:Nat):Int)) then k0 (540) else bif decide (a=(↑(11:Nat):Int)) then k0 (473) else bif decide (a=(↑(12:Nat):Int)) then k0 (414) else bif decide (a=(↑(13:Nat):Int)) then k0 (363) else bif decide (a=(↑(14:Nat):Int)) then k0 (318) else bif decide (a=(↑(15:Nat):Int)) then k0 (279) else bif decide (a=(↑(16:Nat):Int)) then k0 (245) else bif decide (a=(↑(17:Nat):Int)) then k0 (215) else bif decide (a=(↑(18:Nat):Int)) then k0 (189) else bif decide (a=(↑(19:Nat):Int)) then k0 (166) else bif decide (a=(↑(20:Nat):Int)) then k0 (146) else bif decide (a=(↑(21:Nat):Int)) then k0 (128) else bif decide (a=(↑(22:Nat):Int)) then k0 (112) else bif decide (a=(↑(23:Nat):Int)) then k0 (98) else bif decide (a=(↑(24:Nat):Int)) then k0 (86) else bif decide (a=(↑(25:Nat):Int)) then k0 (76) else bif decide (a=(↑(26:Nat):Int)) then k0 (67) else bif decide (a=(↑(27:Nat):Int)) then k0 (59) else bif decide (a=(↑(28:Nat):Int)) then k0 (52) else bif decide (a=(↑(29:Nat):Int)) then k0 (46) else bif decide (a=(↑(30:Nat):Int)) then k0 (41) else bif decide (a=(↑(31:Nat):Int)) then k0 (36) else none else none
abbrev YF247_bb9:Type:=Int→Int→(Int→Option Ans)→Option Ans
theorem F247_bb9_eq (fuel:Nat) (a b:Int) (k:Ev.Cont):evalFn tab (G247_bb9 fuel) J0 kp247_bb9 fuel Tryz.f247 [.agg (ctb []),.c (i6 a),.c (i6 b)] [] k=F_coder_table_chance_bb9 fuel a b (fun r=>match r with | d=>k (.c (i6 d),[])):=by
  kernel_rfl
theorem hG247_bb9 (fuel:Nat):GOK Tryz.prog (G247_bb9 fuel):=
  gok_nil
def spg247_bb9 (F:YF247_bb9):Ev.Spec:=fun args objs k=>match args,objs with | [.agg a,.c (i6 b),.c (i6 d)],[]=>(match splitRun 0 ctn a with | some ([],[])=>bif true then F b d (fun r=>match r with | e=>k (.c (i6 e),[])) else none | _=>none) | _,_=>none
theorem ok247_bb9 (fuel:Nat):FnOK Tryz.prog 247 (spg247_bb9 (F_coder_table_chance_bb9 fuel)):=by
  intro args objs kk r h
  unfold spg247_bb9 at h
  split at h
  · skip
    split at h
    rotate_left 1
    · cases h
    rename_i hsp
    have esp:=splitRun_eq hsp
    subst esp
    exact fo0 (hG247_bb9 fuel) Tryz.func247 rfl (by kernel_rfl) _ _ kk r ((F247_bb9_eq fuel _ _ kk).trans h)
  · cases h
def kp209_402 (i:Nat):Option (List Nat):=Ev.look i [(200001,[0])]
def Gg209_402 (a:YF247_bb9) (f:Nat):Option Ev.Spec:=Ev.look f [(247,spg247_bb9 a)]
def G209_402 (fuel:Nat):Nat→Option Ev.Spec:=Gg209_402 (F_coder_table_chance_bb9 fuel)
def Fg_coder_interval_mid_402 (fuel:Nat) (g:YF247_bb9) (b e:Int) (a c:Int) (h:Bool) (d i:LI) (k0:(Int×Int×Int×Int×Bool×LI×LI)→OA):OA:=bif decide (0≤b∧b < (↑d.length:Int)) then (g e (d.getD b.toNat 0) (fun f=>k0 (u64.wrap (u64.wrap (a+u64.wrap (u64.wrap ((u64.wrap (c - a)).tdiv 4096)*u64.wrap f))+u64.wrap ((u64.wrap ((u64.wrap (c - a)).tmod 4096*u64.wrap f)).tdiv 4096)),e,a,c,h,d,i))) else none
abbrev YF209_402:Type:=Int→Int→Int→Int→Bool→LI→LI→((Int×Int×Int×Int×Bool×LI×LI)→Option Ans)→Option Ans
def F_coder_interval_mid_402 (fuel:Nat):YF209_402:=Fg_coder_interval_mid_402 fuel (F_coder_table_chance_bb9 fuel)
theorem F209_402_eqg (fuel:Nat) (a:YF247_bb9) (b d:Int) (e f:Int) (g:Bool) (h i:LI) (k:Ev.Cont):evalFn tab (Gg209_402 a) J0 kp209_402 fuel Tryz.f209 [.c (.ptr 0 0),.c (i6 b)] [.cells 173 (i6 d::.own 1::ctb (.int .u64 e::.int .u64 f::.own 2::.bool g::[])),.vec 3 (.int .i64) h false,.vec 5 (.int .u8) i false] k=Fg_coder_interval_mid_402 fuel a b d e f g h i (fun r=>match r with | (j,l,m,n,o,p,q)=>k (.c (.int .u64 j),[.cells 173 (i6 l::.own 1::ctb (.int .u64 m::.int .u64 n::.own 2::.bool o::[])),.vec 3 (.int .i64) p false,.vec 5 (.int .u8) q false])):=by
  kernel_rfl
theorem hG209_402 (fuel:Nat):GOK Tryz.prog (G209_402 fuel):=
  gc (ok247_bb9 fuel) Tryz.func247 (by kernel_rfl) rfl <|
  gok_nil
def spg209_402 (F:YF209_402):Ev.Spec:=fun args objs k=>match args,objs with | [.c (.ptr b d),.c (i6 e)],[.cells f a,.vec g (.int .i64) h false,.vec i (.int .u8) j false]=>(match splitRun 2 ctn a with | some ([i6 l,.own m],[.int .u64 n,.int .u64 o,.own p,.bool q])=>bif qb [b,d,f,g,i,m,p] [0,0,173,3,5,1,2] then F e l n o q h j (fun r=>match r with | (s,t,u,v,w,x,y)=>k (.c (.int .u64 s),[.cells 173 (i6 t::.own 1::ctb (.int .u64 u::.int .u64 v::.own 2::.bool w::[])),.vec 3 (.int .i64) x false,.vec 5 (.int .u8) y false])) else none | _=>none) | _,_=>none
theorem ok209_402 (fuel:Nat):FnOK Tryz.prog 209 (spg209_402 (F_coder_interval_mid_402 fuel)):=by
  intro args objs kk r h
  unfold spg209_402 at h
  split at h
  · skip
    split at h
    rotate_left 1
    · cases h
    rename_i hsp
    have esp:=splitRun_eq hsp
    subst esp
    obtain ⟨hb,h⟩:=cond_some' h
    cases qb_eq hb
    exact fo0 (hG209_402 fuel) Tryz.func209 rfl (by kernel_rfl) _ _ kk r ((F209_402_eqg fuel (F_coder_table_chance_bb9 fuel) _ _ _ _ _ _ _ kk).trans h)
  · cases h
def kp210_a20 (i:Nat):Option (List Nat):=Ev.look i [(200001,[0])]
def Gg210_a20 (f:Nat):Option Ev.Spec:=Ev.look f []
def G210_a20 (fuel:Nat):Nat→Option Ev.Spec:=Gg210_a20
def F_coder_interval_same_a20 (fuel:Nat) (c a b:Int) (d:Bool) (e f:(List Int)) (k0:(Bool×Int×Int×Int×Bool×(List Int)×(List Int))→Option Ans):Option Ans:=k0 (Ev.ishr IntKind.u64 a 24==Ev.ishr IntKind.u64 b 24,c,a,b,d,e,f)
abbrev YF210_a20:Type:=Int→Int→Int→Bool→LI→LI→((Bool×Int×Int×Int×Bool×LI×LI)→Option Ans)→Option Ans
theorem F210_a20_eq (fuel:Nat) (a b d:Int) (e:Bool) (f g:LI) (k:Ev.Cont):evalFn tab (G210_a20 fuel) J0 kp210_a20 fuel Tryz.f210 [.c (.ptr 0 0)] [.cells 173 (i6 a::.own 1::ctb (.int .u64 b::.int .u64 d::.own 2::.bool e::[])),.vec 3 (.int .i64) f false,.vec 5 (.int .u8) g false] k=F_coder_interval_same_a20 fuel a b d e f g (fun r=>match r with | (h,i,j,l,m,n,o)=>k (.c (.bool h),[.cells 173 (i6 i::.own 1::ctb (.int .u64 j::.int .u64 l::.own 2::.bool m::[])),.vec 3 (.int .i64) n false,.vec 5 (.int .u8) o false])):=by
  kernel_rfl
theorem hG210_a20 (fuel:Nat):GOK Tryz.prog (G210_a20 fuel):=
  gok_nil
def spg210_a20 (F:YF210_a20):Ev.Spec:=fun args objs k=>match args,objs with | [.c (.ptr b d)],[.cells e a,.vec f (.int .i64) g false,.vec h (.int .u8) i false]=>(match splitRun 2 ctn a with | some ([i6 j,.own l],[.int .u64 m,.int .u64 n,.own o,.bool p])=>bif qb [b,d,e,f,h,l,o] [0,0,173,3,5,1,2] then F j m n p g i (fun r=>match r with | (q,s,t,u,v,w,x)=>k (.c (.bool q),[.cells 173 (i6 s::.own 1::ctb (.int .u64 t::.int .u64 u::.own 2::.bool v::[])),.vec 3 (.int .i64) w false,.vec 5 (.int .u8) x false])) else none | _=>none) | _,_=>none
theorem ok210_a20 (fuel:Nat):FnOK Tryz.prog 210 (spg210_a20 (F_coder_interval_same_a20 fuel)):=by
  intro args objs kk r h
  unfold spg210_a20 at h
  split at h
  · skip
    split at h
    rotate_left 1
    · cases h
    rename_i hsp
    have esp:=splitRun_eq hsp
    subst esp
    obtain ⟨hb,h⟩:=cond_some' h
    cases qb_eq hb
    exact fo0 (hG210_a20 fuel) Tryz.func210 rfl (by kernel_rfl) _ _ kk r ((F210_a20_eq fuel _ _ _ _ _ _ kk).trans h)
  · cases h
def kp246 (i:Nat):Option (List Nat):=Ev.look i []
def Gg246 (f:Nat):Option Ev.Spec:=Ev.look f []
def G246 (fuel:Nat):Nat→Option Ev.Spec:=Gg246
def F_coder_next (fuel:Nat) (c b a:Int) (k0:(Int)→Option Ans):Option Ans:=bif c==1 then bif decide (0≤a∧a < (↑(2:Nat):Int)) then bif decide (a=(↑(0:Nat):Int)) then bif i64.wrap (b.tdiv 256)==255 then bif decide (0≤a∧a < (↑(2:Nat):Int)) then bif decide (a=(↑(0:Nat):Int)) then bif decide (0≤a∧a < (↑(2:Nat):Int)) then bif decide (a=(↑(0:Nat):Int)) then k0 (i64.wrap (i64.wrap (256*i64.wrap (i64.wrap ((i64.wrap (b.tdiv 256)).tdiv 2)+1))+i64.wrap ((b.tmod 256).tdiv 2))) else bif decide (a=(↑(1:Nat):Int)) then k0 (i64.wrap (i64.wrap (256*i64.wrap ((i64.wrap (b.tdiv 256)).tdiv 2))+i64.wrap (i64.wrap ((i64.wrap (b.tdiv 256)).tdiv 2)+1))) else none else none else bif decide (a=(↑(1:Nat):Int)) then bif decide (0≤a∧a < (↑(2:Nat):Int)) then bif decide (a=(↑(0:Nat):Int)) then k0 (i64.wrap (i64.wrap (256*i64.wrap (i64.wrap ((b.tmod 256).tdiv 2)+1))+i64.wrap ((b.tmod 256).tdiv 2))) else bif decide (a=(↑(1:Nat):Int)) then k0 (i64.wrap (i64.wrap (256*i64.wrap ((i64.wrap (b.tdiv 256)).tdiv 2))+i64.wrap (i64.wrap ((b.tmod 256).tdiv 2)+1))) else none else none else none else none else bif decide (0≤a∧a < (↑(2:Nat):Int)) then bif decide (a=(↑(0:Nat):Int)) then bif decide (0≤a∧a < (↑(2:Nat):Int)) then bif decide (a=(↑(0:Nat):Int)) then k0 (i64.wrap (i64.wrap (256*i64.wrap (i64.wrap (b.tdiv 256)+1))+b.tmod 256)) else bif decide (a=(↑(1:Nat):Int)) then k0 (i64.wrap (i64.wrap (256*i64.wrap (b.tdiv 256))+i64.wrap (i64.wrap (b.tdiv 256)+1))) else none else none else bif decide (a=(↑(1:Nat):Int)) then bif decide (0≤a∧a < (↑(2:Nat):Int)) then bif decide (a=(↑(0:Nat):Int)) then k0 (i64.wrap (i64.wrap ((256:Int)*i64.wrap (b.tmod (256:Int)+(1:Int)))+b.tmod (256:Int))) else bif decide (a=(↑(1:Nat):Int)) then k0 (i64.wrap (i64.wrap ((256:Int)*i64.wrap (b.tdiv (256:Int)))+i64.wrap (b.tmod (256:Int)+(1:Int)))) else none else none else none else none else bif decide (a=(↑(1:Nat):Int)) then bif b.tmod (256:Int)==(255:Int) then bif decide (0≤a∧a < (↑(2:Nat):Int)) then bif decide (a=(↑(0:Nat):Int)) then bif decide (0≤a∧a < (↑(2:Nat):Int)) then bif decide (a=(↑(0:Nat):Int)) then k0 (i64.wrap (i64.wrap (256*i64.wrap (i64.wrap ((i64.wrap (b.tdiv 256)).tdiv 2)+1))+i64.wrap ((b.tmod 256).tdiv 2))) else bif decide (a=(↑(1:Nat):Int)) then k0 (i64.wrap (i64.wrap (256*i64.wrap ((i64.wrap (b.tdiv 256)).tdiv 2))+i64.wrap (i64.wrap ((i64.wrap (b.tdiv 256)).tdiv 2)+1))) else none else none else bif decide (a=(↑(1:Nat):Int)) then bif decide (0≤a∧a < (↑(2:Nat):Int)) then bif decide (a=(↑(0:Nat):Int)) then k0 (i64.wrap (i64.wrap (256*i64.wrap (i64.wrap ((b.tmod 256).tdiv 2)+1))+i64.wrap ((b.tmod 256).tdiv 2))) else bif decide (a=(↑(1:Nat):Int)) then k0 (i64.wrap (i64.wrap (256*i64.wrap ((i64.wrap (b.tdiv 256)).tdiv 2))+i64.wrap (i64.wrap ((b.tmod 256).tdiv 2)+1))) else none else none else none else none else bif decide (0≤a∧a < (↑(2:Nat):Int)) then bif decide (a=(↑(0:Nat):Int)) then bif decide (0≤a∧a < (↑(2:Nat):Int)) then bif decide (a=(↑(0:Nat):Int)) then k0 (i64.wrap (i64.wrap (256*i64.wrap (i64.wrap (b.tdiv 256)+1))+b.tmod 256)) else bif decide (a=(↑(1:Nat):Int)) then k0 (i64.wrap (i64.wrap (256*i64.wrap (b.tdiv 256))+i64.wrap (i64.wrap (b.tdiv 256)+1))) else none else none else bif decide (a=(↑(1:Nat):Int)) then bif decide (0≤a∧a < (↑(2:Nat):Int)) then bif decide (a=(↑(0:Nat):Int)) then k0 (i64.wrap (i64.wrap ((256:Int)*i64.wrap (b.tmod (256:Int)+(1:Int)))+b.tmod (256:Int))) else bif decide (a=(↑(1:Nat):Int)) then k0 (i64.wrap (i64.wrap ((256:Int)*i64.wrap (b.tdiv (256:Int)))+i64.wrap (b.tmod (256:Int)+(1:Int)))) else none else none else none else none else none else none else bif a==i64.wrap (b.tdiv 32) then k0 (i64.wrap (i64.wrap ((32:Int)*i64.wrap (b.tdiv (32:Int)))+bif decide ((31:Int) < i64.wrap (b.tmod (32:Int)+(1:Int))) then (31:Int) else i64.wrap (b.tmod (32:Int)+(1:Int)))) else bif b.tmod (32:Int)==(0:Int) then k0 (i64.wrap (i64.wrap (32*a)+b.tmod 32)) else k0 (i64.wrap (i64.wrap (32*i64.wrap (b.tdiv 32))+i64.wrap (b.tmod 32 - i64.wrap (1+i64.wrap ((b.tmod 32).tdiv 4)))))
abbrev YF246:Type:=Int→Int→Int→(Int→Option Ans)→Option Ans
theorem F246_eq (fuel:Nat) (a b d:Int) (k:Ev.Cont):evalFn tab (G246 fuel) J0 kp246 fuel Tryz.f246 [.c (i6 a),.c (i6 b),.c (i6 d)] [] k=F_coder_next fuel a b d (fun r=>match r with | e=>k (.c (i6 e),[])):=by
  kernel_rfl
theorem hG246 (fuel:Nat):GOK Tryz.prog (G246 fuel):=
  gok_nil
def spg246 (F:YF246):Ev.Spec:=fun args objs k=>match args,objs with | [.c (i6 a),.c (i6 b),.c (i6 d)],[]=>F a b d (fun r=>match r with | e=>k (.c (i6 e),[])) | _,_=>none
theorem ok246 (fuel:Nat):FnOK Tryz.prog 246 (spg246 (F_coder_next fuel)):=by
  intro args objs kk r h
  unfold spg246 at h
  split at h
  · skip
    exact fo0 (hG246 fuel) Tryz.func246 rfl (by kernel_rfl) _ _ kk r ((F246_eq fuel _ _ _ kk).trans h)
  · cases h
end
end Go.Proofs.YtipdidpalcmlhaaGreat

