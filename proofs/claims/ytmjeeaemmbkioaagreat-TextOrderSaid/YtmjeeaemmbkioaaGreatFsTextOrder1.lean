/- What the functions that TextOrder reaches do: their typed texts, each with the proof that the machine does it. No condition. -/
import Derived.Test.YtmjeeaemmbkioaaGreatEvX
set_option linter.unusedVariables false
set_option linter.unusedSimpArgs false
set_option linter.unusedSectionVars false
namespace Go.Proofs.YtmjeeaemmbkioaaGreat
open Go Ev
open Go.IntKind (i64 u64 u8 i32 u32 u16)
noncomputable section
def ctb (r:List SC):List SC:=.int .i64 2048::.int .i64 1792::.int .i64 1568::.int .i64 1372::.int .i64 1201::.int .i64 1051::.int .i64 920::.int .i64 805::.int .i64 705::.int .i64 617::.int .i64 540::.int .i64 473::.int .i64 414::.int .i64 363::.int .i64 318::.int .i64 279::.int .i64 245::.int .i64 215::.int .i64 189::.int .i64 166::.int .i64 146::.int .i64 128::.int .i64 112::.int .i64 98::.int .i64 86::.int .i64 76::.int .i64 67::.int .i64 59::.int .i64 52::.int .i64 46::.int .i64 41::.int .i64 36::r
def ctn:List (IntKind×Int):=[(.i64,2048),(.i64,1792),(.i64,1568),(.i64,1372),(.i64,1201),(.i64,1051),(.i64,920),(.i64,805),(.i64,705),(.i64,617),(.i64,540),(.i64,473),(.i64,414),(.i64,363),(.i64,318),(.i64,279),(.i64,245),(.i64,215),(.i64,189),(.i64,166),(.i64,146),(.i64,128),(.i64,112),(.i64,98),(.i64,86),(.i64,76),(.i64,67),(.i64,59),(.i64,52),(.i64,46),(.i64,41),(.i64,36)]
def qb:List Nat→List Nat→Bool
 | [],[]=>true
 | a::x,b::y=>Nat.beq a b&&qb x y
 | _,_=>false
theorem qb_eq:∀ {x y:List Nat},qb x y=true→x=y
 | [],[],_=>rfl
 | [],_::_,h=>by cases h
 | _::_,[],h=>by cases h
 | a::x,b::y,h=>by
  have h:(Nat.beq a b&&qb x y)=true:=h
  rw [Bool.and_eq_true] at h
  rw [Nat.eq_of_beq_eq_true h.1,qb_eq h.2]
theorem w6 {x:Int} (h1: -9223372036854775808≤x:=by omega) (h2:x≤9223372036854775807:=by omega):i64.wrap x=x:=by
 simp [IntKind.wrap,IntKind.min,IntKind.max,IntKind.signed,IntKind.bits]
 omega
theorem fo0 {G:Nat→Option Ev.Spec} {J:Nat→Option Ev.Blk} {kp:Nat→Option (List Nat)} {fuel:Nat} {f:FuncId} {fn:Func} (hG:GOK Tryz.prog G) (hf:Tryz.prog.funcs[f]? =some fn) (hb:fn.body=some (fn.body.getD .skip)) (h:obl J (fn.body.getD .skip)= []):FnOK Tryz.prog f (evalFn tab G J kp fuel fn):=
  fn_ok tab_ok hG mixed hf (c:=fn.body.getD .skip) hb (fun q hq=>by
    rw [h] at hq
    cases hq)
@[match_pattern] abbrev i6 (x:Int):Ev.SC:=.int .i64 x
abbrev LI:Type:=List Int
abbrev OA:Type:=Option Ans
abbrev KT:Type:=Ev.Ex→Ev.St→Option Ans
def J0 (i:Nat):Option Ev.Blk:=Ev.look i []
theorem gc {k:Nat} {v:Ev.Spec} {r:List (Nat×Ev.Spec)} {fn:Func} {c:Code} (h:FnOK Tryz.prog (k % 1000000) v) (hf:Tryz.prog.funcs[k % 1000000]? =some fn) (hn:(fn.name== "runtime.NumGoroutine")=false) (hb:fn.body=some c) (hr:GOK Tryz.prog (fun f=>Ev.look f r)):GOK Tryz.prog (fun f=>Ev.look f ((k,v)::r)):=gok_cons ⟨h,enters_of hf hn hb⟩ hr
theorem bo0 {G:Nat→Option Ev.Spec} {J:Nat→Option Ev.Blk} {kp:Nat→Option (List Nat)} {fuel nt:Nat} {b:Code} {sp:Ev.Blk} (hG:GOK Tryz.prog G) (hfit:codeFit nt b=true) (h:obl J b= []) (hs:∀ st K r,sp st K=some r→evalCode tab G J kp fuel b st K=some r):BlkOK Tryz.prog nt b sp:=
  blk_of (blk_of_code tab_ok hG mixed hfit (fun q hq=>by
    rw [h] at hq
    cases hq)) hs
theorem fo1 {G:Nat→Option Ev.Spec} {J:Nat→Option Ev.Blk} {kp:Nat→Option (List Nat)} {fuel:Nat} {f:FuncId} {fn:Func} {b:Code} {sp:Ev.Blk} (hG:GOK Tryz.prog G) (hf:Tryz.prog.funcs[f]? =some fn) (hb:fn.body=some (fn.body.getD .skip)) (hk:BlkOK Tryz.prog fn.ntmps b sp) (h:obl J (fn.body.getD .skip)= [(b,sp)]):FnOK Tryz.prog f (evalFn tab G J kp fuel fn):=
  fn_ok tab_ok hG mixed hf (c:=fn.body.getD .skip) hb (fun q hq=>by
    rw [h] at hq
    simp only [List.mem_cons,List.not_mem_nil,or_false] at hq
    subst hq
    exact hk)
def kp148 (i:Nat):Option (List Nat):=Ev.look i []
def Gg148 (f:Nat):Option Ev.Spec:=Ev.look f []
def G148 (fuel:Nat):Nat→Option Ev.Spec:=Gg148
def F_math_bits_Len64 (fuel:Nat) (a:Int) (k0:(Int)→Option Ans):Option Ans:=bif decide (a≥4294967296) then bif decide (Ev.ishr IntKind.u64 a (32:Int)≥(65536:Int)) then bif decide (Ev.ishr IntKind.u64 (Ev.ishr IntKind.u64 a (32:Int)) (16:Int)≥(256:Int)) then bif decide (0≤u8.wrap (Ev.ishr IntKind.u64 (Ev.ishr IntKind.u64 (Ev.ishr IntKind.u64 a 32) 16) 8)∧u8.wrap (Ev.ishr IntKind.u64 (Ev.ishr IntKind.u64 (Ev.ishr IntKind.u64 a 32) 16) 8) < (↑(ByteArray.mk (([(0:UInt8),(1:UInt8),(2:UInt8),(2:UInt8),(3:UInt8),(3:UInt8),(3:UInt8),(3:UInt8),(4:UInt8),(4:UInt8),(4:UInt8),(4:UInt8),(4:UInt8),(4:UInt8),(4:UInt8),(4:UInt8),(5:UInt8),(5:UInt8),(5:UInt8),(5:UInt8),(5:UInt8),(5:UInt8),(5:UInt8),(5:UInt8),(5:UInt8),(5:UInt8),(5:UInt8),(5:UInt8),(5:UInt8),(5:UInt8),(5:UInt8),(5:UInt8),(6:UInt8),(6:UInt8),(6:UInt8),(6:UInt8),(6:UInt8),(6:UInt8),(6:UInt8),(6:UInt8),(6:UInt8),(6:UInt8),(6:UInt8),(6:UInt8),(6:UInt8),(6:UInt8),(6:UInt8),(6:UInt8),(6:UInt8),(6:UInt8),(6:UInt8),(6:UInt8),(6:UInt8),(6:UInt8),(6:UInt8),(6:UInt8),(6:UInt8),(6:UInt8),(6:UInt8),(6:UInt8),(6:UInt8),(6:UInt8),(6:UInt8),(6:UInt8)].append [(7:UInt8),(7:UInt8),(7:UInt8),(7:UInt8),(7:UInt8),(7:UInt8),(7:UInt8),(7:UInt8),(7:UInt8),(7:UInt8),(7:UInt8),(7:UInt8),(7:UInt8),(7:UInt8),(7:UInt8),(7:UInt8),(7:UInt8),(7:UInt8),(7:UInt8),(7:UInt8),(7:UInt8),(7:UInt8),(7:UInt8),(7:UInt8),(7:UInt8),(7:UInt8),(7:UInt8),(7:UInt8),(7:UInt8),(7:UInt8),(7:UInt8),(7:UInt8),(7:UInt8),(7:UInt8),(7:UInt8),(7:UInt8),(7:UInt8),(7:UInt8),(7:UInt8),(7:UInt8),(7:UInt8),(7:UInt8),(7:UInt8),(7:UInt8),(7:UInt8),(7:UInt8),(7:UInt8),(7:UInt8),(7:UInt8),(7:UInt8),(7:UInt8),(7:UInt8),(7:UInt8),(7:UInt8),(7:UInt8),(7:UInt8),(7:UInt8),(7:UInt8),(7:UInt8),(7:UInt8),(7:UInt8),(7:UInt8),(7:UInt8),(7:UInt8)]).append ([(8:UInt8),(8:UInt8),(8:UInt8),(8:UInt8),(8:UInt8),(8:UInt8),(8:UInt8),(8:UInt8),(8:UInt8),(8:UInt8),(8:UInt8),(8:UInt8),(8:UInt8),(8:UInt8),(8:UInt8),(8:UInt8),(8:UInt8),(8:UInt8),(8:UInt8),(8:UInt8),(8:UInt8),(8:UInt8),(8:UInt8),(8:UInt8),(8:UInt8),(8:UInt8),(8:UInt8),(8:UInt8),(8:UInt8),(8:UInt8),(8:UInt8),(8:UInt8),(8:UInt8),(8:UInt8),(8:UInt8),(8:UInt8),(8:UInt8),(8:UInt8),(8:UInt8),(8:UInt8),(8:UInt8),(8:UInt8),(8:UInt8),(8:UInt8),(8:UInt8),(8:UInt8),(8:UInt8),(8:UInt8),(8:UInt8),(8:UInt8),(8:UInt8),(8:UInt8),(8:UInt8),(8:UInt8),(8:UInt8),(8:UInt8),(8:UInt8),(8:UInt8),(8:UInt8),(8:UInt8),(8:UInt8),(8:UInt8),(8:UInt8),(8:UInt8)].append [(8:UInt8),(8:UInt8),(8:UInt8),(8:UInt8),(8:UInt8),(8:UInt8),(8:UInt8),(8:UInt8),(8:UInt8),(8:UInt8),(8:UInt8),(8:UInt8),(8:UInt8),(8:UInt8),(8:UInt8),(8:UInt8),(8:UInt8),(8:UInt8),(8:UInt8),(8:UInt8),(8:UInt8),(8:UInt8),(8:UInt8),(8:UInt8),(8:UInt8),(8:UInt8),(8:UInt8),(8:UInt8),(8:UInt8),(8:UInt8),(8:UInt8),(8:UInt8),(8:UInt8),(8:UInt8),(8:UInt8),(8:UInt8),(8:UInt8),(8:UInt8),(8:UInt8),(8:UInt8),(8:UInt8),(8:UInt8),(8:UInt8),(8:UInt8),(8:UInt8),(8:UInt8),(8:UInt8),(8:UInt8),(8:UInt8),(8:UInt8),(8:UInt8),(8:UInt8),(8:UInt8),(8:UInt8),(8:UInt8),(8:UInt8),(8:UInt8),(8:UInt8),(8:UInt8),(8:UInt8),(8:UInt8),(8:UInt8),(8:UInt8),(8:UInt8)])).toArray).size:Int)) then k0 (i64.wrap (i64.wrap (i64.wrap ((32:Int)+(16:Int))+(8:Int))+i64.wrap (↑((ByteArray.mk (([(0:UInt8),(1:UInt8),(2:UInt8),(2:UInt8),(3:UInt8),(3:UInt8),(3:UInt8),(3:UInt8),(4:UInt8),(4:UInt8),(4:UInt8),(4:UInt8),(4:UInt8),(4:UInt8),(4:UInt8),(4:UInt8),(5:UInt8),(5:UInt8),(5:UInt8),(5:UInt8),(5:UInt8),(5:UInt8),(5:UInt8),(5:UInt8),(5:UInt8),(5:UInt8),(5:UInt8),(5:UInt8),(5:UInt8),(5:UInt8),(5:UInt8),(5:UInt8),(6:UInt8),(6:UInt8),(6:UInt8),(6:UInt8),(6:UInt8),(6:UInt8),(6:UInt8),(6:UInt8),(6:UInt8),(6:UInt8),(6:UInt8),(6:UInt8),(6:UInt8),(6:UInt8),(6:UInt8),(6:UInt8),(6:UInt8),(6:UInt8),(6:UInt8),(6:UInt8),(6:UInt8),(6:UInt8),(6:UInt8),(6:UInt8),(6:UInt8),(6:UInt8),(6:UInt8),(6:UInt8),(6:UInt8),(6:UInt8),(6:UInt8),(6:UInt8)].append [(7:UInt8),(7:UInt8),(7:UInt8),(7:UInt8),(7:UInt8),(7:UInt8),(7:UInt8),(7:UInt8),(7:UInt8),(7:UInt8),(7:UInt8),(7:UInt8),(7:UInt8),(7:UInt8),(7:UInt8),(7:UInt8),(7:UInt8),(7:UInt8),(7:UInt8),(7:UInt8),(7:UInt8),(7:UInt8),(7:UInt8),(7:UInt8),(7:UInt8),(7:UInt8),(7:UInt8),(7:UInt8),(7:UInt8),(7:UInt8),(7:UInt8),(7:UInt8),(7:UInt8),(7:UInt8),(7:UInt8),(7:UInt8),(7:UInt8),(7:UInt8),(7:UInt8),(7:UInt8),(7:UInt8),(7:UInt8),(7:UInt8),(7:UInt8),(7:UInt8),(7:UInt8),(7:UInt8),(7:UInt8),(7:UInt8),(7:UInt8),(7:UInt8),(7:UInt8),(7:UInt8),(7:UInt8),(7:UInt8),(7:UInt8),(7:UInt8),(7:UInt8),(7:UInt8),(7:UInt8),(7:UInt8),(7:UInt8),(7:UInt8),(7:UInt8)]).append ([(8:UInt8),(8:UInt8),(8:UInt8),(8:UInt8),(8:UInt8),(8:UInt8),(8:UInt8),(8:UInt8),(8:UInt8),(8:UInt8),(8:UInt8),(8:UInt8),(8:UInt8),(8:UInt8),(8:UInt8),(8:UInt8),(8:UInt8),(8:UInt8),(8:UInt8),(8:UInt8),(8:UInt8),(8:UInt8),(8:UInt8),(8:UInt8),(8:UInt8),(8:UInt8),(8:UInt8),(8:UInt8),(8:UInt8),(8:UInt8),(8:UInt8),(8:UInt8),(8:UInt8),(8:UInt8),(8:UInt8),(8:UInt8),(8:UInt8),(8:UInt8),(8:UInt8),(8:UInt8),(8:UInt8),(8:UInt8),(8:UInt8),(8:UInt8),(8:UInt8),(8:UInt8),(8:UInt8),(8:UInt8),(8:UInt8),(8:UInt8),(8:UInt8),(8:UInt8),(8:UInt8),(8:UInt8),(8:UInt8),(8:UInt8),(8:UInt8),(8:UInt8),(8:UInt8),(8:UInt8),(8:UInt8),(8:UInt8),(8:UInt8),(8:UInt8)].append [(8:UInt8),(8:UInt8),(8:UInt8),(8:UInt8),(8:UInt8),(8:UInt8),(8:UInt8),(8:UInt8),(8:UInt8),(8:UInt8),(8:UInt8),(8:UInt8),(8:UInt8),(8:UInt8),(8:UInt8),(8:UInt8),(8:UInt8),(8:UInt8),(8:UInt8),(8:UInt8),(8:UInt8),(8:UInt8),(8:UInt8),(8:UInt8),(8:UInt8),(8:UInt8),(8:UInt8),(8:UInt8),(8:UInt8),(8:UInt8),(8:UInt8),(8:UInt8),(8:UInt8),(8:UInt8),(8:UInt8),(8:UInt8),(8:UInt8),(8:UInt8),(8:UInt8),(8:UInt8),(8:UInt8),(8:UInt8),(8:UInt8),(8:UInt8),(8:UInt8),(8:UInt8),(8:UInt8),(8:UInt8),(8:UInt8),(8:UInt8),(8:UInt8),(8:UInt8),(8:UInt8),(8:UInt8),(8:UInt8),(8:UInt8),(8:UInt8),(8:UInt8),(8:UInt8),(8:UInt8),(8:UInt8),(8:UInt8),(8:UInt8),(8:UInt8)])).toArray).data.toList.getD (u8.wrap (Ev.ishr IntKind.u64 (Ev.ishr IntKind.u64 (Ev.ishr IntKind.u64 a (32:Int)) (16:Int)) (8:Int))).toNat (0:UInt8)).toNat:Int))) else none else bif decide (0≤u8.wrap (Ev.ishr IntKind.u64 (Ev.ishr IntKind.u64 a 32) 16)∧u8.wrap (Ev.ishr IntKind.u64 (Ev.ishr IntKind.u64 a 32) 16) < (↑(ByteArray.mk (([(0:UInt8),(1:UInt8),(2:UInt8),(2:UInt8),(3:UInt8),(3:UInt8),(3:UInt8),(3:UInt8),(4:UInt8),(4:UInt8),(4:UInt8),(4:UInt8),(4:UInt8),(4:UInt8),(4:UInt8),(4:UInt8),(5:UInt8),(5:UInt8),(5:UInt8),(5:UInt8),(5:UInt8),(5:UInt8),(5:UInt8),(5:UInt8),(5:UInt8),(5:UInt8),(5:UInt8),(5:UInt8),(5:UInt8),(5:UInt8),(5:UInt8),(5:UInt8),(6:UInt8),(6:UInt8),(6:UInt8),(6:UInt8),(6:UInt8),(6:UInt8),(6:UInt8),(6:UInt8),(6:UInt8),(6:UInt8),(6:UInt8),(6:UInt8),(6:UInt8),(6:UInt8),(6:UInt8),(6:UInt8),(6:UInt8),(6:UInt8),(6:UInt8),(6:UInt8),(6:UInt8),(6:UInt8),(6:UInt8),(6:UInt8),(6:UInt8),(6:UInt8),(6:UInt8),(6:UInt8),(6:UInt8),(6:UInt8),(6:UInt8),(6:UInt8)].append [(7:UInt8),(7:UInt8),(7:UInt8),(7:UInt8),(7:UInt8),(7:UInt8),(7:UInt8),(7:UInt8),(7:UInt8),(7:UInt8),(7:UInt8),(7:UInt8),(7:UInt8),(7:UInt8),(7:UInt8),(7:UInt8),(7:UInt8),(7:UInt8),(7:UInt8),(7:UInt8),(7:UInt8),(7:UInt8),(7:UInt8),(7:UInt8),(7:UInt8),(7:UInt8),(7:UInt8),(7:UInt8),(7:UInt8),(7:UInt8),(7:UInt8),(7:UInt8),(7:UInt8),(7:UInt8),(7:UInt8),(7:UInt8),(7:UInt8),(7:UInt8),(7:UInt8),(7:UInt8),(7:UInt8),(7:UInt8),(7:UInt8),(7:UInt8),(7:UInt8),(7:UInt8),(7:UInt8),(7:UInt8),(7:UInt8),(7:UInt8),(7:UInt8),(7:UInt8),(7:UInt8),(7:UInt8),(7:UInt8),(7:UInt8),(7:UInt8),(7:UInt8),(7:UInt8),(7:UInt8),(7:UInt8),(7:UInt8),(7:UInt8),(7:UInt8)]).append ([(8:UInt8),(8:UInt8),(8:UInt8),(8:UInt8),(8:UInt8),(8:UInt8),(8:UInt8),(8:UInt8),(8:UInt8),(8:UInt8),(8:UInt8),(8:UInt8),(8:UInt8),(8:UInt8),(8:UInt8),(8:UInt8),(8:UInt8),(8:UInt8),(8:UInt8),(8:UInt8),(8:UInt8),(8:UInt8),(8:UInt8),(8:UInt8),(8:UInt8),(8:UInt8),(8:UInt8),(8:UInt8),(8:UInt8),(8:UInt8),(8:UInt8),(8:UInt8),(8:UInt8),(8:UInt8),(8:UInt8),(8:UInt8),(8:UInt8),(8:UInt8),(8:UInt8),(8:UInt8),(8:UInt8),(8:UInt8),(8:UInt8),(8:UInt8),(8:UInt8),(8:UInt8),(8:UInt8),(8:UInt8),(8:UInt8),(8:UInt8),(8:UInt8),(8:UInt8),(8:UInt8),(8:UInt8),(8:UInt8),(8:UInt8),(8:UInt8),(8:UInt8),(8:UInt8),(8:UInt8),(8:UInt8),(8:UInt8),(8:UInt8),(8:UInt8)].append [(8:UInt8),(8:UInt8),(8:UInt8),(8:UInt8),(8:UInt8),(8:UInt8),(8:UInt8),(8:UInt8),(8:UInt8),(8:UInt8),(8:UInt8),(8:UInt8),(8:UInt8),(8:UInt8),(8:UInt8),(8:UInt8),(8:UInt8),(8:UInt8),(8:UInt8),(8:UInt8),(8:UInt8),(8:UInt8),(8:UInt8),(8:UInt8),(8:UInt8),(8:UInt8),(8:UInt8),(8:UInt8),(8:UInt8),(8:UInt8),(8:UInt8),(8:UInt8),(8:UInt8),(8:UInt8),(8:UInt8),(8:UInt8),(8:UInt8),(8:UInt8),(8:UInt8),(8:UInt8),(8:UInt8),(8:UInt8),(8:UInt8),(8:UInt8),(8:UInt8),(8:UInt8),(8:UInt8),(8:UInt8),(8:UInt8),(8:UInt8),(8:UInt8),(8:UInt8),(8:UInt8),(8:UInt8),(8:UInt8),(8:UInt8),(8:UInt8),(8:UInt8),(8:UInt8),(8:UInt8),(8:UInt8),(8:UInt8),(8:UInt8),(8:UInt8)])).toArray).size:Int)) then k0 (i64.wrap (i64.wrap ((32:Int)+(16:Int))+i64.wrap (↑((ByteArray.mk (([(0:UInt8),(1:UInt8),(2:UInt8),(2:UInt8),(3:UInt8),(3:UInt8),(3:UInt8),(3:UInt8),(4:UInt8),(4:UInt8),(4:UInt8),(4:UInt8),(4:UInt8),(4:UInt8),(4:UInt8),(4:UInt8),(5:UInt8),(5:UInt8),(5:UInt8),(5:UInt8),(5:UInt8),(5:UInt8),(5:UInt8),(5:UInt8),(5:UInt8),(5:UInt8),(5:UInt8),(5:UInt8),(5:UInt8),(5:UInt8),(5:UInt8),(5:UInt8),(6:UInt8),(6:UInt8),(6:UInt8),(6:UInt8),(6:UInt8),(6:UInt8),(6:UInt8),(6:UInt8),(6:UInt8),(6:UInt8),(6:UInt8),(6:UInt8),(6:UInt8),(6:UInt8),(6:UInt8),(6:UInt8),(6:UInt8),(6:UInt8),(6:UInt8),(6:UInt8),(6:UInt8),(6:UInt8),(6:UInt8),(6:UInt8),(6:UInt8),(6:UInt8),(6:UInt8),(6:UInt8),(6:UInt8),(6:UInt8),(6:UInt8),(6:UInt8)].append [(7:UInt8),(7:UInt8),(7:UInt8),(7:UInt8),(7:UInt8),(7:UInt8),(7:UInt8),(7:UInt8),(7:UInt8),(7:UInt8),(7:UInt8),(7:UInt8),(7:UInt8),(7:UInt8),(7:UInt8),(7:UInt8),(7:UInt8),(7:UInt8),(7:UInt8),(7:UInt8),(7:UInt8),(7:UInt8),(7:UInt8),(7:UInt8),(7:UInt8),(7:UInt8),(7:UInt8),(7:UInt8),(7:UInt8),(7:UInt8),(7:UInt8),(7:UInt8),(7:UInt8),(7:UInt8),(7:UInt8),(7:UInt8),(7:UInt8),(7:UInt8),(7:UInt8),(7:UInt8),(7:UInt8),(7:UInt8),(7:UInt8),(7:UInt8),(7:UInt8),(7:UInt8),(7:UInt8),(7:UInt8),(7:UInt8),(7:UInt8),(7:UInt8),(7:UInt8),(7:UInt8),(7:UInt8),(7:UInt8),(7:UInt8),(7:UInt8),(7:UInt8),(7:UInt8),(7:UInt8),(7:UInt8),(7:UInt8),(7:UInt8),(7:UInt8)]).append ([(8:UInt8),(8:UInt8),(8:UInt8),(8:UInt8),(8:UInt8),(8:UInt8),(8:UInt8),(8:UInt8),(8:UInt8),(8:UInt8),(8:UInt8),(8:UInt8),(8:UInt8),(8:UInt8),(8:UInt8),(8:UInt8),(8:UInt8),(8:UInt8),(8:UInt8),(8:UInt8),(8:UInt8),(8:UInt8),(8:UInt8),(8:UInt8),(8:UInt8),(8:UInt8),(8:UInt8),(8:UInt8),(8:UInt8),(8:UInt8),(8:UInt8),(8:UInt8),(8:UInt8),(8:UInt8),(8:UInt8),(8:UInt8),(8:UInt8),(8:UInt8),(8:UInt8),(8:UInt8),(8:UInt8),(8:UInt8),(8:UInt8),(8:UInt8),(8:UInt8),(8:UInt8),(8:UInt8),(8:UInt8),(8:UInt8),(8:UInt8),(8:UInt8),(8:UInt8),(8:UInt8),(8:UInt8),(8:UInt8),(8:UInt8),(8:UInt8),(8:UInt8),(8:UInt8),(8:UInt8),(8:UInt8),(8:UInt8),(8:UInt8),(8:UInt8)].append [(8:UInt8),(8:UInt8),(8:UInt8),(8:UInt8),(8:UInt8),(8:UInt8),(8:UInt8),(8:UInt8),(8:UInt8),(8:UInt8),(8:UInt8),(8:UInt8),(8:UInt8),(8:UInt8),(8:UInt8),(8:UInt8),(8:UInt8),(8:UInt8),(8:UInt8),(8:UInt8),(8:UInt8),(8:UInt8),(8:UInt8),(8:UInt8),(8:UInt8),(8:UInt8),(8:UInt8),(8:UInt8),(8:UInt8),(8:UInt8),(8:UInt8),(8:UInt8),(8:UInt8),(8:UInt8),(8:UInt8),(8:UInt8),(8:UInt8),(8:UInt8),(8:UInt8),(8:UInt8),(8:UInt8),(8:UInt8),(8:UInt8),(8:UInt8),(8:UInt8),(8:UInt8),(8:UInt8),(8:UInt8),(8:UInt8),(8:UInt8),(8:UInt8),(8:UInt8),(8:UInt8),(8:UInt8),(8:UInt8),(8:UInt8),(8:UInt8),(8:UInt8),(8:UInt8),(8:UInt8),(8:UInt8),(8:UInt8),(8:UInt8),(8:UInt8)])).toArray).data.toList.getD (u8.wrap (Ev.ishr IntKind.u64 (Ev.ishr IntKind.u64 a (32:Int)) (16:Int))).toNat (0:UInt8)).toNat:Int))) else none else bif decide (Ev.ishr IntKind.u64 a (32:Int)≥(256:Int)) then bif decide (0≤u8.wrap (Ev.ishr IntKind.u64 (Ev.ishr IntKind.u64 a 32) 8)∧u8.wrap (Ev.ishr IntKind.u64 (Ev.ishr IntKind.u64 a 32) 8) < (↑(ByteArray.mk (([(0:UInt8),(1:UInt8),(2:UInt8),(2:UInt8),(3:UInt8),(3:UInt8),(3:UInt8),(3:UInt8),(4:UInt8),(4:UInt8),(4:UInt8),(4:UInt8),(4:UInt8),(4:UInt8),(4:UInt8),(4:UInt8),(5:UInt8),(5:UInt8),(5:UInt8),(5:UInt8),(5:UInt8),(5:UInt8),(5:UInt8),(5:UInt8),(5:UInt8),(5:UInt8),(5:UInt8),(5:UInt8),(5:UInt8),(5:UInt8),(5:UInt8),(5:UInt8),(6:UInt8),(6:UInt8),(6:UInt8),(6:UInt8),(6:UInt8),(6:UInt8),(6:UInt8),(6:UInt8),(6:UInt8),(6:UInt8),(6:UInt8),(6:UInt8),(6:UInt8),(6:UInt8),(6:UInt8),(6:UInt8),(6:UInt8),(6:UInt8),(6:UInt8),(6:UInt8),(6:UInt8),(6:UInt8),(6:UInt8),(6:UInt8),(6:UInt8),(6:UInt8),(6:UInt8),(6:UInt8),(6:UInt8),(6:UInt8),(6:UInt8),(6:UInt8)].append [(7:UInt8),(7:UInt8),(7:UInt8),(7:UInt8),(7:UInt8),(7:UInt8),(7:UInt8),(7:UInt8),(7:UInt8),(7:UInt8),(7:UInt8),(7:UInt8),(7:UInt8),(7:UInt8),(7:UInt8),(7:UInt8),(7:UInt8),(7:UInt8),(7:UInt8),(7:UInt8),(7:UInt8),(7:UInt8),(7:UInt8),(7:UInt8),(7:UInt8),(7:UInt8),(7:UInt8),(7:UInt8),(7:UInt8),(7:UInt8),(7:UInt8),(7:UInt8),(7:UInt8),(7:UInt8),(7:UInt8),(7:UInt8),(7:UInt8),(7:UInt8),(7:UInt8),(7:UInt8),(7:UInt8),(7:UInt8),(7:UInt8),(7:UInt8),(7:UInt8),(7:UInt8),(7:UInt8),(7:UInt8),(7:UInt8),(7:UInt8),(7:UInt8),(7:UInt8),(7:UInt8),(7:UInt8),(7:UInt8),(7:UInt8),(7:UInt8),(7:UInt8),(7:UInt8),(7:UInt8),(7:UInt8),(7:UInt8),(7:UInt8),(7:UInt8)]).append ([(8:UInt8),(8:UInt8),(8:UInt8),(8:UInt8),(8:UInt8),(8:UInt8),(8:UInt8),(8:UInt8),(8:UInt8),(8:UInt8),(8:UInt8),(8:UInt8),(8:UInt8),(8:UInt8),(8:UInt8),(8:UInt8),(8:UInt8),(8:UInt8),(8:UInt8),(8:UInt8),(8:UInt8),(8:UInt8),(8:UInt8),(8:UInt8),(8:UInt8),(8:UInt8),(8:UInt8),(8:UInt8),(8:UInt8),(8:UInt8),(8:UInt8),(8:UInt8),(8:UInt8),(8:UInt8),(8:UInt8),(8:UInt8),(8:UInt8),(8:UInt8),(8:UInt8),(8:UInt8),(8:UInt8),(8:UInt8),(8:UInt8),(8:UInt8),(8:UInt8),(8:UInt8),(8:UInt8),(8:UInt8),(8:UInt8),(8:UInt8),(8:UInt8),(8:UInt8),(8:UInt8),(8:UInt8),(8:UInt8),(8:UInt8),(8:UInt8),(8:UInt8),(8:UInt8),(8:UInt8),(8:UInt8),(8:UInt8),(8:UInt8),(8:UInt8)].append [(8:UInt8),(8:UInt8),(8:UInt8),(8:UInt8),(8:UInt8),(8:UInt8),(8:UInt8),(8:UInt8),(8:UInt8),(8:UInt8),(8:UInt8),(8:UInt8),(8:UInt8),(8:UInt8),(8:UInt8),(8:UInt8),(8:UInt8),(8:UInt8),(8:UInt8),(8:UInt8),(8:UInt8),(8:UInt8),(8:UInt8),(8:UInt8),(8:UInt8),(8:UInt8),(8:UInt8),(8:UInt8),(8:UInt8),(8:UInt8),(8:UInt8),(8:UInt8),(8:UInt8),(8:UInt8),(8:UInt8),(8:UInt8),(8:UInt8),(8:UInt8),(8:UInt8),(8:UInt8),(8:UInt8),(8:UInt8),(8:UInt8),(8:UInt8),(8:UInt8),(8:UInt8),(8:UInt8),(8:UInt8),(8:UInt8),(8:UInt8),(8:UInt8),(8:UInt8),(8:UInt8),(8:UInt8),(8:UInt8),(8:UInt8),(8:UInt8),(8:UInt8),(8:UInt8),(8:UInt8),(8:UInt8),(8:UInt8),(8:UInt8),(8:UInt8)])).toArray).size:Int)) then k0 (i64.wrap (i64.wrap ((32:Int)+(8:Int))+i64.wrap (↑((ByteArray.mk (([(0:UInt8),(1:UInt8),(2:UInt8),(2:UInt8),(3:UInt8),(3:UInt8),(3:UInt8),(3:UInt8),(4:UInt8),(4:UInt8),(4:UInt8),(4:UInt8),(4:UInt8),(4:UInt8),(4:UInt8),(4:UInt8),(5:UInt8),(5:UInt8),(5:UInt8),(5:UInt8),(5:UInt8),(5:UInt8),(5:UInt8),(5:UInt8),(5:UInt8),(5:UInt8),(5:UInt8),(5:UInt8),(5:UInt8),(5:UInt8),(5:UInt8),(5:UInt8),(6:UInt8),(6:UInt8),(6:UInt8),(6:UInt8),(6:UInt8),(6:UInt8),(6:UInt8),(6:UInt8),(6:UInt8),(6:UInt8),(6:UInt8),(6:UInt8),(6:UInt8),(6:UInt8),(6:UInt8),(6:UInt8),(6:UInt8),(6:UInt8),(6:UInt8),(6:UInt8),(6:UInt8),(6:UInt8),(6:UInt8),(6:UInt8),(6:UInt8),(6:UInt8),(6:UInt8),(6:UInt8),(6:UInt8),(6:UInt8),(6:UInt8),(6:UInt8)].append [(7:UInt8),(7:UInt8),(7:UInt8),(7:UInt8),(7:UInt8),(7:UInt8),(7:UInt8),(7:UInt8),(7:UInt8),(7:UInt8),(7:UInt8),(7:UInt8),(7:UInt8),(7:UInt8),(7:UInt8),(7:UInt8),(7:UInt8),(7:UInt8),(7:UInt8),(7:UInt8),(7:UInt8),(7:UInt8),(7:UInt8),(7:UInt8),(7:UInt8),(7:UInt8),(7:UInt8),(7:UInt8),(7:UInt8),(7:UInt8),(7:UInt8),(7:UInt8),(7:UInt8),(7:UInt8),(7:UInt8),(7:UInt8),(7:UInt8),(7:UInt8),(7:UInt8),(7:UInt8),(7:UInt8),(7:UInt8),(7:UInt8),(7:UInt8),(7:UInt8),(7:UInt8),(7:UInt8),(7:UInt8),(7:UInt8),(7:UInt8),(7:UInt8),(7:UInt8),(7:UInt8),(7:UInt8),(7:UInt8),(7:UInt8),(7:UInt8),(7:UInt8),(7:UInt8),(7:UInt8),(7:UInt8),(7:UInt8),(7:UInt8),(7:UInt8)]).append ([(8:UInt8),(8:UInt8),(8:UInt8),(8:UInt8),(8:UInt8),(8:UInt8),(8:UInt8),(8:UInt8),(8:UInt8),(8:UInt8),(8:UInt8),(8:UInt8),(8:UInt8),(8:UInt8),(8:UInt8),(8:UInt8),(8:UInt8),(8:UInt8),(8:UInt8),(8:UInt8),(8:UInt8),(8:UInt8),(8:UInt8),(8:UInt8),(8:UInt8),(8:UInt8),(8:UInt8),(8:UInt8),(8:UInt8),(8:UInt8),(8:UInt8),(8:UInt8),(8:UInt8),(8:UInt8),(8:UInt8),(8:UInt8),(8:UInt8),(8:UInt8),(8:UInt8),(8:UInt8),(8:UInt8),(8:UInt8),(8:UInt8),(8:UInt8),(8:UInt8),(8:UInt8),(8:UInt8),(8:UInt8),(8:UInt8),(8:UInt8),(8:UInt8),(8:UInt8),(8:UInt8),(8:UInt8),(8:UInt8),(8:UInt8),(8:UInt8),(8:UInt8),(8:UInt8),(8:UInt8),(8:UInt8),(8:UInt8),(8:UInt8),(8:UInt8)].append [(8:UInt8),(8:UInt8),(8:UInt8),(8:UInt8),(8:UInt8),(8:UInt8),(8:UInt8),(8:UInt8),(8:UInt8),(8:UInt8),(8:UInt8),(8:UInt8),(8:UInt8),(8:UInt8),(8:UInt8),(8:UInt8),(8:UInt8),(8:UInt8),(8:UInt8),(8:UInt8),(8:UInt8),(8:UInt8),(8:UInt8),(8:UInt8),(8:UInt8),(8:UInt8),(8:UInt8),(8:UInt8),(8:UInt8),(8:UInt8),(8:UInt8),(8:UInt8),(8:UInt8),(8:UInt8),(8:UInt8),(8:UInt8),(8:UInt8),(8:UInt8),(8:UInt8),(8:UInt8),(8:UInt8),(8:UInt8),(8:UInt8),(8:UInt8),(8:UInt8),(8:UInt8),(8:UInt8),(8:UInt8),(8:UInt8),(8:UInt8),(8:UInt8),(8:UInt8),(8:UInt8),(8:UInt8),(8:UInt8),(8:UInt8),(8:UInt8),(8:UInt8),(8:UInt8),(8:UInt8),(8:UInt8),(8:UInt8),(8:UInt8),(8:UInt8)])).toArray).data.toList.getD (u8.wrap (Ev.ishr IntKind.u64 (Ev.ishr IntKind.u64 a (32:Int)) (8:Int))).toNat (0:UInt8)).toNat:Int))) else none else bif decide (0≤u8.wrap (Ev.ishr IntKind.u64 a 32)∧u8.wrap (Ev.ishr IntKind.u64 a 32) < (↑(ByteArray.mk (([(0:UInt8),(1:UInt8),(2:UInt8),(2:UInt8),(3:UInt8),(3:UInt8),(3:UInt8),(3:UInt8),(4:UInt8),(4:UInt8),(4:UInt8),(4:UInt8),(4:UInt8),(4:UInt8),(4:UInt8),(4:UInt8),(5:UInt8),(5:UInt8),(5:UInt8),(5:UInt8),(5:UInt8),(5:UInt8),(5:UInt8),(5:UInt8),(5:UInt8),(5:UInt8),(5:UInt8),(5:UInt8),(5:UInt8),(5:UInt8),(5:UInt8),(5:UInt8),(6:UInt8),(6:UInt8),(6:UInt8),(6:UInt8),(6:UInt8),(6:UInt8),(6:UInt8),(6:UInt8),(6:UInt8),(6:UInt8),(6:UInt8),(6:UInt8),(6:UInt8),(6:UInt8),(6:UInt8),(6:UInt8),(6:UInt8),(6:UInt8),(6:UInt8),(6:UInt8),(6:UInt8),(6:UInt8),(6:UInt8),(6:UInt8),(6:UInt8),(6:UInt8),(6:UInt8),(6:UInt8),(6:UInt8),(6:UInt8),(6:UInt8),(6:UInt8)].append [(7:UInt8),(7:UInt8),(7:UInt8),(7:UInt8),(7:UInt8),(7:UInt8),(7:UInt8),(7:UInt8),(7:UInt8),(7:UInt8),(7:UInt8),(7:UInt8),(7:UInt8),(7:UInt8),(7:UInt8),(7:UInt8),(7:UInt8),(7:UInt8),(7:UInt8),(7:UInt8),(7:UInt8),(7:UInt8),(7:UInt8),(7:UInt8),(7:UInt8),(7:UInt8),(7:UInt8),(7:UInt8),(7:UInt8),(7:UInt8),(7:UInt8),(7:UInt8),(7:UInt8),(7:UInt8),(7:UInt8),(7:UInt8),(7:UInt8),(7:UInt8),(7:UInt8),(7:UInt8),(7:UInt8),(7:UInt8),(7:UInt8),(7:UInt8),(7:UInt8),(7:UInt8),(7:UInt8),(7:UInt8),(7:UInt8),(7:UInt8),(7:UInt8),(7:UInt8),(7:UInt8),(7:UInt8),(7:UInt8),(7:UInt8),(7:UInt8),(7:UInt8),(7:UInt8),(7:UInt8),(7:UInt8),(7:UInt8),(7:UInt8),(7:UInt8)]).append ([(8:UInt8),(8:UInt8),(8:UInt8),(8:UInt8),(8:UInt8),(8:UInt8),(8:UInt8),(8:UInt8),(8:UInt8),(8:UInt8),(8:UInt8),(8:UInt8),(8:UInt8),(8:UInt8),(8:UInt8),(8:UInt8),(8:UInt8),(8:UInt8),(8:UInt8),(8:UInt8),(8:UInt8),(8:UInt8),(8:UInt8),(8:UInt8),(8:UInt8),(8:UInt8),(8:UInt8),(8:UInt8),(8:UInt8),(8:UInt8),(8:UInt8),(8:UInt8),(8:UInt8),(8:UInt8),(8:UInt8),(8:UInt8),(8:UInt8),(8:UInt8),(8:UInt8),(8:UInt8),(8:UInt8),(8:UInt8),(8:UInt8),(8:UInt8),(8:UInt8),(8:UInt8),(8:UInt8),(8:UInt8),(8:UInt8),(8:UInt8),(8:UInt8),(8:UInt8),(8:UInt8),(8:UInt8),(8:UInt8),(8:UInt8),(8:UInt8),(8:UInt8),(8:UInt8),(8:UInt8),(8:UInt8),(8:UInt8),(8:UInt8),(8:UInt8)].append [(8:UInt8),(8:UInt8),(8:UInt8),(8:UInt8),(8:UInt8),(8:UInt8),(8:UInt8),(8:UInt8),(8:UInt8),(8:UInt8),(8:UInt8),(8:UInt8),(8:UInt8),(8:UInt8),(8:UInt8),(8:UInt8),(8:UInt8),(8:UInt8),(8:UInt8),(8:UInt8),(8:UInt8),(8:UInt8),(8:UInt8),(8:UInt8),(8:UInt8),(8:UInt8),(8:UInt8),(8:UInt8),(8:UInt8),(8:UInt8),(8:UInt8),(8:UInt8),(8:UInt8),(8:UInt8),(8:UInt8),(8:UInt8),(8:UInt8),(8:UInt8),(8:UInt8),(8:UInt8),(8:UInt8),(8:UInt8),(8:UInt8),(8:UInt8),(8:UInt8),(8:UInt8),(8:UInt8),(8:UInt8),(8:UInt8),(8:UInt8),(8:UInt8),(8:UInt8),(8:UInt8),(8:UInt8),(8:UInt8),(8:UInt8),(8:UInt8),(8:UInt8),(8:UInt8),(8:UInt8),(8:UInt8),(8:UInt8),(8:UInt8),(8:UInt8)])).toArray).size:Int)) then k0 (i64.wrap (32+i64.wrap (↑((ByteArray.mk (([(0:UInt8),(1:UInt8),(2:UInt8),(2:UInt8),(3:UInt8),(3:UInt8),(3:UInt8),(3:UInt8),(4:UInt8),(4:UInt8),(4:UInt8),(4:UInt8),(4:UInt8),(4:UInt8),(4:UInt8),(4:UInt8),(5:UInt8),(5:UInt8),(5:UInt8),(5:UInt8),(5:UInt8),(5:UInt8),(5:UInt8),(5:UInt8),(5:UInt8),(5:UInt8),(5:UInt8),(5:UInt8),(5:UInt8),(5:UInt8),(5:UInt8),(5:UInt8),(6:UInt8),(6:UInt8),(6:UInt8),(6:UInt8),(6:UInt8),(6:UInt8),(6:UInt8),(6:UInt8),(6:UInt8),(6:UInt8),(6:UInt8),(6:UInt8),(6:UInt8),(6:UInt8),(6:UInt8),(6:UInt8),(6:UInt8),(6:UInt8),(6:UInt8),(6:UInt8),(6:UInt8),(6:UInt8),(6:UInt8),(6:UInt8),(6:UInt8),(6:UInt8),(6:UInt8),(6:UInt8),(6:UInt8),(6:UInt8),(6:UInt8),(6:UInt8)].append [(7:UInt8),(7:UInt8),(7:UInt8),(7:UInt8),(7:UInt8),(7:UInt8),(7:UInt8),(7:UInt8),(7:UInt8),(7:UInt8),(7:UInt8),(7:UInt8),(7:UInt8),(7:UInt8),(7:UInt8),(7:UInt8),(7:UInt8),(7:UInt8),(7:UInt8),(7:UInt8),(7:UInt8),(7:UInt8),(7:UInt8),(7:UInt8),(7:UInt8),(7:UInt8),(7:UInt8),(7:UInt8),(7:UInt8),(7:UInt8),(7:UInt8),(7:UInt8),(7:UInt8),(7:UInt8),(7:UInt8),(7:UInt8),(7:UInt8),(7:UInt8),(7:UInt8),(7:UInt8),(7:UInt8),(7:UInt8),(7:UInt8),(7:UInt8),(7:UInt8),(7:UInt8),(7:UInt8),(7:UInt8),(7:UInt8),(7:UInt8),(7:UInt8),(7:UInt8),(7:UInt8),(7:UInt8),(7:UInt8),(7:UInt8),(7:UInt8),(7:UInt8),(7:UInt8),(7:UInt8),(7:UInt8),(7:UInt8),(7:UInt8),(7:UInt8)]).append ([(8:UInt8),(8:UInt8),(8:UInt8),(8:UInt8),(8:UInt8),(8:UInt8),(8:UInt8),(8:UInt8),(8:UInt8),(8:UInt8),(8:UInt8),(8:UInt8),(8:UInt8),(8:UInt8),(8:UInt8),(8:UInt8),(8:UInt8),(8:UInt8),(8:UInt8),(8:UInt8),(8:UInt8),(8:UInt8),(8:UInt8),(8:UInt8),(8:UInt8),(8:UInt8),(8:UInt8),(8:UInt8),(8:UInt8),(8:UInt8),(8:UInt8),(8:UInt8),(8:UInt8),(8:UInt8),(8:UInt8),(8:UInt8),(8:UInt8),(8:UInt8),(8:UInt8),(8:UInt8),(8:UInt8),(8:UInt8),(8:UInt8),(8:UInt8),(8:UInt8),(8:UInt8),(8:UInt8),(8:UInt8),(8:UInt8),(8:UInt8),(8:UInt8),(8:UInt8),(8:UInt8),(8:UInt8),(8:UInt8),(8:UInt8),(8:UInt8),(8:UInt8),(8:UInt8),(8:UInt8),(8:UInt8),(8:UInt8),(8:UInt8),(8:UInt8)].append [(8:UInt8),(8:UInt8),(8:UInt8),(8:UInt8),(8:UInt8),(8:UInt8),(8:UInt8),(8:UInt8),(8:UInt8),(8:UInt8),(8:UInt8),(8:UInt8),(8:UInt8),(8:UInt8),(8:UInt8),(8:UInt8),(8:UInt8),(8:UInt8),(8:UInt8),(8:UInt8),(8:UInt8),(8:UInt8),(8:UInt8),(8:UInt8),(8:UInt8),(8:UInt8),(8:UInt8),(8:UInt8),(8:UInt8),(8:UInt8),(8:UInt8),(8:UInt8),(8:UInt8),(8:UInt8),(8:UInt8),(8:UInt8),(8:UInt8),(8:UInt8),(8:UInt8),(8:UInt8),(8:UInt8),(8:UInt8),(8:UInt8),(8:UInt8),(8:UInt8),(8:UInt8),(8:UInt8),(8:UInt8),(8:UInt8),(8:UInt8),(8:UInt8),(8:UInt8),(8:UInt8),(8:UInt8),(8:UInt8),(8:UInt8),(8:UInt8),(8:UInt8),(8:UInt8),(8:UInt8),(8:UInt8),(8:UInt8),(8:UInt8),(8:UInt8)])).toArray).data.toList.getD (u8.wrap (Ev.ishr IntKind.u64 a 32)).toNat (0:UInt8)).toNat:Int))) else none else bif decide (a≥65536) then bif decide (Ev.ishr IntKind.u64 a (16:Int)≥(256:Int)) then bif decide (0≤u8.wrap (Ev.ishr IntKind.u64 (Ev.ishr IntKind.u64 a 16) 8)∧u8.wrap (Ev.ishr IntKind.u64 (Ev.ishr IntKind.u64 a 16) 8) < (↑(ByteArray.mk (([(0:UInt8),(1:UInt8),(2:UInt8),(2:UInt8),(3:UInt8),(3:UInt8),(3:UInt8),(3:UInt8),(4:UInt8),(4:UInt8),(4:UInt8),(4:UInt8),(4:UInt8),(4:UInt8),(4:UInt8),(4:UInt8),(5:UInt8),(5:UInt8),(5:UInt8),(5:UInt8),(5:UInt8),(5:UInt8),(5:UInt8),(5:UInt8),(5:UInt8),(5:UInt8),(5:UInt8),(5:UInt8),(5:UInt8),(5:UInt8),(5:UInt8),(5:UInt8),(6:UInt8),(6:UInt8),(6:UInt8),(6:UInt8),(6:UInt8),(6:UInt8),(6:UInt8),(6:UInt8),(6:UInt8),(6:UInt8),(6:UInt8),(6:UInt8),(6:UInt8),(6:UInt8),(6:UInt8),(6:UInt8),(6:UInt8),(6:UInt8),(6:UInt8),(6:UInt8),(6:UInt8),(6:UInt8),(6:UInt8),(6:UInt8),(6:UInt8),(6:UInt8),(6:UInt8),(6:UInt8),(6:UInt8),(6:UInt8),(6:UInt8),(6:UInt8)].append [(7:UInt8),(7:UInt8),(7:UInt8),(7:UInt8),(7:UInt8),(7:UInt8),(7:UInt8),(7:UInt8),(7:UInt8),(7:UInt8),(7:UInt8),(7:UInt8),(7:UInt8),(7:UInt8),(7:UInt8),(7:UInt8),(7:UInt8),(7:UInt8),(7:UInt8),(7:UInt8),(7:UInt8),(7:UInt8),(7:UInt8),(7:UInt8),(7:UInt8),(7:UInt8),(7:UInt8),(7:UInt8),(7:UInt8),(7:UInt8),(7:UInt8),(7:UInt8),(7:UInt8),(7:UInt8),(7:UInt8),(7:UInt8),(7:UInt8),(7:UInt8),(7:UInt8),(7:UInt8),(7:UInt8),(7:UInt8),(7:UInt8),(7:UInt8),(7:UInt8),(7:UInt8),(7:UInt8),(7:UInt8),(7:UInt8),(7:UInt8),(7:UInt8),(7:UInt8),(7:UInt8),(7:UInt8),(7:UInt8),(7:UInt8),(7:UInt8),(7:UInt8),(7:UInt8),(7:UInt8),(7:UInt8),(7:UInt8),(7:UInt8),(7:UInt8)]).append ([(8:UInt8),(8:UInt8),(8:UInt8),(8:UInt8),(8:UInt8),(8:UInt8),(8:UInt8),(8:UInt8),(8:UInt8),(8:UInt8),(8:UInt8),(8:UInt8),(8:UInt8),(8:UInt8),(8:UInt8),(8:UInt8),(8:UInt8),(8:UInt8),(8:UInt8),(8:UInt8),(8:UInt8),(8:UInt8),(8:UInt8),(8:UInt8),(8:UInt8),(8:UInt8),(8:UInt8),(8:UInt8),(8:UInt8),(8:UInt8),(8:UInt8),(8:UInt8),(8:UInt8),(8:UInt8),(8:UInt8),(8:UInt8),(8:UInt8),(8:UInt8),(8:UInt8),(8:UInt8),(8:UInt8),(8:UInt8),(8:UInt8),(8:UInt8),(8:UInt8),(8:UInt8),(8:UInt8),(8:UInt8),(8:UInt8),(8:UInt8),(8:UInt8),(8:UInt8),(8:UInt8),(8:UInt8),(8:UInt8),(8:UInt8),(8:UInt8),(8:UInt8),(8:UInt8),(8:UInt8),(8:UInt8),(8:UInt8),(8:UInt8),(8:UInt8)].append [(8:UInt8),(8:UInt8),(8:UInt8),(8:UInt8),(8:UInt8),(8:UInt8),(8:UInt8),(8:UInt8),(8:UInt8),(8:UInt8),(8:UInt8),(8:UInt8),(8:UInt8),(8:UInt8),(8:UInt8),(8:UInt8),(8:UInt8),(8:UInt8),(8:UInt8),(8:UInt8),(8:UInt8),(8:UInt8),(8:UInt8),(8:UInt8),(8:UInt8),(8:UInt8),(8:UInt8),(8:UInt8),(8:UInt8),(8:UInt8),(8:UInt8),(8:UInt8),(8:UInt8),(8:UInt8),(8:UInt8),(8:UInt8),(8:UInt8),(8:UInt8),(8:UInt8),(8:UInt8),(8:UInt8),(8:UInt8),(8:UInt8),(8:UInt8),(8:UInt8),(8:UInt8),(8:UInt8),(8:UInt8),(8:UInt8),(8:UInt8),(8:UInt8),(8:UInt8),(8:UInt8),(8:UInt8),(8:UInt8),(8:UInt8),(8:UInt8),(8:UInt8),(8:UInt8),(8:UInt8),(8:UInt8),(8:UInt8),(8:UInt8),(8:UInt8)])).toArray).size:Int)) then k0 (i64.wrap (i64.wrap (i64.wrap ((0:Int)+(16:Int))+(8:Int))+i64.wrap (↑((ByteArray.mk (([(0:UInt8),(1:UInt8),(2:UInt8),(2:UInt8),(3:UInt8),(3:UInt8),(3:UInt8),(3:UInt8),(4:UInt8),(4:UInt8),(4:UInt8),(4:UInt8),(4:UInt8),(4:UInt8),(4:UInt8),(4:UInt8),(5:UInt8),(5:UInt8),(5:UInt8),(5:UInt8),(5:UInt8),(5:UInt8),(5:UInt8),(5:UInt8),(5:UInt8),(5:UInt8),(5:UInt8),(5:UInt8),(5:UInt8),(5:UInt8),(5:UInt8),(5:UInt8),(6:UInt8),(6:UInt8),(6:UInt8),(6:UInt8),(6:UInt8),(6:UInt8),(6:UInt8),(6:UInt8),(6:UInt8),(6:UInt8),(6:UInt8),(6:UInt8),(6:UInt8),(6:UInt8),(6:UInt8),(6:UInt8),(6:UInt8),(6:UInt8),(6:UInt8),(6:UInt8),(6:UInt8),(6:UInt8),(6:UInt8),(6:UInt8),(6:UInt8),(6:UInt8),(6:UInt8),(6:UInt8),(6:UInt8),(6:UInt8),(6:UInt8),(6:UInt8)].append [(7:UInt8),(7:UInt8),(7:UInt8),(7:UInt8),(7:UInt8),(7:UInt8),(7:UInt8),(7:UInt8),(7:UInt8),(7:UInt8),(7:UInt8),(7:UInt8),(7:UInt8),(7:UInt8),(7:UInt8),(7:UInt8),(7:UInt8),(7:UInt8),(7:UInt8),(7:UInt8),(7:UInt8),(7:UInt8),(7:UInt8),(7:UInt8),(7:UInt8),(7:UInt8),(7:UInt8),(7:UInt8),(7:UInt8),(7:UInt8),(7:UInt8),(7:UInt8),(7:UInt8),(7:UInt8),(7:UInt8),(7:UInt8),(7:UInt8),(7:UInt8),(7:UInt8),(7:UInt8),(7:UInt8),(7:UInt8),(7:UInt8),(7:UInt8),(7:UInt8),(7:UInt8),(7:UInt8),(7:UInt8),(7:UInt8),(7:UInt8),(7:UInt8),(7:UInt8),(7:UInt8),(7:UInt8),(7:UInt8),(7:UInt8),(7:UInt8),(7:UInt8),(7:UInt8),(7:UInt8),(7:UInt8),(7:UInt8),(7:UInt8),(7:UInt8)]).append ([(8:UInt8),(8:UInt8),(8:UInt8),(8:UInt8),(8:UInt8),(8:UInt8),(8:UInt8),(8:UInt8),(8:UInt8),(8:UInt8),(8:UInt8),(8:UInt8),(8:UInt8),(8:UInt8),(8:UInt8),(8:UInt8),(8:UInt8),(8:UInt8),(8:UInt8),(8:UInt8),(8:UInt8),(8:UInt8),(8:UInt8),(8:UInt8),(8:UInt8),(8:UInt8),(8:UInt8),(8:UInt8),(8:UInt8),(8:UInt8),(8:UInt8),(8:UInt8),(8:UInt8),(8:UInt8),(8:UInt8),(8:UInt8),(8:UInt8),(8:UInt8),(8:UInt8),(8:UInt8),(8:UInt8),(8:UInt8),(8:UInt8),(8:UInt8),(8:UInt8),(8:UInt8),(8:UInt8),(8:UInt8),(8:UInt8),(8:UInt8),(8:UInt8),(8:UInt8),(8:UInt8),(8:UInt8),(8:UInt8),(8:UInt8),(8:UInt8),(8:UInt8),(8:UInt8),(8:UInt8),(8:UInt8),(8:UInt8),(8:UInt8),(8:UInt8)].append [(8:UInt8),(8:UInt8),(8:UInt8),(8:UInt8),(8:UInt8),(8:UInt8),(8:UInt8),(8:UInt8),(8:UInt8),(8:UInt8),(8:UInt8),(8:UInt8),(8:UInt8),(8:UInt8),(8:UInt8),(8:UInt8),(8:UInt8),(8:UInt8),(8:UInt8),(8:UInt8),(8:UInt8),(8:UInt8),(8:UInt8),(8:UInt8),(8:UInt8),(8:UInt8),(8:UInt8),(8:UInt8),(8:UInt8),(8:UInt8),(8:UInt8),(8:UInt8),(8:UInt8),(8:UInt8),(8:UInt8),(8:UInt8),(8:UInt8),(8:UInt8),(8:UInt8),(8:UInt8),(8:UInt8),(8:UInt8),(8:UInt8),(8:UInt8),(8:UInt8),(8:UInt8),(8:UInt8),(8:UInt8),(8:UInt8),(8:UInt8),(8:UInt8),(8:UInt8),(8:UInt8),(8:UInt8),(8:UInt8),(8:UInt8),(8:UInt8),(8:UInt8),(8:UInt8),(8:UInt8),(8:UInt8),(8:UInt8),(8:UInt8),(8:UInt8)])).toArray).data.toList.getD (u8.wrap (Ev.ishr IntKind.u64 (Ev.ishr IntKind.u64 a (16:Int)) (8:Int))).toNat (0:UInt8)).toNat:Int))) else none else bif decide (0≤u8.wrap (Ev.ishr IntKind.u64 a 16)∧u8.wrap (Ev.ishr IntKind.u64 a 16) < (↑(ByteArray.mk (([(0:UInt8),(1:UInt8),(2:UInt8),(2:UInt8),(3:UInt8),(3:UInt8),(3:UInt8),(3:UInt8),(4:UInt8),(4:UInt8),(4:UInt8),(4:UInt8),(4:UInt8),(4:UInt8),(4:UInt8),(4:UInt8),(5:UInt8),(5:UInt8),(5:UInt8),(5:UInt8),(5:UInt8),(5:UInt8),(5:UInt8),(5:UInt8),(5:UInt8),(5:UInt8),(5:UInt8),(5:UInt8),(5:UInt8),(5:UInt8),(5:UInt8),(5:UInt8),(6:UInt8),(6:UInt8),(6:UInt8),(6:UInt8),(6:UInt8),(6:UInt8),(6:UInt8),(6:UInt8),(6:UInt8),(6:UInt8),(6:UInt8),(6:UInt8),(6:UInt8),(6:UInt8),(6:UInt8),(6:UInt8),(6:UInt8),(6:UInt8),(6:UInt8),(6:UInt8),(6:UInt8),(6:UInt8),(6:UInt8),(6:UInt8),(6:UInt8),(6:UInt8),(6:UInt8),(6:UInt8),(6:UInt8),(6:UInt8),(6:UInt8),(6:UInt8)].append [(7:UInt8),(7:UInt8),(7:UInt8),(7:UInt8),(7:UInt8),(7:UInt8),(7:UInt8),(7:UInt8),(7:UInt8),(7:UInt8),(7:UInt8),(7:UInt8),(7:UInt8),(7:UInt8),(7:UInt8),(7:UInt8),(7:UInt8),(7:UInt8),(7:UInt8),(7:UInt8),(7:UInt8),(7:UInt8),(7:UInt8),(7:UInt8),(7:UInt8),(7:UInt8),(7:UInt8),(7:UInt8),(7:UInt8),(7:UInt8),(7:UInt8),(7:UInt8),(7:UInt8),(7:UInt8),(7:UInt8),(7:UInt8),(7:UInt8),(7:UInt8),(7:UInt8),(7:UInt8),(7:UInt8),(7:UInt8),(7:UInt8),(7:UInt8),(7:UInt8),(7:UInt8),(7:UInt8),(7:UInt8),(7:UInt8),(7:UInt8),(7:UInt8),(7:UInt8),(7:UInt8),(7:UInt8),(7:UInt8),(7:UInt8),(7:UInt8),(7:UInt8),(7:UInt8),(7:UInt8),(7:UInt8),(7:UInt8),(7:UInt8),(7:UInt8)]).append ([(8:UInt8),(8:UInt8),(8:UInt8),(8:UInt8),(8:UInt8),(8:UInt8),(8:UInt8),(8:UInt8),(8:UInt8),(8:UInt8),(8:UInt8),(8:UInt8),(8:UInt8),(8:UInt8),(8:UInt8),(8:UInt8),(8:UInt8),(8:UInt8),(8:UInt8),(8:UInt8),(8:UInt8),(8:UInt8),(8:UInt8),(8:UInt8),(8:UInt8),(8:UInt8),(8:UInt8),(8:UInt8),(8:UInt8),(8:UInt8),(8:UInt8),(8:UInt8),(8:UInt8),(8:UInt8),(8:UInt8),(8:UInt8),(8:UInt8),(8:UInt8),(8:UInt8),(8:UInt8),(8:UInt8),(8:UInt8),(8:UInt8),(8:UInt8),(8:UInt8),(8:UInt8),(8:UInt8),(8:UInt8),(8:UInt8),(8:UInt8),(8:UInt8),(8:UInt8),(8:UInt8),(8:UInt8),(8:UInt8),(8:UInt8),(8:UInt8),(8:UInt8),(8:UInt8),(8:UInt8),(8:UInt8),(8:UInt8),(8:UInt8),(8:UInt8)].append [(8:UInt8),(8:UInt8),(8:UInt8),(8:UInt8),(8:UInt8),(8:UInt8),(8:UInt8),(8:UInt8),(8:UInt8),(8:UInt8),(8:UInt8),(8:UInt8),(8:UInt8),(8:UInt8),(8:UInt8),(8:UInt8),(8:UInt8),(8:UInt8),(8:UInt8),(8:UInt8),(8:UInt8),(8:UInt8),(8:UInt8),(8:UInt8),(8:UInt8),(8:UInt8),(8:UInt8),(8:UInt8),(8:UInt8),(8:UInt8),(8:UInt8),(8:UInt8),(8:UInt8),(8:UInt8),(8:UInt8),(8:UInt8),(8:UInt8),(8:UInt8),(8:UInt8),(8:UInt8),(8:UInt8),(8:UInt8),(8:UInt8),(8:UInt8),(8:UInt8),(8:UInt8),(8:UInt8),(8:UInt8),(8:UInt8),(8:UInt8),(8:UInt8),(8:UInt8),(8:UInt8),(8:UInt8),(8:UInt8),(8:UInt8),(8:UInt8),(8:UInt8),(8:UInt8),(8:UInt8),(8:UInt8),(8:UInt8),(8:UInt8),(8:UInt8)])).toArray).size:Int)) then k0 (i64.wrap (i64.wrap ((0:Int)+(16:Int))+i64.wrap (↑((ByteArray.mk (([(0:UInt8),(1:UInt8),(2:UInt8),(2:UInt8),(3:UInt8),(3:UInt8),(3:UInt8),(3:UInt8),(4:UInt8),(4:UInt8),(4:UInt8),(4:UInt8),(4:UInt8),(4:UInt8),(4:UInt8),(4:UInt8),(5:UInt8),(5:UInt8),(5:UInt8),(5:UInt8),(5:UInt8),(5:UInt8),(5:UInt8),(5:UInt8),(5:UInt8),(5:UInt8),(5:UInt8),(5:UInt8),(5:UInt8),(5:UInt8),(5:UInt8),(5:UInt8),(6:UInt8),(6:UInt8),(6:UInt8),(6:UInt8),(6:UInt8),(6:UInt8),(6:UInt8),(6:UInt8),(6:UInt8),(6:UInt8),(6:UInt8),(6:UInt8),(6:UInt8),(6:UInt8),(6:UInt8),(6:UInt8),(6:UInt8),(6:UInt8),(6:UInt8),(6:UInt8),(6:UInt8),(6:UInt8),(6:UInt8),(6:UInt8),(6:UInt8),(6:UInt8),(6:UInt8),(6:UInt8),(6:UInt8),(6:UInt8),(6:UInt8),(6:UInt8)].append [(7:UInt8),(7:UInt8),(7:UInt8),(7:UInt8),(7:UInt8),(7:UInt8),(7:UInt8),(7:UInt8),(7:UInt8),(7:UInt8),(7:UInt8),(7:UInt8),(7:UInt8),(7:UInt8),(7:UInt8),(7:UInt8),(7:UInt8),(7:UInt8),(7:UInt8),(7:UInt8),(7:UInt8),(7:UInt8),(7:UInt8),(7:UInt8),(7:UInt8),(7:UInt8),(7:UInt8),(7:UInt8),(7:UInt8),(7:UInt8),(7:UInt8),(7:UInt8),(7:UInt8),(7:UInt8),(7:UInt8),(7:UInt8),(7:UInt8),(7:UInt8),(7:UInt8),(7:UInt8),(7:UInt8),(7:UInt8),(7:UInt8),(7:UInt8),(7:UInt8),(7:UInt8),(7:UInt8),(7:UInt8),(7:UInt8),(7:UInt8),(7:UInt8),(7:UInt8),(7:UInt8),(7:UInt8),(7:UInt8),(7:UInt8),(7:UInt8),(7:UInt8),(7:UInt8),(7:UInt8),(7:UInt8),(7:UInt8),(7:UInt8),(7:UInt8)]).append ([(8:UInt8),(8:UInt8),(8:UInt8),(8:UInt8),(8:UInt8),(8:UInt8),(8:UInt8),(8:UInt8),(8:UInt8),(8:UInt8),(8:UInt8),(8:UInt8),(8:UInt8),(8:UInt8),(8:UInt8),(8:UInt8),(8:UInt8),(8:UInt8),(8:UInt8),(8:UInt8),(8:UInt8),(8:UInt8),(8:UInt8),(8:UInt8),(8:UInt8),(8:UInt8),(8:UInt8),(8:UInt8),(8:UInt8),(8:UInt8),(8:UInt8),(8:UInt8),(8:UInt8),(8:UInt8),(8:UInt8),(8:UInt8),(8:UInt8),(8:UInt8),(8:UInt8),(8:UInt8),(8:UInt8),(8:UInt8),(8:UInt8),(8:UInt8),(8:UInt8),(8:UInt8),(8:UInt8),(8:UInt8),(8:UInt8),(8:UInt8),(8:UInt8),(8:UInt8),(8:UInt8),(8:UInt8),(8:UInt8),(8:UInt8),(8:UInt8),(8:UInt8),(8:UInt8),(8:UInt8),(8:UInt8),(8:UInt8),(8:UInt8),(8:UInt8)].append [(8:UInt8),(8:UInt8),(8:UInt8),(8:UInt8),(8:UInt8),(8:UInt8),(8:UInt8),(8:UInt8),(8:UInt8),(8:UInt8),(8:UInt8),(8:UInt8),(8:UInt8),(8:UInt8),(8:UInt8),(8:UInt8),(8:UInt8),(8:UInt8),(8:UInt8),(8:UInt8),(8:UInt8),(8:UInt8),(8:UInt8),(8:UInt8),(8:UInt8),(8:UInt8),(8:UInt8),(8:UInt8),(8:UInt8),(8:UInt8),(8:UInt8),(8:UInt8),(8:UInt8),(8:UInt8),(8:UInt8),(8:UInt8),(8:UInt8),(8:UInt8),(8:UInt8),(8:UInt8),(8:UInt8),(8:UInt8),(8:UInt8),(8:UInt8),(8:UInt8),(8:UInt8),(8:UInt8),(8:UInt8),(8:UInt8),(8:UInt8),(8:UInt8),(8:UInt8),(8:UInt8),(8:UInt8),(8:UInt8),(8:UInt8),(8:UInt8),(8:UInt8),(8:UInt8),(8:UInt8),(8:UInt8),(8:UInt8),(8:UInt8),(8:UInt8)])).toArray).data.toList.getD (u8.wrap (Ev.ishr IntKind.u64 a (16:Int))).toNat (0:UInt8)).toNat:Int))) else none else bif decide (a≥256) then bif decide (0≤u8.wrap (Ev.ishr IntKind.u64 a 8)∧u8.wrap (Ev.ishr IntKind.u64 a 8) < (↑(ByteArray.mk (([(0:UInt8),(1:UInt8),(2:UInt8),(2:UInt8),(3:UInt8),(3:UInt8),(3:UInt8),(3:UInt8),(4:UInt8),(4:UInt8),(4:UInt8),(4:UInt8),(4:UInt8),(4:UInt8),(4:UInt8),(4:UInt8),(5:UInt8),(5:UInt8),(5:UInt8),(5:UInt8),(5:UInt8),(5:UInt8),(5:UInt8),(5:UInt8),(5:UInt8),(5:UInt8),(5:UInt8),(5:UInt8),(5:UInt8),(5:UInt8),(5:UInt8),(5:UInt8),(6:UInt8),(6:UInt8),(6:UInt8),(6:UInt8),(6:UInt8),(6:UInt8),(6:UInt8),(6:UInt8),(6:UInt8),(6:UInt8),(6:UInt8),(6:UInt8),(6:UInt8),(6:UInt8),(6:UInt8),(6:UInt8),(6:UInt8),(6:UInt8),(6:UInt8),(6:UInt8),(6:UInt8),(6:UInt8),(6:UInt8),(6:UInt8),(6:UInt8),(6:UInt8),(6:UInt8),(6:UInt8),(6:UInt8),(6:UInt8),(6:UInt8),(6:UInt8)].append [(7:UInt8),(7:UInt8),(7:UInt8),(7:UInt8),(7:UInt8),(7:UInt8),(7:UInt8),(7:UInt8),(7:UInt8),(7:UInt8),(7:UInt8),(7:UInt8),(7:UInt8),(7:UInt8),(7:UInt8),(7:UInt8),(7:UInt8),(7:UInt8),(7:UInt8),(7:UInt8),(7:UInt8),(7:UInt8),(7:UInt8),(7:UInt8),(7:UInt8),(7:UInt8),(7:UInt8),(7:UInt8),(7:UInt8),(7:UInt8),(7:UInt8),(7:UInt8),(7:UInt8),(7:UInt8),(7:UInt8),(7:UInt8),(7:UInt8),(7:UInt8),(7:UInt8),(7:UInt8),(7:UInt8),(7:UInt8),(7:UInt8),(7:UInt8),(7:UInt8),(7:UInt8),(7:UInt8),(7:UInt8),(7:UInt8),(7:UInt8),(7:UInt8),(7:UInt8),(7:UInt8),(7:UInt8),(7:UInt8),(7:UInt8),(7:UInt8),(7:UInt8),(7:UInt8),(7:UInt8),(7:UInt8),(7:UInt8),(7:UInt8),(7:UInt8)]).append ([(8:UInt8),(8:UInt8),(8:UInt8),(8:UInt8),(8:UInt8),(8:UInt8),(8:UInt8),(8:UInt8),(8:UInt8),(8:UInt8),(8:UInt8),(8:UInt8),(8:UInt8),(8:UInt8),(8:UInt8),(8:UInt8),(8:UInt8),(8:UInt8),(8:UInt8),(8:UInt8),(8:UInt8),(8:UInt8),(8:UInt8),(8:UInt8),(8:UInt8),(8:UInt8),(8:UInt8),(8:UInt8),(8:UInt8),(8:UInt8),(8:UInt8),(8:UInt8),(8:UInt8),(8:UInt8),(8:UInt8),(8:UInt8),(8:UInt8),(8:UInt8),(8:UInt8),(8:UInt8),(8:UInt8),(8:UInt8),(8:UInt8),(8:UInt8),(8:UInt8),(8:UInt8),(8:UInt8),(8:UInt8),(8:UInt8),(8:UInt8),(8:UInt8),(8:UInt8),(8:UInt8),(8:UInt8),(8:UInt8),(8:UInt8),(8:UInt8),(8:UInt8),(8:UInt8),(8:UInt8),(8:UInt8),(8:UInt8),(8:UInt8),(8:UInt8)].append [(8:UInt8),(8:UInt8),(8:UInt8),(8:UInt8),(8:UInt8),(8:UInt8),(8:UInt8),(8:UInt8),(8:UInt8),(8:UInt8),(8:UInt8),(8:UInt8),(8:UInt8),(8:UInt8),(8:UInt8),(8:UInt8),(8:UInt8),(8:UInt8),(8:UInt8),(8:UInt8),(8:UInt8),(8:UInt8),(8:UInt8),(8:UInt8),(8:UInt8),(8:UInt8),(8:UInt8),(8:UInt8),(8:UInt8),(8:UInt8),(8:UInt8),(8:UInt8),(8:UInt8),(8:UInt8),(8:UInt8),(8:UInt8),(8:UInt8),(8:UInt8),(8:UInt8),(8:UInt8),(8:UInt8),(8:UInt8),(8:UInt8),(8:UInt8),(8:UInt8),(8:UInt8),(8:UInt8),(8:UInt8),(8:UInt8),(8:UInt8),(8:UInt8),(8:UInt8),(8:UInt8),(8:UInt8),(8:UInt8),(8:UInt8),(8:UInt8),(8:UInt8),(8:UInt8),(8:UInt8),(8:UInt8),(8:UInt8),(8:UInt8),(8:UInt8)])).toArray).size:Int)) then k0 (i64.wrap (i64.wrap ((0:Int)+(8:Int))+i64.wrap (↑((ByteArray.mk (([(0:UInt8),(1:UInt8),(2:UInt8),(2:UInt8),(3:UInt8),(3:UInt8),(3:UInt8),(3:UInt8),(4:UInt8),(4:UInt8),(4:UInt8),(4:UInt8),(4:UInt8),(4:UInt8),(4:UInt8),(4:UInt8),(5:UInt8),(5:UInt8),(5:UInt8),(5:UInt8),(5:UInt8),(5:UInt8),(5:UInt8),(5:UInt8),(5:UInt8),(5:UInt8),(5:UInt8),(5:UInt8),(5:UInt8),(5:UInt8),(5:UInt8),(5:UInt8),(6:UInt8),(6:UInt8),(6:UInt8),(6:UInt8),(6:UInt8),(6:UInt8),(6:UInt8),(6:UInt8),(6:UInt8),(6:UInt8),(6:UInt8),(6:UInt8),(6:UInt8),(6:UInt8),(6:UInt8),(6:UInt8),(6:UInt8),(6:UInt8),(6:UInt8),(6:UInt8),(6:UInt8),(6:UInt8),(6:UInt8),(6:UInt8),(6:UInt8),(6:UInt8),(6:UInt8),(6:UInt8),(6:UInt8),(6:UInt8),(6:UInt8),(6:UInt8)].append [(7:UInt8),(7:UInt8),(7:UInt8),(7:UInt8),(7:UInt8),(7:UInt8),(7:UInt8),(7:UInt8),(7:UInt8),(7:UInt8),(7:UInt8),(7:UInt8),(7:UInt8),(7:UInt8),(7:UInt8),(7:UInt8),(7:UInt8),(7:UInt8),(7:UInt8),(7:UInt8),(7:UInt8),(7:UInt8),(7:UInt8),(7:UInt8),(7:UInt8),(7:UInt8),(7:UInt8),(7:UInt8),(7:UInt8),(7:UInt8),(7:UInt8),(7:UInt8),(7:UInt8),(7:UInt8),(7:UInt8),(7:UInt8),(7:UInt8),(7:UInt8),(7:UInt8),(7:UInt8),(7:UInt8),(7:UInt8),(7:UInt8),(7:UInt8),(7:UInt8),(7:UInt8),(7:UInt8),(7:UInt8),(7:UInt8),(7:UInt8),(7:UInt8),(7:UInt8),(7:UInt8),(7:UInt8),(7:UInt8),(7:UInt8),(7:UInt8),(7:UInt8),(7:UInt8),(7:UInt8),(7:UInt8),(7:UInt8),(7:UInt8),(7:UInt8)]).append ([(8:UInt8),(8:UInt8),(8:UInt8),(8:UInt8),(8:UInt8),(8:UInt8),(8:UInt8),(8:UInt8),(8:UInt8),(8:UInt8),(8:UInt8),(8:UInt8),(8:UInt8),(8:UInt8),(8:UInt8),(8:UInt8),(8:UInt8),(8:UInt8),(8:UInt8),(8:UInt8),(8:UInt8),(8:UInt8),(8:UInt8),(8:UInt8),(8:UInt8),(8:UInt8),(8:UInt8),(8:UInt8),(8:UInt8),(8:UInt8),(8:UInt8),(8:UInt8),(8:UInt8),(8:UInt8),(8:UInt8),(8:UInt8),(8:UInt8),(8:UInt8),(8:UInt8),(8:UInt8),(8:UInt8),(8:UInt8),(8:UInt8),(8:UInt8),(8:UInt8),(8:UInt8),(8:UInt8),(8:UInt8),(8:UInt8),(8:UInt8),(8:UInt8),(8:UInt8),(8:UInt8),(8:UInt8),(8:UInt8),(8:UInt8),(8:UInt8),(8:UInt8),(8:UInt8),(8:UInt8),(8:UInt8),(8:UInt8),(8:UInt8),(8:UInt8)].append [(8:UInt8),(8:UInt8),(8:UInt8),(8:UInt8),(8:UInt8),(8:UInt8),(8:UInt8),(8:UInt8),(8:UInt8),(8:UInt8),(8:UInt8),(8:UInt8),(8:UInt8),(8:UInt8),(8:UInt8),(8:UInt8),(8:UInt8),(8:UInt8),(8:UInt8),(8:UInt8),(8:UInt8),(8:UInt8),(8:UInt8),(8:UInt8),(8:UInt8),(8:UInt8),(8:UInt8),(8:UInt8),(8:UInt8),(8:UInt8),(8:UInt8),(8:UInt8),(8:UInt8),(8:UInt8),(8:UInt8),(8:UInt8),(8:UInt8),(8:UInt8),(8:UInt8),(8:UInt8),(8:UInt8),(8:UInt8),(8:UInt8),(8:UInt8),(8:UInt8),(8:UInt8),(8:UInt8),(8:UInt8),(8:UInt8),(8:UInt8),(8:UInt8),(8:UInt8),(8:UInt8),(8:UInt8),(8:UInt8),(8:UInt8),(8:UInt8),(8:UInt8),(8:UInt8),(8:UInt8),(8:UInt8),(8:UInt8),(8:UInt8),(8:UInt8)])).toArray).data.toList.getD (u8.wrap (Ev.ishr IntKind.u64 a (8:Int))).toNat (0:UInt8)).toNat:Int))) else none else bif decide (0≤u8.wrap a∧u8.wrap a < (↑(ByteArray.mk (([(0:UInt8),(1:UInt8),(2:UInt8),(2:UInt8),(3:UInt8),(3:UInt8),(3:UInt8),(3:UInt8),(4:UInt8),(4:UInt8),(4:UInt8),(4:UInt8),(4:UInt8),(4:UInt8),(4:UInt8),(4:UInt8),(5:UInt8),(5:UInt8),(5:UInt8),(5:UInt8),(5:UInt8),(5:UInt8),(5:UInt8),(5:UInt8),(5:UInt8),(5:UInt8),(5:UInt8),(5:UInt8),(5:UInt8),(5:UInt8),(5:UInt8),(5:UInt8),(6:UInt8),(6:UInt8),(6:UInt8),(6:UInt8),(6:UInt8),(6:UInt8),(6:UInt8),(6:UInt8),(6:UInt8),(6:UInt8),(6:UInt8),(6:UInt8),(6:UInt8),(6:UInt8),(6:UInt8),(6:UInt8),(6:UInt8),(6:UInt8),(6:UInt8),(6:UInt8),(6:UInt8),(6:UInt8),(6:UInt8),(6:UInt8),(6:UInt8),(6:UInt8),(6:UInt8),(6:UInt8),(6:UInt8),(6:UInt8),(6:UInt8),(6:UInt8)].append [(7:UInt8),(7:UInt8),(7:UInt8),(7:UInt8),(7:UInt8),(7:UInt8),(7:UInt8),(7:UInt8),(7:UInt8),(7:UInt8),(7:UInt8),(7:UInt8),(7:UInt8),(7:UInt8),(7:UInt8),(7:UInt8),(7:UInt8),(7:UInt8),(7:UInt8),(7:UInt8),(7:UInt8),(7:UInt8),(7:UInt8),(7:UInt8),(7:UInt8),(7:UInt8),(7:UInt8),(7:UInt8),(7:UInt8),(7:UInt8),(7:UInt8),(7:UInt8),(7:UInt8),(7:UInt8),(7:UInt8),(7:UInt8),(7:UInt8),(7:UInt8),(7:UInt8),(7:UInt8),(7:UInt8),(7:UInt8),(7:UInt8),(7:UInt8),(7:UInt8),(7:UInt8),(7:UInt8),(7:UInt8),(7:UInt8),(7:UInt8),(7:UInt8),(7:UInt8),(7:UInt8),(7:UInt8),(7:UInt8),(7:UInt8),(7:UInt8),(7:UInt8),(7:UInt8),(7:UInt8),(7:UInt8),(7:UInt8),(7:UInt8),(7:UInt8)]).append ([(8:UInt8),(8:UInt8),(8:UInt8),(8:UInt8),(8:UInt8),(8:UInt8),(8:UInt8),(8:UInt8),(8:UInt8),(8:UInt8),(8:UInt8),(8:UInt8),(8:UInt8),(8:UInt8),(8:UInt8),(8:UInt8),(8:UInt8),(8:UInt8),(8:UInt8),(8:UInt8),(8:UInt8),(8:UInt8),(8:UInt8),(8:UInt8),(8:UInt8),(8:UInt8),(8:UInt8),(8:UInt8),(8:UInt8),(8:UInt8),(8:UInt8),(8:UInt8),(8:UInt8),(8:UInt8),(8:UInt8),(8:UInt8),(8:UInt8),(8:UInt8),(8:UInt8),(8:UInt8),(8:UInt8),(8:UInt8),(8:UInt8),(8:UInt8),(8:UInt8),(8:UInt8),(8:UInt8),(8:UInt8),(8:UInt8),(8:UInt8),(8:UInt8),(8:UInt8),(8:UInt8),(8:UInt8),(8:UInt8),(8:UInt8),(8:UInt8),(8:UInt8),(8:UInt8),(8:UInt8),(8:UInt8),(8:UInt8),(8:UInt8),(8:UInt8)].append [(8:UInt8),(8:UInt8),(8:UInt8),(8:UInt8),(8:UInt8),(8:UInt8),(8:UInt8),(8:UInt8),(8:UInt8),(8:UInt8),(8:UInt8),(8:UInt8),(8:UInt8),(8:UInt8),(8:UInt8),(8:UInt8),(8:UInt8),(8:UInt8),(8:UInt8),(8:UInt8),(8:UInt8),(8:UInt8),(8:UInt8),(8:UInt8),(8:UInt8),(8:UInt8),(8:UInt8),(8:UInt8),(8:UInt8),(8:UInt8),(8:UInt8),(8:UInt8),(8:UInt8),(8:UInt8),(8:UInt8),(8:UInt8),(8:UInt8),(8:UInt8),(8:UInt8),(8:UInt8),(8:UInt8),(8:UInt8),(8:UInt8),(8:UInt8),(8:UInt8),(8:UInt8),(8:UInt8),(8:UInt8),(8:UInt8),(8:UInt8),(8:UInt8),(8:UInt8),(8:UInt8),(8:UInt8),(8:UInt8),(8:UInt8),(8:UInt8),(8:UInt8),(8:UInt8),(8:UInt8),(8:UInt8),(8:UInt8),(8:UInt8),(8:UInt8)])).toArray).size:Int)) then k0 (i64.wrap (0+i64.wrap (↑((ByteArray.mk (([(0:UInt8),(1:UInt8),(2:UInt8),(2:UInt8),(3:UInt8),(3:UInt8),(3:UInt8),(3:UInt8),(4:UInt8),(4:UInt8),(4:UInt8),(4:UInt8),(4:UInt8),(4:UInt8),(4:UInt8),(4:UInt8),(5:UInt8),(5:UInt8),(5:UInt8),(5:UInt8),(5:UInt8),(5:UInt8),(5:UInt8),(5:UInt8),(5:UInt8),(5:UInt8),(5:UInt8),(5:UInt8),(5:UInt8),(5:UInt8),(5:UInt8),(5:UInt8),(6:UInt8),(6:UInt8),(6:UInt8),(6:UInt8),(6:UInt8),(6:UInt8),(6:UInt8),(6:UInt8),(6:UInt8),(6:UInt8),(6:UInt8),(6:UInt8),(6:UInt8),(6:UInt8),(6:UInt8),(6:UInt8),(6:UInt8),(6:UInt8),(6:UInt8),(6:UInt8),(6:UInt8),(6:UInt8),(6:UInt8),(6:UInt8),(6:UInt8),(6:UInt8),(6:UInt8),(6:UInt8),(6:UInt8),(6:UInt8),(6:UInt8),(6:UInt8)].append [(7:UInt8),(7:UInt8),(7:UInt8),(7:UInt8),(7:UInt8),(7:UInt8),(7:UInt8),(7:UInt8),(7:UInt8),(7:UInt8),(7:UInt8),(7:UInt8),(7:UInt8),(7:UInt8),(7:UInt8),(7:UInt8),(7:UInt8),(7:UInt8),(7:UInt8),(7:UInt8),(7:UInt8),(7:UInt8),(7:UInt8),(7:UInt8),(7:UInt8),(7:UInt8),(7:UInt8),(7:UInt8),(7:UInt8),(7:UInt8),(7:UInt8),(7:UInt8),(7:UInt8),(7:UInt8),(7:UInt8),(7:UInt8),(7:UInt8),(7:UInt8),(7:UInt8),(7:UInt8),(7:UInt8),(7:UInt8),(7:UInt8),(7:UInt8),(7:UInt8),(7:UInt8),(7:UInt8),(7:UInt8),(7:UInt8),(7:UInt8),(7:UInt8),(7:UInt8),(7:UInt8),(7:UInt8),(7:UInt8),(7:UInt8),(7:UInt8),(7:UInt8),(7:UInt8),(7:UInt8),(7:UInt8),(7:UInt8),(7:UInt8),(7:UInt8)]).append ([(8:UInt8),(8:UInt8),(8:UInt8),(8:UInt8),(8:UInt8),(8:UInt8),(8:UInt8),(8:UInt8),(8:UInt8),(8:UInt8),(8:UInt8),(8:UInt8),(8:UInt8),(8:UInt8),(8:UInt8),(8:UInt8),(8:UInt8),(8:UInt8),(8:UInt8),(8:UInt8),(8:UInt8),(8:UInt8),(8:UInt8),(8:UInt8),(8:UInt8),(8:UInt8),(8:UInt8),(8:UInt8),(8:UInt8),(8:UInt8),(8:UInt8),(8:UInt8),(8:UInt8),(8:UInt8),(8:UInt8),(8:UInt8),(8:UInt8),(8:UInt8),(8:UInt8),(8:UInt8),(8:UInt8),(8:UInt8),(8:UInt8),(8:UInt8),(8:UInt8),(8:UInt8),(8:UInt8),(8:UInt8),(8:UInt8),(8:UInt8),(8:UInt8),(8:UInt8),(8:UInt8),(8:UInt8),(8:UInt8),(8:UInt8),(8:UInt8),(8:UInt8),(8:UInt8),(8:UInt8),(8:UInt8),(8:UInt8),(8:UInt8),(8:UInt8)].append [(8:UInt8),(8:UInt8),(8:UInt8),(8:UInt8),(8:UInt8),(8:UInt8),(8:UInt8),(8:UInt8),(8:UInt8),(8:UInt8),(8:UInt8),(8:UInt8),(8:UInt8),(8:UInt8),(8:UInt8),(8:UInt8),(8:UInt8),(8:UInt8),(8:UInt8),(8:UInt8),(8:UInt8),(8:UInt8),(8:UInt8),(8:UInt8),(8:UInt8),(8:UInt8),(8:UInt8),(8:UInt8),(8:UInt8),(8:UInt8),(8:UInt8),(8:UInt8),(8:UInt8),(8:UInt8),(8:UInt8),(8:UInt8),(8:UInt8),(8:UInt8),(8:UInt8),(8:UInt8),(8:UInt8),(8:UInt8),(8:UInt8),(8:UInt8),(8:UInt8),(8:UInt8),(8:UInt8),(8:UInt8),(8:UInt8),(8:UInt8),(8:UInt8),(8:UInt8),(8:UInt8),(8:UInt8),(8:UInt8),(8:UInt8),(8:UInt8),(8:UInt8),(8:UInt8),(8:UInt8),(8:UInt8),(8:UInt8),(8:UInt8),(8:UInt8)])).toArray).data.toList.getD (u8.wrap a).toNat (0:UInt8)).toNat:Int))) else none
abbrev YF148:Type:=Int→(Int→Option Ans)→Option Ans
theorem F148_eq (fuel:Nat) (a:Int) (k:Ev.Cont):evalFn tab (G148 fuel) J0 kp148 fuel Tryz.f148 [.c (.int .u64 a)] [] k=F_math_bits_Len64 fuel a (fun r=>match r with | b=>k (.c (i6 b),[])):=by
  kernel_rfl
theorem hG148 (fuel:Nat):GOK Tryz.prog (G148 fuel):=
  gok_nil
def spg148 (F:YF148):Ev.Spec:=fun args objs k=>match args,objs with | [.c (.int .u64 a)],[]=>F a (fun r=>match r with | b=>k (.c (i6 b),[])) | _,_=>none
theorem ok148 (fuel:Nat):FnOK Tryz.prog 148 (spg148 (F_math_bits_Len64 fuel)):=by
  intro args objs kk r h
  unfold spg148 at h
  split at h
  · skip
    exact fo0 (hG148 fuel) Tryz.func148 rfl (by kernel_rfl) _ _ kk r ((F148_eq fuel _ kk).trans h)
  · cases h
def kp107 (i:Nat):Option (List Nat):=Ev.look i []
def Gg107 (a:YF148) (f:Nat):Option Ev.Spec:=Ev.look f [(148,spg148 a)]
def G107 (fuel:Nat):Nat→Option Ev.Spec:=Gg107 (F_math_bits_Len64 fuel)
def Fg_math_bits_Len (fuel:Nat) (a:YF148) (b:Int) (k0:(Int)→OA):OA:=(a b (fun c=>k0 c))
abbrev YF107:Type:=Int→(Int→Option Ans)→Option Ans
def F_math_bits_Len (fuel:Nat):YF107:=Fg_math_bits_Len fuel (F_math_bits_Len64 fuel)
theorem F107_eqg (fuel:Nat) (a:YF148) (b:Int) (k:Ev.Cont):evalFn tab (Gg107 a) J0 kp107 fuel Tryz.f107 [.c (.int .u64 b)] [] k=Fg_math_bits_Len fuel a b (fun r=>match r with | d=>k (.c (i6 d),[])):=by
  kernel_rfl
theorem hG107 (fuel:Nat):GOK Tryz.prog (G107 fuel):=
  gc (ok148 fuel) Tryz.func148 (by kernel_rfl) rfl <|
  gok_nil
def spg107 (F:YF107):Ev.Spec:=fun args objs k=>match args,objs with | [.c (.int .u64 a)],[]=>F a (fun r=>match r with | b=>k (.c (i6 b),[])) | _,_=>none
theorem ok107 (fuel:Nat):FnOK Tryz.prog 107 (spg107 (F_math_bits_Len fuel)):=by
  intro args objs kk r h
  unfold spg107 at h
  split at h
  · skip
    exact fo0 (hG107 fuel) Tryz.func107 rfl (by kernel_rfl) _ _ kk r ((F107_eqg fuel (F_math_bits_Len64 fuel) _ kk).trans h)
  · cases h
def kp59 (i:Nat):Option (List Nat):=Ev.look i []
def Gg59 (a:YF107) (f:Nat):Option Ev.Spec:=Ev.look f [(107,spg107 a)]
def G59 (fuel:Nat):Nat→Option Ev.Spec:=Gg59 (F_math_bits_Len fuel)
def Fg_number_Width (fuel:Nat) (b:YF107) (a:Int) (k0:(Int)→OA):OA:=bif decide (a < 1) then k0 (0) else (b (u64.wrap (i64.wrap (a - 1))) (fun c=>k0 c))
abbrev YF59:Type:=Int→(Int→Option Ans)→Option Ans
def F_number_Width (fuel:Nat):YF59:=Fg_number_Width fuel (F_math_bits_Len fuel)
theorem F59_eqg (fuel:Nat) (a:YF107) (b:Int) (k:Ev.Cont):evalFn tab (Gg59 a) J0 kp59 fuel Tryz.f59 [.c (i6 b)] [] k=Fg_number_Width fuel a b (fun r=>match r with | d=>k (.c (i6 d),[])):=by
  kernel_rfl
theorem hG59 (fuel:Nat):GOK Tryz.prog (G59 fuel):=
  gc (ok107 fuel) Tryz.func107 (by kernel_rfl) rfl <|
  gok_nil
def spg59 (F:YF59):Ev.Spec:=fun args objs k=>match args,objs with | [.c (i6 a)],[]=>F a (fun r=>match r with | b=>k (.c (i6 b),[])) | _,_=>none
def spec59 (fuel:Nat):Ev.Spec:=spg59 (F_number_Width fuel)
theorem ok59 (fuel:Nat):FnOK Tryz.prog 59 (spec59 fuel):=by
  intro args objs kk r h
  unfold spec59 spg59 at h
  split at h
  · skip
    exact fo0 (hG59 fuel) Tryz.func59 rfl (by kernel_rfl) _ _ kk r ((F59_eqg fuel (F_math_bits_Len fuel) _ kk).trans h)
  · cases h
def kp117_a20 (i:Nat):Option (List Nat):=Ev.look i []
def Gg117_a20 (f:Nat):Option Ev.Spec:=Ev.look f []
def G117_a20 (fuel:Nat):Nat→Option Ev.Spec:=Gg117_a20
def F_coder_Encoder_none_a20 (fuel:Nat) (b c d:Int) (a:Bool) (e f:(List Int)) (k0:(Bool×Int×Int×Int×Bool×(List Int)×(List Int))→Option Ans):Option Ans:=k0 (!a,b,c,d,a,e,f)
abbrev YF117_a20:Type:=Int→Int→Int→Bool→LI→LI→((Bool×Int×Int×Int×Bool×LI×LI)→Option Ans)→Option Ans
theorem F117_a20_eq (fuel:Nat) (a b d:Int) (e:Bool) (f g:LI) (k:Ev.Cont):evalFn tab (G117_a20 fuel) J0 kp117_a20 fuel Tryz.f117 [.c (.ptr 0 0)] [.cells 164 (i6 a::.own 1::ctb (.int .u64 b::.int .u64 d::.own 2::.bool e::[])),.vec 3 (.int .i64) f false,.vec 5 (.int .u8) g false] k=F_coder_Encoder_none_a20 fuel a b d e f g (fun r=>match r with | (h,i,j,l,m,n,o)=>k (.c (.bool h),[.cells 164 (i6 i::.own 1::ctb (.int .u64 j::.int .u64 l::.own 2::.bool m::[])),.vec 3 (.int .i64) n false,.vec 5 (.int .u8) o false])):=by
  kernel_rfl
theorem hG117_a20 (fuel:Nat):GOK Tryz.prog (G117_a20 fuel):=
  gok_nil
def spg117_a20 (F:YF117_a20):Ev.Spec:=fun args objs k=>match args,objs with | [.c (.ptr b d)],[.cells e a,.vec f (.int .i64) g false,.vec h (.int .u8) i false]=>(match splitRun 2 ctn a with | some ([i6 j,.own l],[.int .u64 m,.int .u64 n,.own o,.bool p])=>bif qb [b,d,e,f,h,l,o] [0,0,164,3,5,1,2] then F j m n p g i (fun r=>match r with | (q,s,t,u,v,w,x)=>k (.c (.bool q),[.cells 164 (i6 s::.own 1::ctb (.int .u64 t::.int .u64 u::.own 2::.bool v::[])),.vec 3 (.int .i64) w false,.vec 5 (.int .u8) x false])) else none | _=>none) | _,_=>none
theorem ok117_a20 (fuel:Nat):FnOK Tryz.prog 117 (spg117_a20 (F_coder_Encoder_none_a20 fuel)):=by
  intro args objs kk r h
  unfold spg117_a20 at h
  split at h
  · skip
    split at h
    rotate_left 1
    · cases h
    rename_i hsp
    have esp:=splitRun_eq hsp
    subst esp
    obtain ⟨hb,h⟩:=cond_some' h
    cases qb_eq hb
    exact fo0 (hG117_a20 fuel) Tryz.func117 rfl (by kernel_rfl) _ _ kk r ((F117_a20_eq fuel _ _ _ _ _ _ kk).trans h)
  · cases h
def kp69_a20 (i:Nat):Option (List Nat):=Ev.look i [(5,[0,3,15]),(10,[0,3,37,38]),(100000,[3]),(100002,[3]),(200008,[0]),(400000,[2]),(400002,[2])]
def Gg69_a20 (a:YF117_a20) (f:Nat):Option Ev.Spec:=Ev.look f [(117,spg117_a20 a)]
def G69_a20 (fuel:Nat):Nat→Option Ev.Spec:=Gg69_a20 (F_coder_Encoder_none_a20 fuel)
abbrev V_coder_Encoder_End_a20_2:Type:=Int×Int×Int×Int×Int×Bool×LI×LI×LI
abbrev W_coder_Encoder_End_a20_2:Type:=(Int×Int×Int×Bool×LI×LI×LI→OA)
def Sg_coder_Encoder_End_a20_2 (fuel:Nat) (l:YF117_a20) (f a:Int) (g h d:Int) (i:Bool) (j k e:LI) (c:V_coder_Encoder_End_a20_2→OA) (B:W_coder_Encoder_End_a20_2):OA:=match B with | b=>bif decide (a < f) then bif decide (i64.wrap (24 - i64.wrap (8*a)) < 0) then none else bif decide ((e.length+ [u8.wrap (Ev.ishr IntKind.u64 d (i64.wrap ((24:Int) - i64.wrap ((8:Int)*a))))].length)*(1:Nat)≤(140737488355328:Nat)∧e.length+ [u8.wrap (Ev.ishr IntKind.u64 d (i64.wrap ((24:Int) - i64.wrap ((8:Int)*a))))].length≤(140737488355328:Nat)) then c (f,i64.wrap (a+(1:Int)),g,h,d,i,j,k,e++ [u8.wrap (Ev.ishr IntKind.u64 d (i64.wrap ((24:Int) - i64.wrap ((8:Int)*a))))]) else none else b (g,h,d,i,j,k,e)
def S_coder_Encoder_End_a20_2 (fuel:Nat) (v:Int×Int×Int×Int×Int×Bool×(List Int)×(List Int)×(List Int)) (c:(Int×Int×Int×Int×Int×Bool×(List Int)×(List Int)×(List Int))→Option Ans) (B:(Int×Int×Int×Bool×(List Int)×(List Int)×(List Int)→Option Ans)):Option Ans:=match v with | (a,b,d,e,f,g,h,i,j)=>Sg_coder_Encoder_End_a20_2 fuel (F_coder_Encoder_none_a20 fuel) a b d e f g h i j c B
def L_coder_Encoder_End_a20_2 (fuel:Nat) (v:V_coder_Encoder_End_a20_2) (b:W_coder_Encoder_End_a20_2):Option Ans:=iter (S_coder_Encoder_End_a20_2 fuel) fuel v b
def T69_a20_2 (v:V_coder_Encoder_End_a20_2):Ev.St:=match v with | (a,b,d,e,f,g,h,i,j)=>⟨[(0,.c (.ptr 0 0)),(3,.c (.own 3)),(37,.c (i6 a)),(38,.c (i6 b))],[(0,.cells 164 (i6 d::.own 1::ctb (.int .u64 e::.int .u64 f::.own 2::.bool g::[]))),(1,.vec 3 (.int .i64) h false),(2,.vec 5 (.int .u8) i false),(3,.vec 5 (.int .u8) j true)],4,3⟩
def E69_a20_2 (K:KT):W_coder_Encoder_End_a20_2:=(fun v=>match v with | (a,b,d,e,f,g,h)=>K .normal ⟨[(3,.c (.own 3))],[(0,.cells 164 (i6 a::.own 1::ctb (.int .u64 b::.int .u64 d::.own 2::.bool e::[]))),(1,.vec 3 (.int .i64) f false),(2,.vec 5 (.int .u8) g false),(3,.vec 5 (.int .u8) h true)],4,3⟩)
theorem S69_a20_2_okg (fuel:Nat) (a:YF117_a20) (R:Ev.St→OA) (K:KT) (b c:Int) (d e f:Int) (g:Bool) (h i j:LI):evalCode tab (Gg69_a20 a) J0 kp69_a20 fuel (bodyOf 2 Tryz.f69) (T69_a20_2 (b,c,d,e,f,g,h,i,j)) (lc kp69_a20 10 2 R K)=Sg_coder_Encoder_End_a20_2 fuel a b c d e f g h i j (fun v=>R (T69_a20_2 v)) (E69_a20_2 K):=by
  kernel_rfl
def B69_a20_2 (fuel:Nat):Ev.Blk:=fun st K=>match canonO (kp69_a20 10) st with | some s=>(match s with | ⟨[(l,.c (.ptr m n)),(o,.c (.own p)),(q,.c (i6 r)),(t,.c (i6 u))],[(v,.cells w a),(x,.vec b (.int .i64) y false),(d,.vec e (.int .u8) z false),(f,.vec g (.int .u8) A true)],h,i⟩=>(match splitRun 2 ctn a with | some ([i6 B,.own j],[.int .u64 C,.int .u64 D,.own k,.bool E])=>bif qb [l,m,n,o,p,q,t,v,w,x,b,d,e,f,g,h,i,j,k] [0,0,0,3,3,37,38,0,164,1,3,2,5,3,5,4,3,1,2] then iter (S_coder_Encoder_End_a20_2 fuel) fuel (r,u,B,C,D,E,y,z,A) (E69_a20_2 K) else none | _=>none) | _=>none) | none=>none
theorem B69_a20_2_ok (fuel:Nat) (st:Ev.St) (K:KT) (r:Ans) (h:B69_a20_2 fuel st K=some r):evalCode tab (G69_a20 fuel) J0 kp69_a20 fuel (.block 2 (.loop (bodyOf 2 Tryz.f69))) st K=some r:=by
  unfold B69_a20_2 at h
  split at h
  · rename_i s hs
    split at h
    · skip
      split at h
      rotate_left 1
      · cases h
      rename_i hsp
      have esp:=splitRun_eq hsp
      subst esp
      obtain ⟨hb,h⟩:=cond_some' h
      cases qb_eq hb
      exact blk_loop (S:=T69_a20_2) (ks:=E69_a20_2) (step:=S_coder_Encoder_End_a20_2 fuel) (v:=(_,_,_,_,_,_,_,_,_)) (by kernel_rfl) (by kernel_rfl) (fun R K v=>by obtain ⟨a,b,c,d,e,f,g,i,j⟩:=v; exact S69_a20_2_okg fuel (F_coder_Encoder_none_a20 fuel) R K a b c d e f g i j) hs h
    · cases h
  · cases h
abbrev V_coder_Encoder_End_a20_0:Type:=Int×Int×Int×Int×Bool×LI×LI×LI
abbrev W_coder_Encoder_End_a20_0:Type:=(Int×Int×Int×Bool×LI×LI×LI→OA)×(Int×Int×Int×Bool×LI×LI×LI→OA)
def Sg_coder_Encoder_End_a20_0 (fuel:Nat) (r:YF117_a20) (a f:Int) (d e:Int) (g:Bool) (h i j:LI) (c:V_coder_Encoder_End_a20_0→OA) (B:W_coder_Encoder_End_a20_0):OA:=match B with | (ret,b)=>bif decide (a < 5) then bif decide (u64.wrap (i64.wrap (32 - i64.wrap (8*a))) < 0) then none else bif decide (u64.wrap (i64.wrap (32 - i64.wrap (8*a))) < 0) then none else bif decide (Ev.ishl IntKind.u64 (Ev.ishr IntKind.u64 e (u64.wrap (i64.wrap (32 - i64.wrap (8*a))))) (u64.wrap (i64.wrap (32 - i64.wrap (8*a))))≥d) then (L_coder_Encoder_End_a20_2 fuel (a,0,f,d,e,g,h,i,j) (fun (k,l,m,n,o,p,q)=>ret (k,l,m,n,o,p,q))) else c (i64.wrap (a+1),f,d,e,g,h,i,j) else b (f,d,e,g,h,i,j)
def S_coder_Encoder_End_a20_0 (fuel:Nat) (v:Int×Int×Int×Int×Bool×(List Int)×(List Int)×(List Int)) (c:(Int×Int×Int×Int×Bool×(List Int)×(List Int)×(List Int))→Option Ans) (B:(Int×Int×Int×Bool×(List Int)×(List Int)×(List Int)→Option Ans)×(Int×Int×Int×Bool×(List Int)×(List Int)×(List Int)→Option Ans)):Option Ans:=match v with | (a,b,d,e,f,g,h,i)=>Sg_coder_Encoder_End_a20_0 fuel (F_coder_Encoder_none_a20 fuel) a b d e f g h i c B
def L_coder_Encoder_End_a20_0 (fuel:Nat) (v:V_coder_Encoder_End_a20_0) (ret:(Int×Int×Int×Bool×(List Int)×(List Int)×(List Int)→Option Ans)) (b:(Int×Int×Int×Bool×(List Int)×(List Int)×(List Int)→Option Ans)):Option Ans:=iter (S_coder_Encoder_End_a20_0 fuel) fuel v (ret,b)
def J69_a20_0 (fuel:Nat) (i:Nat):Option Ev.Blk:=Ev.look i [(100002,B69_a20_2 fuel)]
def T69_a20_0 (v:V_coder_Encoder_End_a20_0):Ev.St:=match v with | (a,b,d,e,f,g,h,i)=>⟨[(0,.c (.ptr 0 0)),(3,.c (.own 3)),(15,.c (i6 a))],[(0,.cells 164 (i6 b::.own 1::ctb (.int .u64 d::.int .u64 e::.own 2::.bool f::[]))),(1,.vec 3 (.int .i64) g false),(2,.vec 5 (.int .u8) h false),(3,.vec 5 (.int .u8) i true)],4,3⟩
def E69_a20_0 (K:KT):W_coder_Encoder_End_a20_0:=((fun v=>match v with | (a,b,d,e,f,g,h)=>K .ret ⟨[(2,.c (.own 3))],[(0,.cells 164 (i6 a::.own 1::ctb (.int .u64 b::.int .u64 d::.own 2::.bool e::[]))),(1,.vec 3 (.int .i64) f false),(2,.vec 5 (.int .u8) g false),(3,.vec 5 (.int .u8) h true)],4,3⟩),(fun v=>match v with | (a,b,d,e,f,g,h)=>K .normal ⟨[(3,.c (.own 3))],[(0,.cells 164 (i6 a::.own 1::ctb (.int .u64 b::.int .u64 d::.own 2::.bool e::[]))),(1,.vec 3 (.int .i64) f false),(2,.vec 5 (.int .u8) g false),(3,.vec 5 (.int .u8) h true)],4,3⟩))
theorem S69_a20_0_okg (fuel:Nat) (a:YF117_a20) (R:Ev.St→OA) (K:KT) (b c:Int) (d e:Int) (f:Bool) (g h i:LI):evalCode tab (Gg69_a20 a) (J69_a20_0 fuel) kp69_a20 fuel (bodyOf 0 Tryz.f69) (T69_a20_0 (b,c,d,e,f,g,h,i)) (lc kp69_a20 5 0 R K)=Sg_coder_Encoder_End_a20_0 fuel a b c d e f g h i (fun v=>R (T69_a20_0 v)) (E69_a20_0 K):=by
  kernel_rfl
def B69_a20_0 (fuel:Nat):Ev.Blk:=fun st K=>match canonO (kp69_a20 5) st with | some s=>(match s with | ⟨[(k,.c (.ptr l m)),(n,.c (.own o)),(p,.c (i6 q))],[(r,.cells t a),(u,.vec v (.int .i64) w false),(b,.vec d (.int .u8) x false),(e,.vec f (.int .u8) y true)],g,h⟩=>(match splitRun 2 ctn a with | some ([i6 z,.own i],[.int .u64 A,.int .u64 B,.own j,.bool C])=>bif qb [k,l,m,n,o,p,r,t,u,v,b,d,e,f,g,h,i,j] [0,0,0,3,3,15,0,164,1,3,2,5,3,5,4,3,1,2] then iter (S_coder_Encoder_End_a20_0 fuel) fuel (q,z,A,B,C,w,x,y) (E69_a20_0 K) else none | _=>none) | _=>none) | none=>none
theorem B69_a20_0_ok (fuel:Nat) (st:Ev.St) (K:KT) (r:Ans) (h:B69_a20_0 fuel st K=some r):evalCode tab (G69_a20 fuel) (J69_a20_0 fuel) kp69_a20 fuel (.block 0 (.loop (bodyOf 0 Tryz.f69))) st K=some r:=by
  unfold B69_a20_0 at h
  split at h
  · rename_i s hs
    split at h
    · skip
      split at h
      rotate_left 1
      · cases h
      rename_i hsp
      have esp:=splitRun_eq hsp
      subst esp
      obtain ⟨hb,h⟩:=cond_some' h
      cases qb_eq hb
      exact blk_loop (S:=T69_a20_0) (ks:=E69_a20_0) (step:=S_coder_Encoder_End_a20_0 fuel) (v:=(_,_,_,_,_,_,_,_)) (by kernel_rfl) (by kernel_rfl) (fun R K v=>by obtain ⟨a,b,c,d,e,f,g,i⟩:=v; exact S69_a20_0_okg fuel (F_coder_Encoder_none_a20 fuel) R K a b c d e f g i) hs h
    · cases h
  · cases h
def J69_a20 (fuel:Nat) (i:Nat):Option Ev.Blk:=Ev.look i [(100002,B69_a20_2 fuel),(100000,B69_a20_0 fuel)]
def Fg_coder_Encoder_End_a20 (fuel:Nat) (g:YF117_a20) (p q r:Int) (s:Bool) (t u:LI) (k0:(Int×Int×Int×Bool×LI×LI×LI)→OA):OA:=(g p q r s t u (fun (h,b,c,d,e,f,a)=>bif h then k0 (b,c,d,e,f,a,[]) else bif decide (((0:Nat)+a.length)*(1:Nat)≤(140737488355328:Nat)∧(0:Nat)+a.length≤(140737488355328:Nat)) then (L_coder_Encoder_End_a20_0 fuel ((0:Int),b,c,d,e,f,a,[]++a) (fun (ret0_0,ret0_1,ret0_2,ret0_3,ret0_4,ret0_5,ret0_6)=>k0 (ret0_0,ret0_1,ret0_2,ret0_3,ret0_4,ret0_5,ret0_6)) (fun (i,j,k,l,m,n,o)=>k0 (i,j,k,l,m,n,o))) else none))
abbrev YF69_a20:Type:=Int→Int→Int→Bool→LI→LI→((Int×Int×Int×Bool×LI×LI×LI)→Option Ans)→Option Ans
def F_coder_Encoder_End_a20 (fuel:Nat):YF69_a20:=Fg_coder_Encoder_End_a20 fuel (F_coder_Encoder_none_a20 fuel)
theorem F69_a20_eqg (fuel:Nat) (a:YF117_a20) (b d e:Int) (f:Bool) (g h:LI) (k:Ev.Cont):evalFn tab (Gg69_a20 a) (J69_a20 fuel) kp69_a20 fuel Tryz.f69 [.c (.ptr 0 0)] [.cells 164 (i6 b::.own 1::ctb (.int .u64 d::.int .u64 e::.own 2::.bool f::[])),.vec 3 (.int .i64) g false,.vec 5 (.int .u8) h false] k=Fg_coder_Encoder_End_a20 fuel a b d e f g h (fun r=>match r with | (i,j,l,m,n,o,p)=>k (.c (.own 3),[.cells 164 (i6 i::.own 1::ctb (.int .u64 j::.int .u64 l::.own 2::.bool m::[])),.vec 3 (.int .i64) n false,.vec 5 (.int .u8) o false,.vec 5 (.int .u8) p true])):=by
  kernel_rfl
theorem hG69_a20 (fuel:Nat):GOK Tryz.prog (G69_a20 fuel):=
  gc (ok117_a20 fuel) Tryz.func117 (by kernel_rfl) rfl <|
  gok_nil
theorem B69_a20_2_blk (fuel:Nat):BlkOK Tryz.prog Tryz.f69.ntmps (.block 2 (.loop (bodyOf 2 Tryz.f69))) (B69_a20_2 fuel):=bo0 (hG69_a20 fuel) (by kernel_rfl) (by kernel_rfl) (B69_a20_2_ok fuel)
theorem B69_a20_0_blk (fuel:Nat):BlkOK Tryz.prog Tryz.f69.ntmps (.block 0 (.loop (bodyOf 0 Tryz.f69))) (B69_a20_0 fuel):=
  blk_of (blk_of_code tab_ok (hG69_a20 fuel) mixed (J:=J69_a20_0 fuel) (kp:=kp69_a20) (fuel:=fuel) (by kernel_rfl) (fun q hq=>by
    rw [(by kernel_rfl:obl (J69_a20_0 fuel) (.block 0 (.loop (bodyOf 0 Tryz.f69)))= [(.block 2 (.loop (bodyOf 2 Tryz.f69)),B69_a20_2 fuel)])] at hq
    simp only [List.mem_cons,List.not_mem_nil,or_false] at hq
    subst hq
    · exact B69_a20_2_blk fuel)) (B69_a20_0_ok fuel)
def spg69_a20 (F:YF69_a20):Ev.Spec:=fun args objs k=>match args,objs with | [.c (.ptr b d)],[.cells e a,.vec f (.int .i64) g false,.vec h (.int .u8) i false]=>(match splitRun 2 ctn a with | some ([i6 j,.own l],[.int .u64 m,.int .u64 n,.own o,.bool p])=>bif qb [b,d,e,f,h,l,o] [0,0,164,3,5,1,2] then F j m n p g i (fun r=>match r with | (q,s,t,u,v,w,x)=>k (.c (.own 3),[.cells 164 (i6 q::.own 1::ctb (.int .u64 s::.int .u64 t::.own 2::.bool u::[])),.vec 3 (.int .i64) v false,.vec 5 (.int .u8) w false,.vec 5 (.int .u8) x true])) else none | _=>none) | _,_=>none
def spec69_a20 (fuel:Nat):Ev.Spec:=spg69_a20 (F_coder_Encoder_End_a20 fuel)
theorem ok69_a20 (fuel:Nat):FnOK Tryz.prog 69 (spec69_a20 fuel):=by
  intro args objs kk r h
  unfold spec69_a20 spg69_a20 at h
  split at h
  · skip
    split at h
    rotate_left 1
    · cases h
    rename_i hsp
    have esp:=splitRun_eq hsp
    subst esp
    obtain ⟨hb,h⟩:=cond_some' h
    cases qb_eq hb
    exact fo1 (hG69_a20 fuel) Tryz.func69 rfl (B69_a20_0_blk fuel) (by kernel_rfl) _ _ kk r ((F69_a20_eqg fuel (F_coder_Encoder_none_a20 fuel) _ _ _ _ _ _ kk).trans h)
  · cases h
def kp119 (i:Nat):Option (List Nat):=Ev.look i [(200001,[1])]
def Gg119 (f:Nat):Option Ev.Spec:=Ev.look f []
def G119 (fuel:Nat):Nat→Option Ev.Spec:=Gg119
def F_coder_clone (fuel:Nat) (b:Int) (a:(List Int)) (k0:(Int×(List Int))→Option Ans):Option Ans:=bif decide (((0:Nat)+a.length)*(8:Nat)≤(140737488355328:Nat)∧(0:Nat)+a.length≤(140737488355328:Nat)) then k0 (b,[]++a) else none
abbrev YF119:Type:=Int→LI→((Int×LI)→Option Ans)→Option Ans
theorem F119_eq (fuel:Nat) (a:Int) (b:LI) (k:Ev.Cont):evalFn tab (G119 fuel) J0 kp119 fuel Tryz.f119 [.agg [i6 a,.sl (.int .i64) b]] [] k=F_coder_clone fuel a b (fun r=>match r with | (c,d)=>k (.agg [i6 c,.own 0],[.vec 3 (.int .i64) d true])):=by
  kernel_rfl
theorem hG119 (fuel:Nat):GOK Tryz.prog (G119 fuel):=
  gok_nil
def spg119 (F:YF119):Ev.Spec:=fun args objs k=>match args,objs with | [.agg [i6 a,.sl (.int .i64) b]],[]=>F a b (fun r=>match r with | (c,d)=>k (.agg [i6 c,.own 0],[.vec 3 (.int .i64) d true])) | _,_=>none
theorem ok119 (fuel:Nat):FnOK Tryz.prog 119 (spg119 (F_coder_clone fuel)):=by
  intro args objs kk r h
  unfold spg119 at h
  split at h
  · skip
    exact fo0 (hG119 fuel) Tryz.func119 rfl (by kernel_rfl) _ _ kk r ((F119_eq fuel _ _ kk).trans h)
  · cases h
def kp71_a20 (i:Nat):Option (List Nat):=Ev.look i []
def Gg71_a20 (a:YF117_a20) (b:YF119) (f:Nat):Option Ev.Spec:=Ev.look f [(117,spg117_a20 a),(119,spg119 b)]
def G71_a20 (fuel:Nat):Nat→Option Ev.Spec:=Gg71_a20 (F_coder_Encoder_none_a20 fuel) (F_coder_clone fuel)
def Fg_coder_Encoder_Model_a20 (fuel:Nat) (g:YF117_a20) (h:YF119) (l m n:Int) (o:Bool) (p q:LI) (k0:(Int×Int×Int×Int×Bool×LI×LI×LI)→OA):OA:=(g l m n o p q (fun (i,a,c,d,e,b,f)=>bif i then k0 (0,a,c,d,e,b,f,[]) else (h a b (fun (j,k)=>k0 (j,a,c,d,e,b,f,k)))))
abbrev YF71_a20:Type:=Int→Int→Int→Bool→LI→LI→((Int×Int×Int×Int×Bool×LI×LI×LI)→Option Ans)→Option Ans
def F_coder_Encoder_Model_a20 (fuel:Nat):YF71_a20:=Fg_coder_Encoder_Model_a20 fuel (F_coder_Encoder_none_a20 fuel) (F_coder_clone fuel)
theorem F71_a20_eqg (fuel:Nat) (a:YF117_a20) (b:YF119) (d e f:Int) (g:Bool) (h i:LI) (k:Ev.Cont):evalFn tab (Gg71_a20 a b) J0 kp71_a20 fuel Tryz.f71 [.c (.ptr 0 0)] [.cells 164 (i6 d::.own 1::ctb (.int .u64 e::.int .u64 f::.own 2::.bool g::[])),.vec 3 (.int .i64) h false,.vec 5 (.int .u8) i false] k=Fg_coder_Encoder_Model_a20 fuel a b d e f g h i (fun r=>match r with | (j,l,m,n,o,p,q,s)=>k (.agg [i6 j,.own 3],[.cells 164 (i6 l::.own 1::ctb (.int .u64 m::.int .u64 n::.own 2::.bool o::[])),.vec 3 (.int .i64) p false,.vec 5 (.int .u8) q false,.vec 3 (.int .i64) s true])):=by
  kernel_rfl
theorem hG71_a20 (fuel:Nat):GOK Tryz.prog (G71_a20 fuel):=
  gc (ok117_a20 fuel) Tryz.func117 (by kernel_rfl) rfl <|
  gc (ok119 fuel) Tryz.func119 (by kernel_rfl) rfl <|
  gok_nil
def spg71_a20 (F:YF71_a20):Ev.Spec:=fun args objs k=>match args,objs with | [.c (.ptr b d)],[.cells e a,.vec f (.int .i64) g false,.vec h (.int .u8) i false]=>(match splitRun 2 ctn a with | some ([i6 j,.own l],[.int .u64 m,.int .u64 n,.own o,.bool p])=>bif qb [b,d,e,f,h,l,o] [0,0,164,3,5,1,2] then F j m n p g i (fun r=>match r with | (q,s,t,u,v,w,x,y)=>k (.agg [i6 q,.own 3],[.cells 164 (i6 s::.own 1::ctb (.int .u64 t::.int .u64 u::.own 2::.bool v::[])),.vec 3 (.int .i64) w false,.vec 5 (.int .u8) x false,.vec 3 (.int .i64) y true])) else none | _=>none) | _,_=>none
def spec71_a20 (fuel:Nat):Ev.Spec:=spg71_a20 (F_coder_Encoder_Model_a20 fuel)
theorem ok71_a20 (fuel:Nat):FnOK Tryz.prog 71 (spec71_a20 fuel):=by
  intro args objs kk r h
  unfold spec71_a20 spg71_a20 at h
  split at h
  · skip
    split at h
    rotate_left 1
    · cases h
    rename_i hsp
    have esp:=splitRun_eq hsp
    subst esp
    obtain ⟨hb,h⟩:=cond_some' h
    cases qb_eq hb
    exact fo0 (hG71_a20 fuel) Tryz.func71 rfl (by kernel_rfl) _ _ kk r ((F71_a20_eqg fuel (F_coder_Encoder_none_a20 fuel) (F_coder_clone fuel) _ _ _ _ _ _ kk).trans h)
  · cases h
def kp124_40a (i:Nat):Option (List Nat):=Ev.look i []
def Gg124_40a (f:Nat):Option Ev.Spec:=Ev.look f []
def G124_40a (fuel:Nat):Nat→Option Ev.Spec:=Gg124_40a
def F_coder_Decoder_none_40a (fuel:Nat) (b c:Int) (d e:Int) (f g:Int) (h a:Bool) (i j:(List Int)) (k0:(Bool×Int×Int×Int×Int×Int×Int×Bool×Bool×(List Int)×(List Int))→Option Ans):Option Ans:=k0 (!a,b,c,d,e,f,g,h,a,i,j)
abbrev YF124_40a:Type:=Int→Int→Int→Int→Int→Int→Bool→Bool→LI→LI→((Bool×Int×Int×Int×Int×Int×Int×Bool×Bool×LI×LI)→Option Ans)→Option Ans
theorem F124_40a_eq (fuel:Nat) (a b:Int) (d e:Int) (f g:Int) (h i:Bool) (j l:LI) (k:Ev.Cont):evalFn tab (G124_40a fuel) J0 kp124_40a fuel Tryz.f124 [.c (.ptr 0 0)] [.cells 168 (i6 a::.own 1::ctb (.int .u64 b::.int .u64 d::.own 2::i6 e::.int .u64 f::i6 g::.bool h::.bool i::[])),.vec 3 (.int .i64) j false,.vec 5 (.int .u8) l false] k=F_coder_Decoder_none_40a fuel a b d e f g h i j l (fun r=>match r with | (n,o,p,q,s,t,u,v,w,x,m)=>k (.c (.bool n),[.cells 168 (i6 o::.own 1::ctb (.int .u64 p::.int .u64 q::.own 2::i6 s::.int .u64 t::i6 u::.bool v::.bool w::[])),.vec 3 (.int .i64) x false,.vec 5 (.int .u8) m false])):=by
  kernel_rfl
theorem hG124_40a (fuel:Nat):GOK Tryz.prog (G124_40a fuel):=
  gok_nil
def spg124_40a (F:YF124_40a):Ev.Spec:=fun args objs k=>match args,objs with | [.c (.ptr d e)],[.cells f a,.vec g (.int .i64) h false,.vec i (.int .u8) j false]=>(match splitRun 2 ctn a with | some ([i6 l,.own m],[.int .u64 n,.int .u64 o,.own p,i6 q,.int .u64 s,i6 t,.bool u,.bool v])=>bif qb [d,e,f,g,i,m,p] [0,0,168,3,5,1,2] then F l n o q s t u v h j (fun r=>match r with | (w,x,y,z,A,B,C,D,E,G,b)=>k (.c (.bool w),[.cells 168 (i6 x::.own 1::ctb (.int .u64 y::.int .u64 z::.own 2::i6 A::.int .u64 B::i6 C::.bool D::.bool E::[])),.vec 3 (.int .i64) G false,.vec 5 (.int .u8) b false])) else none | _=>none) | _,_=>none
theorem ok124_40a (fuel:Nat):FnOK Tryz.prog 124 (spg124_40a (F_coder_Decoder_none_40a fuel)):=by
  intro args objs kk r h
  unfold spg124_40a at h
  split at h
  · skip
    split at h
    rotate_left 1
    · cases h
    rename_i hsp
    have esp:=splitRun_eq hsp
    subst esp
    obtain ⟨hb,h⟩:=cond_some' h
    cases qb_eq hb
    exact fo0 (hG124_40a fuel) Tryz.func124 rfl (by kernel_rfl) _ _ kk r ((F124_40a_eq fuel _ _ _ _ _ _ _ _ _ _ kk).trans h)
  · cases h
def kp76_40a (i:Nat):Option (List Nat):=Ev.look i []
def Gg76_40a (b:YF119) (a:YF124_40a) (f:Nat):Option Ev.Spec:=Ev.look f [(119,spg119 b),(124,spg124_40a a)]
def G76_40a (fuel:Nat):Nat→Option Ev.Spec:=Gg76_40a (F_coder_clone fuel) (F_coder_Decoder_none_40a fuel)
def Fg_coder_Decoder_Model_40a (fuel:Nat) (l:YF119) (k:YF124_40a) (p q:Int) (r s:Int) (t u:Int) (v w:Bool) (x y:LI) (k0:(Int×Int×Int×Int×Int×Int×Int×Bool×Bool×LI×LI×LI)→OA):OA:=(k p q r s t u v w x y (fun (m,a,d,e,f,g,h,i,j,b,c)=>bif m then k0 (0,a,d,e,f,g,h,i,j,b,c,[]) else (l a b (fun (n,o)=>k0 (n,a,d,e,f,g,h,i,j,b,c,o)))))
abbrev YF76_40a:Type:=Int→Int→Int→Int→Int→Int→Bool→Bool→LI→LI→((Int×Int×Int×Int×Int×Int×Int×Bool×Bool×LI×LI×LI)→Option Ans)→Option Ans
def F_coder_Decoder_Model_40a (fuel:Nat):YF76_40a:=Fg_coder_Decoder_Model_40a fuel (F_coder_clone fuel) (F_coder_Decoder_none_40a fuel)
theorem F76_40a_eqg (fuel:Nat) (b:YF119) (a:YF124_40a) (d e:Int) (f g:Int) (h i:Int) (j l:Bool) (m n:LI) (k:Ev.Cont):evalFn tab (Gg76_40a b a) J0 kp76_40a fuel Tryz.f76 [.c (.ptr 0 0)] [.cells 168 (i6 d::.own 1::ctb (.int .u64 e::.int .u64 f::.own 2::i6 g::.int .u64 h::i6 i::.bool j::.bool l::[])),.vec 3 (.int .i64) m false,.vec 5 (.int .u8) n false] k=Fg_coder_Decoder_Model_40a fuel b a d e f g h i j l m n (fun r=>match r with | (q,s,t,u,v,w,x,y,z,A,o,p)=>k (.agg [i6 q,.own 3],[.cells 168 (i6 s::.own 1::ctb (.int .u64 t::.int .u64 u::.own 2::i6 v::.int .u64 w::i6 x::.bool y::.bool z::[])),.vec 3 (.int .i64) A false,.vec 5 (.int .u8) o false,.vec 3 (.int .i64) p true])):=by
  kernel_rfl
theorem hG76_40a (fuel:Nat):GOK Tryz.prog (G76_40a fuel):=
  gc (ok119 fuel) Tryz.func119 (by kernel_rfl) rfl <|
  gc (ok124_40a fuel) Tryz.func124 (by kernel_rfl) rfl <|
  gok_nil
def spg76_40a (F:YF76_40a):Ev.Spec:=fun args objs k=>match args,objs with | [.c (.ptr e f)],[.cells g a,.vec h (.int .i64) i false,.vec j (.int .u8) l false]=>(match splitRun 2 ctn a with | some ([i6 m,.own n],[.int .u64 o,.int .u64 p,.own q,i6 s,.int .u64 t,i6 u,.bool v,.bool w])=>bif qb [e,f,g,h,j,n,q] [0,0,168,3,5,1,2] then F m o p s t u v w i l (fun r=>match r with | (x,y,z,A,B,C,D,E,G,H,b,d)=>k (.agg [i6 x,.own 3],[.cells 168 (i6 y::.own 1::ctb (.int .u64 z::.int .u64 A::.own 2::i6 B::.int .u64 C::i6 D::.bool E::.bool G::[])),.vec 3 (.int .i64) H false,.vec 5 (.int .u8) b false,.vec 3 (.int .i64) d true])) else none | _=>none) | _,_=>none
def spec76_40a (fuel:Nat):Ev.Spec:=spg76_40a (F_coder_Decoder_Model_40a fuel)
theorem ok76_40a (fuel:Nat):FnOK Tryz.prog 76 (spec76_40a fuel):=by
  intro args objs kk r h
  unfold spec76_40a spg76_40a at h
  split at h
  · skip
    split at h
    rotate_left 1
    · cases h
    rename_i hsp
    have esp:=splitRun_eq hsp
    subst esp
    obtain ⟨hb,h⟩:=cond_some' h
    cases qb_eq hb
    exact fo0 (hG76_40a fuel) Tryz.func76 rfl (by kernel_rfl) _ _ kk r ((F76_40a_eqg fuel (F_coder_clone fuel) (F_coder_Decoder_none_40a fuel) _ _ _ _ _ _ _ _ _ _ kk).trans h)
  · cases h
def kp84 (i:Nat):Option (List Nat):=Ev.look i []
def Gg84 (f:Nat):Option Ev.Spec:=Ev.look f []
def G84 (fuel:Nat):Nat→Option Ev.Spec:=Gg84
def F_coder_New (fuel:Nat) (b a:Int) (k0:(Int×Int×(List Int))→Option Ans):Option Ans:=bif b != 0 then bif b != 1 then k0 (0,2,[]) else bif decide (a < 0) then k0 (0,2,[]) else bif decide (a > 8192) then k0 (0,2,[]) else bif decide (0≤a∧a=a∧(↑(8:Nat):Int)*a≤281474976710656∧a≤281474976710656) then k0 (b,0,List.replicate a.toNat (0:Int)) else none else bif decide (a < 0) then k0 (0,2,[]) else bif decide (a > 8192) then k0 (0,2,[]) else bif decide (0≤a∧a=a∧(↑(8:Nat):Int)*a≤281474976710656∧a≤281474976710656) then k0 (b,0,List.replicate a.toNat (0:Int)) else none
abbrev YF84:Type:=Int→Int→((Int×Int×LI)→Option Ans)→Option Ans
theorem F84_eq (fuel:Nat) (a b:Int) (k:Ev.Cont):evalFn tab (G84 fuel) J0 kp84 fuel Tryz.f84 [.c (i6 a),.c (i6 b)] [] k=F_coder_New fuel a b (fun r=>match r with | (d,e,f)=>k (.tup [(true,[i6 d,.own 0]),(false,[i6 e])],[.vec 3 (.int .i64) f true])):=by
  kernel_rfl
theorem hG84 (fuel:Nat):GOK Tryz.prog (G84 fuel):=
  gok_nil
def spg84 (F:YF84):Ev.Spec:=fun args objs k=>match args,objs with | [.c (i6 a),.c (i6 b)],[]=>F a b (fun r=>match r with | (d,e,f)=>k (.tup [(true,[i6 d,.own 0]),(false,[i6 e])],[.vec 3 (.int .i64) f true])) | _,_=>none
def spec84 (fuel:Nat):Ev.Spec:=spg84 (F_coder_New fuel)
theorem ok84 (fuel:Nat):FnOK Tryz.prog 84 (spec84 fuel):=by
  intro args objs kk r h
  unfold spec84 spg84 at h
  split at h
  · skip
    exact fo0 (hG84 fuel) Tryz.func84 rfl (by kernel_rfl) _ _ kk r ((F84_eq fuel _ _ kk).trans h)
  · cases h
def kp164_a20 (i:Nat):Option (List Nat):=Ev.look i []
def Gg164_a20 (f:Nat):Option Ev.Spec:=Ev.look f []
def G164_a20 (fuel:Nat):Nat→Option Ev.Spec:=Gg164_a20
def F_coder_interval_lose_a20 (fuel:Nat) (b a c:Int) (d:Bool) (e f:(List Int)) (k0:(Int×Int×Int×Int×Bool×(List Int)×(List Int))→Option Ans):Option Ans:=k0 (u8.wrap (Ev.ishr IntKind.u64 a 24),b,Ev.iand IntKind.u64 (Ev.ishl IntKind.u64 a 8) 4294967295,Ev.ior IntKind.u64 (Ev.iand IntKind.u64 (Ev.ishl IntKind.u64 c 8) 4294967295) 255,d,e,f)
abbrev YF164_a20:Type:=Int→Int→Int→Bool→LI→LI→((Int×Int×Int×Int×Bool×LI×LI)→Option Ans)→Option Ans
theorem F164_a20_eq (fuel:Nat) (a b d:Int) (e:Bool) (f g:LI) (k:Ev.Cont):evalFn tab (G164_a20 fuel) J0 kp164_a20 fuel Tryz.f164 [.c (.ptr 0 0)] [.cells 164 (i6 a::.own 1::ctb (.int .u64 b::.int .u64 d::.own 2::.bool e::[])),.vec 3 (.int .i64) f false,.vec 5 (.int .u8) g false] k=F_coder_interval_lose_a20 fuel a b d e f g (fun r=>match r with | (h,i,j,l,m,n,o)=>k (.c (.int .u8 h),[.cells 164 (i6 i::.own 1::ctb (.int .u64 j::.int .u64 l::.own 2::.bool m::[])),.vec 3 (.int .i64) n false,.vec 5 (.int .u8) o false])):=by
  kernel_rfl
theorem hG164_a20 (fuel:Nat):GOK Tryz.prog (G164_a20 fuel):=
  gok_nil
def spg164_a20 (F:YF164_a20):Ev.Spec:=fun args objs k=>match args,objs with | [.c (.ptr b d)],[.cells e a,.vec f (.int .i64) g false,.vec h (.int .u8) i false]=>(match splitRun 2 ctn a with | some ([i6 j,.own l],[.int .u64 m,.int .u64 n,.own o,.bool p])=>bif qb [b,d,e,f,h,l,o] [0,0,164,3,5,1,2] then F j m n p g i (fun r=>match r with | (q,s,t,u,v,w,x)=>k (.c (.int .u8 q),[.cells 164 (i6 s::.own 1::ctb (.int .u64 t::.int .u64 u::.own 2::.bool v::[])),.vec 3 (.int .i64) w false,.vec 5 (.int .u8) x false])) else none | _=>none) | _,_=>none
theorem ok164_a20 (fuel:Nat):FnOK Tryz.prog 164 (spg164_a20 (F_coder_interval_lose_a20 fuel)):=by
  intro args objs kk r h
  unfold spg164_a20 at h
  split at h
  · skip
    split at h
    rotate_left 1
    · cases h
    rename_i hsp
    have esp:=splitRun_eq hsp
    subst esp
    obtain ⟨hb,h⟩:=cond_some' h
    cases qb_eq hb
    exact fo0 (hG164_a20 fuel) Tryz.func164 rfl (by kernel_rfl) _ _ kk r ((F164_a20_eq fuel _ _ _ _ _ _ kk).trans h)
  · cases h
def kp189_bb9 (i:Nat):Option (List Nat):=Ev.look i []
def Gg189_bb9 (f:Nat):Option Ev.Spec:=Ev.look f []
def G189_bb9 (fuel:Nat):Nat→Option Ev.Spec:=Gg189_bb9
def F_coder_table_chance_bb9 (fuel:Nat) (b a:Int) (k0:(Int)→Option Ans):Option Ans:=bif b==1 then bif decide (i64.wrap (i64.wrap (i64.wrap (2*i64.wrap (a.tdiv 256))+i64.wrap (2*a.tmod 256))+2)=0) then none else k0 (bif decide (4095 < bif decide (1 > i64.wrap ((i64.wrap (i64.wrap (i64.wrap (2*a.tmod 256)+1)*4096)).tdiv (i64.wrap (i64.wrap (i64.wrap (2*i64.wrap (a.tdiv 256))+i64.wrap (2*a.tmod 256))+2)))) then 1 else i64.wrap ((i64.wrap (i64.wrap (i64.wrap (2*a.tmod 256)+1)*4096)).tdiv (i64.wrap (i64.wrap (i64.wrap (2*i64.wrap (a.tdiv 256))+i64.wrap (2*a.tmod 256))+2)))) then 4095 else bif decide (1 > i64.wrap ((i64.wrap (i64.wrap (i64.wrap (2*a.tmod 256)+1)*4096)).tdiv (i64.wrap (i64.wrap (i64.wrap (2*i64.wrap (a.tdiv 256))+i64.wrap (2*a.tmod 256))+2)))) then 1 else i64.wrap ((i64.wrap (i64.wrap (i64.wrap (2*a.tmod 256)+1)*4096)).tdiv (i64.wrap (i64.wrap (i64.wrap (2*i64.wrap (a.tdiv 256))+i64.wrap (2*a.tmod 256))+2)))) else bif decide (a≥32) then bif decide (0≤i64.wrap (a - 32)∧i64.wrap (a - 32) < (↑(32:Nat):Int)) then bif decide (i64.wrap (a - 32)=(↑(0:Nat):Int)) then k0 (i64.wrap ((4096:Int) - (2048:Int))) else bif decide (i64.wrap (a - 32)=(↑(1:Nat):Int)) then k0 (i64.wrap ((4096:Int) - (1792:Int))) else bif decide (i64.wrap (a - 32)=(↑(2:Nat):Int)) then k0 (i64.wrap ((4096:Int) - (1568:Int))) else bif decide (i64.wrap (a - 32)=(↑(3:Nat):Int)) then k0 (i64.wrap ((4096:Int) - (1372:Int))) else bif decide (i64.wrap (a - 32)=(↑(4:Nat):Int)) then k0 (i64.wrap ((4096:Int) - (1201:Int))) else bif decide (i64.wrap (a - 32)=(↑(5:Nat):Int)) then k0 (i64.wrap ((4096:Int) - (1051:Int))) else bif decide (i64.wrap (a - 32)=(↑(6:Nat):Int)) then k0 (i64.wrap ((4096:Int) - (920:Int))) else bif decide (i64.wrap (a - 32)=(↑(7:Nat):Int)) then k0 (i64.wrap ((4096:Int) - (805:Int))) else bif decide (i64.wrap (a - 32)=(↑(8:Nat):Int)) then k0 (i64.wrap ((4096:Int) - (705:Int))) else bif decide (i64.wrap (a - 32)=(↑(9:Nat):Int)) then k0 (i64.wrap ((4096:Int) - (617:Int))) else bif decide (i64.wrap (a - 32)=(↑(10:Nat):Int)) then k0 (i64.wrap ((4096:Int) - (540:Int))) else bif decide (i64.wrap (a - 32)=(↑(11:Nat):Int)) then k0 (i64.wrap ((4096:Int) - (473:Int))) else bif decide (i64.wrap (a - 32)=(↑(12:Nat):Int)) then k0 (i64.wrap ((4096:Int) - (414:Int))) else bif decide (i64.wrap (a - 32)=(↑(13:Nat):Int)) then k0 (i64.wrap ((4096:Int) - (363:Int))) else bif decide (i64.wrap (a - 32)=(↑(14:Nat):Int)) then k0 (i64.wrap ((4096:Int) - (318:Int))) else bif decide (i64.wrap (a - 32)=(↑(15:Nat):Int)) then k0 (i64.wrap ((4096:Int) - (279:Int))) else bif decide (i64.wrap (a - 32)=(↑(16:Nat):Int)) then k0 (i64.wrap ((4096:Int) - (245:Int))) else bif decide (i64.wrap (a - 32)=(↑(17:Nat):Int)) then k0 (i64.wrap ((4096:Int) - (215:Int))) else bif decide (i64.wrap (a - 32)=(↑(18:Nat):Int)) then k0 (i64.wrap ((4096:Int) - (189:Int))) else bif decide (i64.wrap (a - 32)=(↑(19:Nat):Int)) then k0 (i64.wrap ((4096:Int) - (166:Int))) else bif decide (i64.wrap (a - 32)=(↑(20:Nat):Int)) then k0 (i64.wrap ((4096:Int) - (146:Int))) else bif decide (i64.wrap (a - 32)=(↑(21:Nat):Int)) then k0 (i64.wrap ((4096:Int) - (128:Int))) else bif decide (i64.wrap (a - 32)=(↑(22:Nat):Int)) then k0 (i64.wrap ((4096:Int) - (112:Int))) else bif decide (i64.wrap (a - 32)=(↑(23:Nat):Int)) then k0 (i64.wrap ((4096:Int) - (98:Int))) else bif decide (i64.wrap (a - 32)=(↑(24:Nat):Int)) then k0 (i64.wrap ((4096:Int) - (86:Int))) else bif decide (i64.wrap (a - 32)=(↑(25:Nat):Int)) then k0 (i64.wrap ((4096:Int) - (76:Int))) else bif decide (i64.wrap (a - 32)=(↑(26:Nat):Int)) then k0 (i64.wrap ((4096:Int) - (67:Int))) else bif decide (i64.wrap (a - 32)=(↑(27:Nat):Int)) then k0 (i64.wrap ((4096:Int) - (59:Int))) else bif decide (i64.wrap (a - 32)=(↑(28:Nat):Int)) then k0 (i64.wrap ((4096:Int) - (52:Int))) else bif decide (i64.wrap (a - 32)=(↑(29:Nat):Int)) then k0 (i64.wrap ((4096:Int) - (46:Int))) else bif decide (i64.wrap (a - 32)=(↑(30:Nat):Int)) then k0 (i64.wrap ((4096:Int) - (41:Int))) else bif decide (i64.wrap (a - 32)=(↑(31:Nat):Int)) then k0 (i64.wrap ((4096:Int) - (36:Int))) else none else none else bif decide (0≤a∧a < (↑(32:Nat):Int)) then bif decide (a=(↑(0:Nat):Int)) then k0 (2048) else bif decide (a=(↑(1:Nat):Int)) then k0 (1792) else bif decide (a=(↑(2:Nat):Int)) then k0 (1568) else bif decide (a=(↑(3:Nat):Int)) then k0 (1372) else bif decide (a=(↑(4:Nat):Int)) then k0 (1201) else bif decide (a=(↑(5:Nat):Int)) then k0 (1051) else bif decide (a=(↑(6:Nat):Int)) then k0 (920) else bif decide (a=(↑(7:Nat):Int)) then k0 (805) else bif decide (a=(↑(8:Nat):Int)) then k0 (705) else bif decide (a=(↑(9:Nat):Int)) then k0 (617) else bif decide (a=(↑(10:Nat):Int)) then k0 (540) else bif decide (a=(↑(11:Nat):Int)) then k0 (473) else bif decide (a=(↑(12:Nat):Int)) then k0 (414) else bif decide (a=(↑(13:Nat):Int)) then k0 (363) else bif decide (a=(↑(14:Nat):Int)) then k0 (318) else bif decide (a=(↑(15:Nat):Int)) then k0 (279) else bif decide (a=(↑(16:Nat):Int)) then k0 (245) else bif decide (a=(↑(17:Nat):Int)) then k0 (215) else bif decide (a=(↑(18:Nat):Int)) then k0 (189) else bif decide (a=(↑(19:Nat):Int)) then k0 (166) else bif decide (a=(↑(20:Nat):Int)) then k0 (146) else bif decide (a=(↑(21:Nat):Int)) then k0 (128) else bif decide (a=(↑(22:Nat):Int)) then k0 (112) else bif decide (a=(↑(23:Nat):Int)) then k0 (98) else bif decide (a=(↑(24:Nat):Int)) then k0 (86) else bif decide (a=(↑(25:Nat):Int)) then k0 (76) else bif decide (a=(↑(26:Nat):Int)) then k0 (67) else bif decide (a=(↑(27:Nat):Int)) then k0 (59) else bif decide (a=(↑(28:Nat):Int)) then k0 (52) else bif decide (a=(↑(29:Nat):Int)) then k0 (46) else bif decide (a=(↑(30:Nat):Int)) then k0 (41) else bif decide (a=(↑(31:Nat):Int)) then k0 (36) else none else none
abbrev YF189_bb9:Type:=Int→Int→(Int→Option Ans)→Option Ans
theorem F189_bb9_eq (fuel:Nat) (a b:Int) (k:Ev.Cont):evalFn tab (G189_bb9 fuel) J0 kp189_bb9 fuel Tryz.f189 [.agg (ctb []),.c (i6 a),.c (i6 b)] [] k=F_coder_table_chance_bb9 fuel a b (fun r=>match r with | d=>k (.c (i6 d),[])):=by
  kernel_rfl
theorem hG189_bb9 (fuel:Nat):GOK Tryz.prog (G189_bb9 fuel):=
  gok_nil
def spg189_bb9 (F:YF189_bb9):Ev.Spec:=fun args objs k=>match args,objs with | [.agg a,.c (i6 b),.c (i6 d)],[]=>(match splitRun 0 ctn a with | some ([],[])=>bif true then F b d (fun r=>match r with | e=>k (.c (i6 e),[])) else none | _=>none) | _,_=>none
theorem ok189_bb9 (fuel:Nat):FnOK Tryz.prog 189 (spg189_bb9 (F_coder_table_chance_bb9 fuel)):=by
  intro args objs kk r h
  unfold spg189_bb9 at h
  split at h
  · skip
    split at h
    rotate_left 1
    · cases h
    rename_i hsp
    have esp:=splitRun_eq hsp
    subst esp
    exact fo0 (hG189_bb9 fuel) Tryz.func189 rfl (by kernel_rfl) _ _ kk r ((F189_bb9_eq fuel _ _ kk).trans h)
  · cases h
def kp162_402 (i:Nat):Option (List Nat):=Ev.look i [(200001,[0])]
def Gg162_402 (a:YF189_bb9) (f:Nat):Option Ev.Spec:=Ev.look f [(189,spg189_bb9 a)]
def G162_402 (fuel:Nat):Nat→Option Ev.Spec:=Gg162_402 (F_coder_table_chance_bb9 fuel)
def Fg_coder_interval_mid_402 (fuel:Nat) (g:YF189_bb9) (b e:Int) (a c:Int) (h:Bool) (d i:LI) (k0:(Int×Int×Int×Int×Bool×LI×LI)→OA):OA:=bif decide (0≤b∧b < (↑d.length:Int)) then (g e (d.getD b.toNat 0) (fun f=>k0 (u64.wrap (u64.wrap (a+u64.wrap (u64.wrap ((u64.wrap (c - a)).tdiv 4096)*u64.wrap f))+u64.wrap ((u64.wrap ((u64.wrap (c - a)).tmod 4096*u64.wrap f)).tdiv 4096)),e,a,c,h,d,i))) else none
abbrev YF162_402:Type:=Int→Int→Int→Int→Bool→LI→LI→((Int×Int×Int×Int×Bool×LI×LI)→Option Ans)→Option Ans
def F_coder_interval_mid_402 (fuel:Nat):YF162_402:=Fg_coder_interval_mid_402 fuel (F_coder_table_chance_bb9 fuel)
theorem F162_402_eqg (fuel:Nat) (a:YF189_bb9) (b d:Int) (e f:Int) (g:Bool) (h i:LI) (k:Ev.Cont):evalFn tab (Gg162_402 a) J0 kp162_402 fuel Tryz.f162 [.c (.ptr 0 0),.c (i6 b)] [.cells 164 (i6 d::.own 1::ctb (.int .u64 e::.int .u64 f::.own 2::.bool g::[])),.vec 3 (.int .i64) h false,.vec 5 (.int .u8) i false] k=Fg_coder_interval_mid_402 fuel a b d e f g h i (fun r=>match r with | (j,l,m,n,o,p,q)=>k (.c (.int .u64 j),[.cells 164 (i6 l::.own 1::ctb (.int .u64 m::.int .u64 n::.own 2::.bool o::[])),.vec 3 (.int .i64) p false,.vec 5 (.int .u8) q false])):=by
  kernel_rfl
theorem hG162_402 (fuel:Nat):GOK Tryz.prog (G162_402 fuel):=
  gc (ok189_bb9 fuel) Tryz.func189 (by kernel_rfl) rfl <|
  gok_nil
def spg162_402 (F:YF162_402):Ev.Spec:=fun args objs k=>match args,objs with | [.c (.ptr b d),.c (i6 e)],[.cells f a,.vec g (.int .i64) h false,.vec i (.int .u8) j false]=>(match splitRun 2 ctn a with | some ([i6 l,.own m],[.int .u64 n,.int .u64 o,.own p,.bool q])=>bif qb [b,d,f,g,i,m,p] [0,0,164,3,5,1,2] then F e l n o q h j (fun r=>match r with | (s,t,u,v,w,x,y)=>k (.c (.int .u64 s),[.cells 164 (i6 t::.own 1::ctb (.int .u64 u::.int .u64 v::.own 2::.bool w::[])),.vec 3 (.int .i64) x false,.vec 5 (.int .u8) y false])) else none | _=>none) | _,_=>none
theorem ok162_402 (fuel:Nat):FnOK Tryz.prog 162 (spg162_402 (F_coder_interval_mid_402 fuel)):=by
  intro args objs kk r h
  unfold spg162_402 at h
  split at h
  · skip
    split at h
    rotate_left 1
    · cases h
    rename_i hsp
    have esp:=splitRun_eq hsp
    subst esp
    obtain ⟨hb,h⟩:=cond_some' h
    cases qb_eq hb
    exact fo0 (hG162_402 fuel) Tryz.func162 rfl (by kernel_rfl) _ _ kk r ((F162_402_eqg fuel (F_coder_table_chance_bb9 fuel) _ _ _ _ _ _ _ kk).trans h)
  · cases h
def kp163_a20 (i:Nat):Option (List Nat):=Ev.look i [(200001,[0])]
def Gg163_a20 (f:Nat):Option Ev.Spec:=Ev.look f []
def G163_a20 (fuel:Nat):Nat→Option Ev.Spec:=Gg163_a20
def F_coder_interval_same_a20 (fuel:Nat) (c a b:Int) (d:Bool) (e f:(List Int)) (k0:(Bool×Int×Int×Int×Bool×(List Int)×(List Int))→Option Ans):Option Ans:=k0 (Ev.ishr IntKind.u64 a 24==Ev.ishr IntKind.u64 b 24,c,a,b,d,e,f)
abbrev YF163_a20:Type:=Int→Int→Int→Bool→LI→LI→((Bool×Int×Int×Int×Bool×LI×LI)→Option Ans)→Option Ans
theorem F163_a20_eq (fuel:Nat) (a b d:Int) (e:Bool) (f g:LI) (k:Ev.Cont):evalFn tab (G163_a20 fuel) J0 kp163_a20 fuel Tryz.f163 [.c (.ptr 0 0)] [.cells 164 (i6 a::.own 1::ctb (.int .u64 b::.int .u64 d::.own 2::.bool e::[])),.vec 3 (.int .i64) f false,.vec 5 (.int .u8) g false] k=F_coder_interval_same_a20 fuel a b d e f g (fun r=>match r with | (h,i,j,l,m,n,o)=>k (.c (.bool h),[.cells 164 (i6 i::.own 1::ctb (.int .u64 j::.int .u64 l::.own 2::.bool m::[])),.vec 3 (.int .i64) n false,.vec 5 (.int .u8) o false])):=by
  kernel_rfl
theorem hG163_a20 (fuel:Nat):GOK Tryz.prog (G163_a20 fuel):=
  gok_nil
def spg163_a20 (F:YF163_a20):Ev.Spec:=fun args objs k=>match args,objs with | [.c (.ptr b d)],[.cells e a,.vec f (.int .i64) g false,.vec h (.int .u8) i false]=>(match splitRun 2 ctn a with | some ([i6 j,.own l],[.int .u64 m,.int .u64 n,.own o,.bool p])=>bif qb [b,d,e,f,h,l,o] [0,0,164,3,5,1,2] then F j m n p g i (fun r=>match r with | (q,s,t,u,v,w,x)=>k (.c (.bool q),[.cells 164 (i6 s::.own 1::ctb (.int .u64 t::.int .u64 u::.own 2::.bool v::[])),.vec 3 (.int .i64) w false,.vec 5 (.int .u8) x false])) else none | _=>none) | _,_=>none
theorem ok163_a20 (fuel:Nat):FnOK Tryz.prog 163 (spg163_a20 (F_coder_interval_same_a20 fuel)):=by
  intro args objs kk r h
  unfold spg163_a20 at h
  split at h
  · skip
    split at h
    rotate_left 1
    · cases h
    rename_i hsp
    have esp:=splitRun_eq hsp
    subst esp
    obtain ⟨hb,h⟩:=cond_some' h
    cases qb_eq hb
    exact fo0 (hG163_a20 fuel) Tryz.func163 rfl (by kernel_rfl) _ _ kk r ((F163_a20_eq fuel _ _ _ _ _ _ kk).trans h)
  · cases h
def kp188 (i:Nat):Option (List Nat):=Ev.look i []
def Gg188 (f:Nat):Option Ev.Spec:=Ev.look f []
def G188 (fuel:Nat):Nat→Option Ev.Spec:=Gg188
def F_coder_next (fuel:Nat) (c b a:Int) (k0:(Int)→Option Ans):Option Ans:=bif c==1 then bif decide (0≤a∧a < (↑(2:Nat):Int)) then bif decide (a=(↑(0:Nat):Int)) then bif i64.wrap (b.tdiv 256)==255 then bif decide (0≤a∧a < (↑(2:Nat):Int)) then bif decide (a=(↑(0:Nat):Int)) then bif decide (0≤a∧a < (↑(2:Nat):Int)) then bif decide (a=(↑(0:Nat):Int)) then k0 (i64.wrap (i64.wrap (256*i64.wrap (i64.wrap ((i64.wrap (b.tdiv 256)).tdiv 2)+1))+i64.wrap ((b.tmod 256).tdiv 2))) else bif decide (a=(↑(1:Nat):Int)) then k0 (i64.wrap (i64.wrap (256*i64.wrap ((i64.wrap (b.tdiv 256)).tdiv 2))+i64.wrap (i64.wrap ((i64.wrap (b.tdiv 256)).tdiv 2)+1))) else none else none else bif decide (a=(↑(1:Nat):Int)) then bif decide (0≤a∧a < (↑(2:Nat):Int)) then bif decide (a=(↑(0:Nat):Int)) then k0 (i64.wrap (i64.wrap (256*i64.wrap (i64.wrap ((b.tmod 256).tdiv 2)+1))+i64.wrap ((b.tmod 256).tdiv 2))) else bif decide (a=(↑(1:Nat):Int)) then k0 (i64.wrap (i64.wrap (256*i64.wrap ((i64.wrap (b.tdiv 256)).tdiv 2))+i64.wrap (i64.wrap ((b.tmod 256).tdiv 2)+1))) else none else none else none else none else bif decide (0≤a∧a < (↑(2:Nat):Int)) then bif decide (a=(↑(0:Nat):Int)) then bif decide (0≤a∧a < (↑(2:Nat):Int)) then bif decide (a=(↑(0:Nat):Int)) then k0 (i64.wrap (i64.wrap (256*i64.wrap (i64.wrap (b.tdiv 256)+1))+b.tmod 256)) else bif decide (a=(↑(1:Nat):Int)) then k0 (i64.wrap (i64.wrap (256*i64.wrap (b.tdiv 256))+i64.wrap (i64.wrap (b.tdiv 256)+1))) else none else none else bif decide (a=(↑(1:Nat):Int)) then bif decide (0≤a∧a < (↑(2:Nat):Int)) then bif decide (a=(↑(0:Nat):Int)) then k0 (i64.wrap (i64.wrap ((256:Int)*i64.wrap (b.tmod (256:Int)+(1:Int)))+b.tmod (256:Int))) else bif decide (a=(↑(1:Nat):Int)) then k0 (i64.wrap (i64.wrap ((256:Int)*i64.wrap (b.tdiv (256:Int)))+i64.wrap (b.tmod (256:Int)+(1:Int)))) else none else none else none else none else bif decide (a=(↑(1:Nat):Int)) then bif b.tmod (256:Int)==(255:Int) then bif decide (0≤a∧a < (↑(2:Nat):Int)) then bif decide (a=(↑(0:Nat):Int)) then bif decide (0≤a∧a < (↑(2:Nat):Int)) then bif decide (a=(↑(0:Nat):Int)) then k0 (i64.wrap (i64.wrap (256*i64.wrap (i64.wrap ((i64.wrap (b.tdiv 256)).tdiv 2)+1))+i64.wrap ((b.tmod 256).tdiv 2))) else bif decide (a=(↑(1:Nat):Int)) then k0 (i64.wrap (i64.wrap (256*i64.wrap ((i64.wrap (b.tdiv 256)).tdiv 2))+i64.wrap (i64.wrap ((i64.wrap (b.tdiv 256)).tdiv 2)+1))) else none else none else bif decide (a=(↑(1:Nat):Int)) then bif decide (0≤a∧a < (↑(2:Nat):Int)) then bif decide (a=(↑(0:Nat):Int)) then k0 (i64.wrap (i64.wrap (256*i64.wrap (i64.wrap ((b.tmod 256).tdiv 2)+1))+i64.wrap ((b.tmod 256).tdiv 2))) else bif decide (a=(↑(1:Nat):Int)) then k0 (i64.wrap (i64.wrap (256*i64.wrap ((i64.wrap (b.tdiv 256)).tdiv 2))+i64.wrap (i64.wrap ((b.tmod 256).tdiv 2)+1))) else none else none else none else none else bif decide (0≤a∧a < (↑(2:Nat):Int)) then bif decide (a=(↑(0:Nat):Int)) then bif decide (0≤a∧a < (↑(2:Nat):Int)) then bif decide (a=(↑(0:Nat):Int)) then k0 (i64.wrap (i64.wrap (256*i64.wrap (i64.wrap (b.tdiv 256)+1))+b.tmod 256)) else bif decide (a=(↑(1:Nat):Int)) then k0 (i64.wrap (i64.wrap (256*i64.wrap (b.tdiv 256))+i64.wrap (i64.wrap (b.tdiv 256)+1))) else none else none else bif decide (a=(↑(1:Nat):Int)) then bif decide (0≤a∧a < (↑(2:Nat):Int)) then bif decide (a=(↑(0:Nat):Int)) then k0 (i64.wrap (i64.wrap ((256:Int)*i64.wrap (b.tmod (256:Int)+(1:Int)))+b.tmod (256:Int))) else bif decide (a=(↑(1:Nat):Int)) then k0 (i64.wrap (i64.wrap ((256:Int)*i64.wrap (b.tdiv (256:Int)))+i64.wrap (b.tmod (256:Int)+(1:Int)))) else none else none else none else none else none else none else bif a==i64.wrap (b.tdiv 32) then k0 (i64.wrap (i64.wrap ((32:Int)*i64.wrap (b.tdiv (32:Int)))+bif decide ((31:Int) < i64.wrap (b.tmod (32:Int)+(1:Int))) then (31:Int) else i64.wrap (b.tmod (32:Int)+(1:Int)))) else bif b.tmod (32:Int)==(0:Int) then k0 (i64.wrap (i64.wrap (32*a)+b.tmod 32)) else k0 (i64.wrap (i64.wrap (32*i64.wrap (b.tdiv 32))+i64.wrap (b.tmod 32 - i64.wrap (1+i64.wrap ((b.tmod 32).tdiv 4)))))
abbrev YF188:Type:=Int→Int→Int→(Int→Option Ans)→Option Ans
theorem F188_eq (fuel:Nat) (a b d:Int) (k:Ev.Cont):evalFn tab (G188 fuel) J0 kp188 fuel Tryz.f188 [.c (i6 a),.c (i6 b),.c (i6 d)] [] k=F_coder_next fuel a b d (fun r=>match r with | e=>k (.c (i6 e),[])):=by
  kernel_rfl
theorem hG188 (fuel:Nat):GOK Tryz.prog (G188 fuel):=
  gok_nil
def spg188 (F:YF188):Ev.Spec:=fun args objs k=>match args,objs with | [.c (i6 a),.c (i6 b),.c (i6 d)],[]=>F a b d (fun r=>match r with | e=>k (.c (i6 e),[])) | _,_=>none
theorem ok188 (fuel:Nat):FnOK Tryz.prog 188 (spg188 (F_coder_next fuel)):=by
  intro args objs kk r h
  unfold spg188 at h
  split at h
  · skip
    exact fo0 (hG188 fuel) Tryz.func188 rfl (by kernel_rfl) _ _ kk r ((F188_eq fuel _ _ _ kk).trans h)
  · cases h
def kp161_546 (i:Nat):Option (List Nat):=Ev.look i [(200003,[0])]
def Gg161_546 (a:YF188) (f:Nat):Option Ev.Spec:=Ev.look f [(188,spg188 a)]
def G161_546 (fuel:Nat):Nat→Option Ev.Spec:=Gg161_546 (F_coder_next fuel)
def Fg_coder_interval_take_546 (fuel:Nat) (f:YF188) (a d:Int) (g c:Int) (j k:Int) (h:Bool) (b i:LI) (k0:(Int×Int×Int×Bool×LI×LI)→OA):OA:=bif d==1 then bif decide (0≤a∧a < (↑b.length:Int)) then (f c (b.getD a.toNat 0) d (fun e=>bif decide (0≤a∧a < (↑b.length:Int)) then k0 (c,j,g,h,b.set a.toNat e,i) else none)) else none else bif decide (0≤a∧a < (↑b.length:Int)) then (f c (b.getD a.toNat 0) d (fun e=>bif decide (0≤a∧a < (↑b.length:Int)) then k0 (c,u64.wrap (g+1),k,h,b.set a.toNat e,i) else none)) else none
abbrev YF161_546:Type:=Int→Int→Int→Int→Int→Int→Bool→LI→LI→((Int×Int×Int×Bool×LI×LI)→Option Ans)→Option Ans
def F_coder_interval_take_546 (fuel:Nat):YF161_546:=Fg_coder_interval_take_546 fuel (F_coder_next fuel)
theorem F161_546_eqg (fuel:Nat) (a:YF188) (b d:Int) (e f:Int) (g h:Int) (i:Bool) (j l:LI) (k:Ev.Cont):evalFn tab (Gg161_546 a) J0 kp161_546 fuel Tryz.f161 [.c (.ptr 0 0),.c (i6 b),.c (i6 d),.c (.int .u64 e)] [.cells 164 (i6 f::.own 1::ctb (.int .u64 g::.int .u64 h::.own 2::.bool i::[])),.vec 3 (.int .i64) j false,.vec 5 (.int .u8) l false] k=Fg_coder_interval_take_546 fuel a b d e f g h i j l (fun r=>match r with | (m,n,o,p,q,s)=>k (.tup [],[.cells 164 (i6 m::.own 1::ctb (.int .u64 n::.int .u64 o::.own 2::.bool p::[])),.vec 3 (.int .i64) q false,.vec 5 (.int .u8) s false])):=by
  kernel_rfl
theorem hG161_546 (fuel:Nat):GOK Tryz.prog (G161_546 fuel):=
  gc (ok188 fuel) Tryz.func188 (by kernel_rfl) rfl <|
  gok_nil
def spg161_546 (F:YF161_546):Ev.Spec:=fun args objs k=>match args,objs with | [.c (.ptr b d),.c (i6 e),.c (i6 f),.c (.int .u64 g)],[.cells h a,.vec i (.int .i64) j false,.vec l (.int .u8) m false]=>(match splitRun 2 ctn a with | some ([i6 n,.own o],[.int .u64 p,.int .u64 q,.own s,.bool t])=>bif qb [b,d,h,i,l,o,s] [0,0,164,3,5,1,2] then F e f g n p q t j m (fun r=>match r with | (u,v,w,x,y,z)=>k (.tup [],[.cells 164 (i6 u::.own 1::ctb (.int .u64 v::.int .u64 w::.own 2::.bool x::[])),.vec 3 (.int .i64) y false,.vec 5 (.int .u8) z false])) else none | _=>none) | _,_=>none
theorem ok161_546 (fuel:Nat):FnOK Tryz.prog 161 (spg161_546 (F_coder_interval_take_546 fuel)):=by
  intro args objs kk r h
  unfold spg161_546 at h
  split at h
  · skip
    split at h
    rotate_left 1
    · cases h
    rename_i hsp
    have esp:=splitRun_eq hsp
    subst esp
    obtain ⟨hb,h⟩:=cond_some' h
    cases qb_eq hb
    exact fo0 (hG161_546 fuel) Tryz.func161 rfl (by kernel_rfl) _ _ kk r ((F161_546_eqg fuel (F_coder_next fuel) _ _ _ _ _ _ _ _ _ kk).trans h)
  · cases h
def kp130_cf0 (i:Nat):Option (List Nat):=Ev.look i [(6,[0,1000002]),(100001,[]),(400001,[6]),(600000,[])]
def Gg130_cf0 (a:YF117_a20) (b:YF161_546) (c:YF162_402) (d:YF163_a20) (e:YF164_a20) (f:Nat):Option Ev.Spec:=Ev.look f [(117,spg117_a20 a),(161,spg161_546 b),(162,spg162_402 c),(163,spg163_a20 d),(164,spg164_a20 e)]
def G130_cf0 (fuel:Nat):Nat→Option Ev.Spec:=Gg130_cf0 (F_coder_Encoder_none_a20 fuel) (F_coder_interval_take_546 fuel) (F_coder_interval_mid_402 fuel) (F_coder_interval_same_a20 fuel) (F_coder_interval_lose_a20 fuel)
abbrev V_coder_Encoder_Put_cf0_1:Type:=Int×Int×Int×Bool×LI×LI
abbrev W_coder_Encoder_Put_cf0_1:Type:=(Int×Int×Int×Bool×LI×LI→OA)
def Sg_coder_Encoder_Put_cf0_1 (fuel:Nat) (y:YF117_a20) (z:YF161_546) (A:YF162_402) (q:YF163_a20) (p:YF164_a20) (s t u:Int) (v:Bool) (w x:LI) (c:V_coder_Encoder_Put_cf0_1→OA) (B:W_coder_Encoder_Put_cf0_1):OA:=match B with | b=>(q s t u v w x (fun (r,j,k,l,m,n,o)=>bif r then both ((p j k l m n o (fun (a,e,f,g,h,i,d)=>bif decide ((d.length+ [a].length)*(1:Nat)≤(140737488355328:Nat)∧d.length+ [a].length≤(140737488355328:Nat)) then c (e,f,g,h,i,d++ [a]) else none))) ((p j k l m n o (fun (a,e,f,g,h,i,d)=>both (bif decide ((d.length+ [a].length)*(1:Nat)≤(140737488355328:Nat)∧d.length+ [a].length≤(140737488355328:Nat)) then c (e,f,g,h,i,d++ [a]) else none) (bif decide ((d.length+ [a].length)*(1:Nat)≤(140737488355328:Nat)∧d.length+ [a].length≤(140737488355328:Nat)) then c (e,f,g,h,i,d++ [a]) else none)))) else b (j,k,l,m,n,o)))
def S_coder_Encoder_Put_cf0_1 (fuel:Nat) (v:Int×Int×Int×Bool×(List Int)×(List Int)) (c:(Int×Int×Int×Bool×(List Int)×(List Int))→Option Ans) (B:(Int×Int×Int×Bool×(List Int)×(List Int)→Option Ans)):Option Ans:=match v with | (a,b,d,e,f,g)=>Sg_coder_Encoder_Put_cf0_1 fuel (F_coder_Encoder_none_a20 fuel) (F_coder_interval_take_546 fuel) (F_coder_interval_mid_402 fuel) (F_coder_interval_same_a20 fuel) (F_coder_interval_lose_a20 fuel) a b d e f g c B
def L_coder_Encoder_Put_cf0_1 (fuel:Nat) (v:V_coder_Encoder_Put_cf0_1) (b:W_coder_Encoder_Put_cf0_1):Option Ans:=iter (S_coder_Encoder_Put_cf0_1 fuel) fuel v b
def T130_cf0_1 (v:V_coder_Encoder_Put_cf0_1):Ev.St:=match v with | (a,b,d,e,f,g)=>⟨[(0,.c (.ptr 0 0))],[(0,.cells 164 (i6 a::.own 1::ctb (.int .u64 b::.int .u64 d::.own 2::.bool e::[]))),(1,.vec 3 (.int .i64) f false),(2,.vec 5 (.int .u8) g true)],3,3⟩
def E130_cf0_1 (K:KT):W_coder_Encoder_Put_cf0_1:=(fun v=>match v with | (a,b,c,d,e,f)=>K .normal ⟨[],[(0,.cells 164 (i6 a::.own 1::ctb (.int .u64 b::.int .u64 c::.own 2::.bool d::[]))),(1,.vec 3 (.int .i64) e false),(2,.vec 5 (.int .u8) f true)],3,3⟩)
theorem S130_cf0_1_okg (fuel:Nat) (a:YF117_a20) (b:YF161_546) (c:YF162_402) (d:YF163_a20) (e:YF164_a20) (R:Ev.St→OA) (K:KT) (f g h:Int) (i:Bool) (j k:LI):evalCode tab (Gg130_cf0 a b c d e) J0 kp130_cf0 fuel (bodyOf 1 Tryz.f130) (T130_cf0_1 (f,g,h,i,j,k)) (lc kp130_cf0 6 1 R K)=Sg_coder_Encoder_Put_cf0_1 fuel a b c d e f g h i j k (fun v=>R (T130_cf0_1 v)) (E130_cf0_1 K):=by
  kernel_rfl
def B130_cf0_1 (fuel:Nat):Ev.Blk:=fun st K=>match canonO (kp130_cf0 6) st with | some s=>(match s with | ⟨[(f,.c (.ptr g h))],[(i,.cells j a),(k,.vec l (.int .i64) m false),(n,.vec o (.int .u8) p true)],q,b⟩=>(match splitRun 2 ctn a with | some ([i6 r,.own d],[.int .u64 t,.int .u64 u,.own e,.bool v])=>bif qb [f,g,h,i,j,k,l,n,o,q,b,d,e] [0,0,0,0,164,1,3,2,5,3,3,1,2] then iter (S_coder_Encoder_Put_cf0_1 fuel) fuel (r,t,u,v,m,p) (E130_cf0_1 K) else none | _=>none) | _=>none) | none=>none
theorem B130_cf0_1_ok (fuel:Nat) (st:Ev.St) (K:KT) (r:Ans) (h:B130_cf0_1 fuel st K=some r):evalCode tab (G130_cf0 fuel) J0 kp130_cf0 fuel (.block 1 (.loop (bodyOf 1 Tryz.f130))) st K=some r:=by
  unfold B130_cf0_1 at h
  split at h
  · rename_i s hs
    split at h
    · skip
      split at h
      rotate_left 1
      · cases h
      rename_i hsp
      have esp:=splitRun_eq hsp
      subst esp
      obtain ⟨hb,h⟩:=cond_some' h
      cases qb_eq hb
      exact blk_loop (S:=T130_cf0_1) (ks:=E130_cf0_1) (step:=S_coder_Encoder_Put_cf0_1 fuel) (v:=(_,_,_,_,_,_)) (by kernel_rfl) (by kernel_rfl) (fun R K v=>by obtain ⟨a,b,c,d,e,f⟩:=v; exact S130_cf0_1_okg fuel (F_coder_Encoder_none_a20 fuel) (F_coder_interval_take_546 fuel) (F_coder_interval_mid_402 fuel) (F_coder_interval_same_a20 fuel) (F_coder_interval_lose_a20 fuel) R K a b c d e f) hs h
    · cases h
  · cases h
def J130_cf0 (fuel:Nat) (i:Nat):Option Ev.Blk:=Ev.look i [(100001,B130_cf0_1 fuel)]
def Fg_coder_Encoder_Put_cf0 (fuel:Nat) (q:YF117_a20) (o:YF161_546) (p:YF162_402) (Y:YF163_a20) (Z:YF164_a20) (g h:Int) (S T U:Int) (V:Bool) (W X:LI) (k0:(Int×Int×Int×Int×Bool×LI×LI)→OA) (k1:(Int×Int×Int×Int×Bool×LI×LI)→OA):OA:=(q S T U V W X (fun (R,b,c,d,e,a,f)=>bif R then k0 (7,b,c,d,e,a,f) else bif decide (g < 0) then k0 (2,b,c,d,e,a,f) else bif decide (g≥(↑a.length:Int)) then k0 (2,b,c,d,e,a,f) else bif h != 0 then bif h != 1 then k0 (2,b,c,d,e,a,f) else (p g b c d e a f (fun (r,s,t,u,v,w,x)=>(o g h r s t u v w x (fun (y,z,A,B,C,D)=>(L_coder_Encoder_Put_cf0_1 fuel (y,z,A,B,C,D) (fun (i,j,k,l,m,n)=>k1 (0,i,j,k,l,m,n))))))) else (p g b c d e a f (fun (E,F,G,H,I,J,K)=>(o g h E F G H I J K (fun (L,M,N,O,P,Q)=>(L_coder_Encoder_Put_cf0_1 fuel (L,M,N,O,P,Q) (fun (i,j,k,l,m,n)=>k1 (0,i,j,k,l,m,n)))))))))
abbrev YF130_cf0:Type:=Int→Int→Int→Int→Int→Bool→LI→LI→((Int×Int×Int×Int×Bool×LI×LI)→Option Ans)→((Int×Int×Int×Int×Bool×LI×LI)→Option Ans)→Option Ans
def F_coder_Encoder_Put_cf0 (fuel:Nat):YF130_cf0:=Fg_coder_Encoder_Put_cf0 fuel (F_coder_Encoder_none_a20 fuel) (F_coder_interval_take_546 fuel) (F_coder_interval_mid_402 fuel) (F_coder_interval_same_a20 fuel) (F_coder_interval_lose_a20 fuel)
theorem F130_cf0_eqg (fuel:Nat) (i:YF117_a20) (j:YF161_546) (l:YF162_402) (m:YF163_a20) (n:YF164_a20) (o p:Int) (q s t:Int) (u:Bool) (v w:LI) (k:Ev.Cont):evalFn tab (Gg130_cf0 i j l m n) (J130_cf0 fuel) kp130_cf0 fuel Tryz.f130 [.c (.ptr 0 0),.c (i6 o),.c (i6 p)] [.cells 164 (i6 q::.own 1::ctb (.int .u64 s::.int .u64 t::.own 2::.bool u::[])),.vec 3 (.int .i64) v false,.vec 5 (.int .u8) w false] k=Fg_coder_Encoder_Put_cf0 fuel i j l m n o p q s t u v w (fun r=>match r with | (a,b,d,e,f,g,h)=>k (.c (i6 a),[.cells 164 (i6 b::.own 1::ctb (.int .u64 d::.int .u64 e::.own 2::.bool f::[])),.vec 3 (.int .i64) g false,.vec 5 (.int .u8) h false])) (fun r=>match r with | (a,b,d,e,f,g,h)=>k (.c (i6 a),[.cells 164 (i6 b::.own 1::ctb (.int .u64 d::.int .u64 e::.own 2::.bool f::[])),.vec 3 (.int .i64) g false,.vec 5 (.int .u8) h true])):=by
  kernel_rfl
theorem hG130_cf0 (fuel:Nat):GOK Tryz.prog (G130_cf0 fuel):=
  gc (ok117_a20 fuel) Tryz.func117 (by kernel_rfl) rfl <|
  gc (ok161_546 fuel) Tryz.func161 (by kernel_rfl) rfl <|
  gc (ok162_402 fuel) Tryz.func162 (by kernel_rfl) rfl <|
  gc (ok163_a20 fuel) Tryz.func163 (by kernel_rfl) rfl <|
  gc (ok164_a20 fuel) Tryz.func164 (by kernel_rfl) rfl <|
  gok_nil
theorem B130_cf0_1_blk (fuel:Nat):BlkOK Tryz.prog Tryz.f130.ntmps (.block 1 (.loop (bodyOf 1 Tryz.f130))) (B130_cf0_1 fuel):=bo0 (hG130_cf0 fuel) (by kernel_rfl) (by kernel_rfl) (B130_cf0_1_ok fuel)
def spg130_cf0 (F:YF130_cf0):Ev.Spec:=fun args objs k=>match args,objs with | [.c (.ptr j l),.c (i6 m),.c (i6 n)],[.cells o i,.vec p (.int .i64) q false,.vec s (.int .u8) t false]=>(match splitRun 2 ctn i with | some ([i6 u,.own v],[.int .u64 w,.int .u64 x,.own y,.bool z])=>bif qb [j,l,o,p,s,v,y] [0,0,164,3,5,1,2] then F m n u w x z q t (fun r=>match r with | (a,b,d,e,f,g,h)=>k (.c (i6 a),[.cells 164 (i6 b::.own 1::ctb (.int .u64 d::.int .u64 e::.own 2::.bool f::[])),.vec 3 (.int .i64) g false,.vec 5 (.int .u8) h false])) (fun r=>match r with | (a,b,d,e,f,g,h)=>k (.c (i6 a),[.cells 164 (i6 b::.own 1::ctb (.int .u64 d::.int .u64 e::.own 2::.bool f::[])),.vec 3 (.int .i64) g false,.vec 5 (.int .u8) h true])) else none | _=>none) | _,_=>none
def spec130_cf0 (fuel:Nat):Ev.Spec:=spg130_cf0 (F_coder_Encoder_Put_cf0 fuel)
theorem ok130_cf0 (fuel:Nat):FnOK Tryz.prog 130 (spec130_cf0 fuel):=by
  intro args objs kk r h
  unfold spec130_cf0 spg130_cf0 at h
  split at h
  · skip
    split at h
    rotate_left 1
    · cases h
    rename_i hsp
    have esp:=splitRun_eq hsp
    subst esp
    obtain ⟨hb,h⟩:=cond_some' h
    cases qb_eq hb
    exact fo1 (hG130_cf0 fuel) Tryz.func130 rfl (B130_cf0_1_blk fuel) (by kernel_rfl) _ _ kk r ((F130_cf0_eqg fuel (F_coder_Encoder_none_a20 fuel) (F_coder_interval_take_546 fuel) (F_coder_interval_mid_402 fuel) (F_coder_interval_same_a20 fuel) (F_coder_interval_lose_a20 fuel) _ _ _ _ _ _ _ _ kk).trans h)
  · cases h
def kp133 (i:Nat):Option (List Nat):=Ev.look i []
def Gg133 (f:Nat):Option Ev.Spec:=Ev.look f []
def G133 (fuel:Nat):Nat→Option Ev.Spec:=Gg133
def F_number_Valid (fuel:Nat) (b:Bool) (a:Int) (k0:(Bool)→Option Ans):Option Ans:=bif b then k0 (a==0) else bif decide (a≥(-1048576:Int)) then k0 (decide (a≤1048576)) else k0 false
abbrev YF133:Type:=Bool→Int→(Bool→Option Ans)→Option Ans
theorem F133_eq (fuel:Nat) (a:Bool) (b:Int) (k:Ev.Cont):evalFn tab (G133 fuel) J0 kp133 fuel Tryz.f133 [.agg [.bool a,i6 b]] [] k=F_number_Valid fuel a b (fun r=>match r with | d=>k (.c (.bool d),[])):=by
  kernel_rfl
theorem hG133 (fuel:Nat):GOK Tryz.prog (G133 fuel):=
  gok_nil
def spg133 (F:YF133):Ev.Spec:=fun args objs k=>match args,objs with | [.agg [.bool a,i6 b]],[]=>F a b (fun r=>match r with | d=>k (.c (.bool d),[])) | _,_=>none
theorem ok133 (fuel:Nat):FnOK Tryz.prog 133 (spg133 (F_number_Valid fuel)):=by
  intro args objs kk r h
  unfold spg133 at h
  split at h
  · skip
    exact fo0 (hG133 fuel) Tryz.func133 rfl (by kernel_rfl) _ _ kk r ((F133_eq fuel _ _ kk).trans h)
  · cases h
def kp172 (i:Nat):Option (List Nat):=Ev.look i []
def Gg172 (f:Nat):Option Ev.Spec:=Ev.look f []
def G172 (fuel:Nat):Nat→Option Ev.Spec:=Gg172
def F_number_tail_take (fuel:Nat) (a:Int) (k0:(Int×Int)→Option Ans):Option Ans:=k0 (a,bif decide (47 < i64.wrap (a+1)) then 47 else i64.wrap (a+1))
abbrev YF172:Type:=Int→((Int×Int)→Option Ans)→Option Ans
theorem F172_eq (fuel:Nat) (a:Int) (k:Ev.Cont):evalFn tab (G172 fuel) J0 kp172 fuel Tryz.f172 [.c (.ptr 0 0)] [.cells 221 [i6 a]] k=F_number_tail_take fuel a (fun r=>match r with | (b,d)=>k (.c (i6 b),[.cells 221 [i6 d]])):=by
  kernel_rfl
theorem hG172 (fuel:Nat):GOK Tryz.prog (G172 fuel):=
  gok_nil
def spg172 (F:YF172):Ev.Spec:=fun args objs k=>match args,objs with | [.c (.ptr a b)],[.cells d [i6 e]]=>bif qb [a,b,d] [0,0,221] then F e (fun r=>match r with | (f,g)=>k (.c (i6 f),[.cells 221 [i6 g]])) else none | _,_=>none
theorem ok172 (fuel:Nat):FnOK Tryz.prog 172 (spg172 (F_number_tail_take fuel)):=by
  intro args objs kk r h
  unfold spg172 at h
  split at h
  · skip
    obtain ⟨hb,h⟩:=cond_some' h
    cases qb_eq hb
    exact fo0 (hG172 fuel) Tryz.func172 rfl (by kernel_rfl) _ _ kk r ((F172_eq fuel _ kk).trans h)
  · cases h
end
end Go.Proofs.YtmjeeaemmbkioaaGreat

