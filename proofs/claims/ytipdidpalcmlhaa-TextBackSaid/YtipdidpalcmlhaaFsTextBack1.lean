/- What the functions that TextBack reaches do: their typed texts, each with the proof that the machine does it. No condition. -/
import Derived.Test.YtipdidpalcmlhaaEvX
set_option linter.unusedVariables false
set_option linter.unusedSimpArgs false
set_option linter.unusedSectionVars false
namespace Go.Proofs.Ytipdidpalcmlhaa
open Go Ev
open Go.IntKind (i64 u64 u8 i32 u32 u16)
noncomputable section
def ctb (r:List SC):List SC:=.int .i64 2048::.int .i64 1792::.int .i64 1568::.int .i64 1372::.int .i64 1201::.int .i64 1051::.int .i64 920::.int .i64 805::.int .i64 705::.int .i64 617::.int .i64 540::.int .i64 473::.int .i64 414::.int .i64 363::.int .i64 318::.int .i64 279::.int .i64 245::.int .i64 215::.int .i64 189::.int .i64 166::.int .i64 146::.int .i64 128::.int .i64 112::.int .i64 98::.int .i64 86::.int .i64 76::.int .i64 67::.int .i64 59::.int .i64 52::.int .i64 46::.int .i64 41::.int .i64 36::r
def ctn:List (IntKind×Int):=[(.i64,2048),(.i64,1792),(.i64,1568),(.i64,1372),(.i64,1201),(.i64,1051),(.i64,920),(.i64,805),(.i64,705),(.i64,617),(.i64,540),(.i64,473),(.i64,414),(.i64,363),(.i64,318),(.i64,279),(.i64,245),(.i64,215),(.i64,189),(.i64,166),(.i64,146),(.i64,128),(.i64,112),(.i64,98),(.i64,86),(.i64,76),(.i64,67),(.i64,59),(.i64,52),(.i64,46),(.i64,41),(.i64,36)]
def qb:List Nat→List Nat→Bool
 | [],[]=>true
 | a::x,b::y=>Nat.beq a b&&qb x y
 | _,_=>false
theorem qb_eq:∀ {x y:List Nat},qb x y=true→x=y
 | [],[],_=>rfl
 | [],_::_,h=>by cases h
 | _::_,[],h=>by cases h
 | a::x,b::y,h=>by
  have h:(Nat.beq a b&&qb x y)=true:=h
  rw [Bool.and_eq_true] at h
  rw [Nat.eq_of_beq_eq_true h.1,qb_eq h.2]
theorem w6 {x:Int} (h1: -9223372036854775808≤x:=by omega) (h2:x≤9223372036854775807:=by omega):i64.wrap x=x:=by
 simp [IntKind.wrap,IntKind.min,IntKind.max,IntKind.signed,IntKind.bits]
 omega
theorem fo0 {G:Nat→Option Ev.Spec} {J:Nat→Option Ev.Blk} {kp:Nat→Option (List Nat)} {fuel:Nat} {f:FuncId} {fn:Func} (hG:GOK Try.prog G) (hf:Try.prog.funcs[f]? =some fn) (hb:fn.body=some (fn.body.getD .skip)) (h:obl J (fn.body.getD .skip)= []):FnOK Try.prog f (evalFn tab G J kp fuel fn):=
  fn_ok tab_ok hG mixed hf (c:=fn.body.getD .skip) hb (fun q hq=>by
    rw [h] at hq
    cases hq)
@[match_pattern] abbrev i6 (x:Int):Ev.SC:=.int .i64 x
abbrev LI:Type:=List Int
abbrev OA:Type:=Option Ans
abbrev KT:Type:=Ev.Ex→Ev.St→Option Ans
def J0 (i:Nat):Option Ev.Blk:=Ev.look i []
theorem gc {k:Nat} {v:Ev.Spec} {r:List (Nat×Ev.Spec)} {fn:Func} {c:Code} (h:FnOK Try.prog (k % 1000000) v) (hf:Try.prog.funcs[k % 1000000]? =some fn) (hn:(fn.name== "runtime.NumGoroutine")=false) (hb:fn.body=some c) (hr:GOK Try.prog (fun f=>Ev.look f r)):GOK Try.prog (fun f=>Ev.look f ((k,v)::r)):=gok_cons ⟨h,enters_of hf hn hb⟩ hr
theorem bo0 {G:Nat→Option Ev.Spec} {J:Nat→Option Ev.Blk} {kp:Nat→Option (List Nat)} {fuel nt:Nat} {b:Code} {sp:Ev.Blk} (hG:GOK Try.prog G) (hfit:codeFit nt b=true) (h:obl J b= []) (hs:∀ st K r,sp st K=some r→evalCode tab G J kp fuel b st K=some r):BlkOK Try.prog nt b sp:=
  blk_of (blk_of_code tab_ok hG mixed hfit (fun q hq=>by
    rw [h] at hq
    cases hq)) hs
theorem fo1 {G:Nat→Option Ev.Spec} {J:Nat→Option Ev.Blk} {kp:Nat→Option (List Nat)} {fuel:Nat} {f:FuncId} {fn:Func} {b:Code} {sp:Ev.Blk} (hG:GOK Try.prog G) (hf:Try.prog.funcs[f]? =some fn) (hb:fn.body=some (fn.body.getD .skip)) (hk:BlkOK Try.prog fn.ntmps b sp) (h:obl J (fn.body.getD .skip)= [(b,sp)]):FnOK Try.prog f (evalFn tab G J kp fuel fn):=
  fn_ok tab_ok hG mixed hf (c:=fn.body.getD .skip) hb (fun q hq=>by
    rw [h] at hq
    simp only [List.mem_cons,List.not_mem_nil,or_false] at hq
    subst hq
    exact hk)
def kp177 (i:Nat):Option (List Nat):=Ev.look i []
def Gg177 (f:Nat):Option Ev.Spec:=Ev.look f []
def G177 (fuel:Nat):Nat→Option Ev.Spec:=Gg177
def F_math_bits_Len64 (fuel:Nat) (a:Int) (k0:(Int)→Option Ans):Option Ans:=bif decide (a≥4294967296) then bif decide (Ev.ishr IntKind.u64 a (32:Int)≥(65536:Int)) then bif decide (Ev.ishr IntKind.u64 (Ev.ishr IntKind.u64 a (32:Int)) (16:Int)≥(256:Int)) then bif decide (0≤u8.wrap (Ev.ishr IntKind.u64 (Ev.ishr IntKind.u64 (Ev.ishr IntKind.u64 a 32) 16) 8)∧u8.wrap (Ev.ishr IntKind.u64 (Ev.ishr IntKind.u64 (Ev.ishr IntKind.u64 a 32) 16) 8) < (↑(ByteArray.mk (([(0:UInt8),(1:UInt8),(2:UInt8),(2:UInt8),(3:UInt8),(3:UInt8),(3:UInt8),(3:UInt8),(4:UInt8),(4:UInt8),(4:UInt8),(4:UInt8),(4:UInt8),(4:UInt8),(4:UInt8),(4:UInt8),(5:UInt8),(5:UInt8),(5:UInt8),(5:UInt8),(5:UInt8),(5:UInt8),(5:UInt8),(5:UInt8),(5:UInt8),(5:UInt8),(5:UInt8),(5:UInt8),(5:UInt8),(5:UInt8),(5:UInt8),(5:UInt8),(6:UInt8),(6:UInt8),(6:UInt8),(6:UInt8),(6:UInt8),(6:UInt8),(6:UInt8),(6:UInt8),(6:UInt8),(6:UInt8),(6:UInt8),(6:UInt8),(6:UInt8),(6:UInt8),(6:UInt8),(6:UInt8),(6:UInt8),(6:UInt8),(6:UInt8),(6:UInt8),(6:UInt8),(6:UInt8),(6:UInt8),(6:UInt8),(6:UInt8),(6:UInt8),(6:UInt8),(6:UInt8),(6:UInt8),(6:UInt8),(6:UInt8),(6:UInt8)].append [(7:UInt8),(7:UInt8),(7:UInt8),(7:UInt8),(7:UInt8),(7:UInt8),(7:UInt8),(7:UInt8),(7:UInt8),(7:UInt8),(7:UInt8),(7:UInt8),(7:UInt8),(7:UInt8),(7:UInt8),(7:UInt8),(7:UInt8),(7:UInt8),(7:UInt8),(7:UInt8),(7:UInt8),(7:UInt8),(7:UInt8),(7:UInt8),(7:UInt8),(7:UInt8),(7:UInt8),(7:UInt8),(7:UInt8),(7:UInt8),(7:UInt8),(7:UInt8),(7:UInt8),(7:UInt8),(7:UInt8),(7:UInt8),(7:UInt8),(7:UInt8),(7:UInt8),(7:UInt8),(7:UInt8),(7:UInt8),(7:UInt8),(7:UInt8),(7:UInt8),(7:UInt8),(7:UInt8),(7:UInt8),(7:UInt8),(7:UInt8),(7:UInt8),(7:UInt8),(7:UInt8),(7:UInt8),(7:UInt8),(7:UInt8),(7:UInt8),(7:UInt8),(7:UInt8),(7:UInt8),(7:UInt8),(7:UInt8),(7:UInt8),(7:UInt8)]).append ([(8:UInt8),(8:UInt8),(8:UInt8),(8:UInt8),(8:UInt8),(8:UInt8),(8:UInt8),(8:UInt8),(8:UInt8),(8:UInt8),(8:UInt8),(8:UInt8),(8:UInt8),(8:UInt8),(8:UInt8),(8:UInt8),(8:UInt8),(8:UInt8),(8:UInt8),(8:UInt8),(8:UInt8),(8:UInt8),(8:UInt8),(8:UInt8),(8:UInt8),(8:UInt8),(8:UInt8),(8:UInt8),(8:UInt8),(8:UInt8),(8:UInt8),(8:UInt8),(8:UInt8),(8:UInt8),(8:UInt8),(8:UInt8),(8:UInt8),(8:UInt8),(8:UInt8),(8:UInt8),(8:UInt8),(8:UInt8),(8:UInt8),(8:UInt8),(8:UInt8),(8:UInt8),(8:UInt8),(8:UInt8),(8:UInt8),(8:UInt8),(8:UInt8),(8:UInt8),(8:UInt8),(8:UInt8),(8:UInt8),(8:UInt8),(8:UInt8),(8:UInt8),(8:UInt8),(8:UInt8),(8:UInt8),(8:UInt8),(8:UInt8),(8:UInt8)].append [(8:UInt8),(8:UInt8),(8:UInt8),(8:UInt8),(8:UInt8),(8:UInt8),(8:UInt8),(8:UInt8),(8:UInt8),(8:UInt8),(8:UInt8),(8:UInt8),(8:UInt8),(8:UInt8),(8:UInt8),(8:UInt8),(8:UInt8),(8:UInt8),(8:UInt8),(8:UInt8),(8:UInt8),(8:UInt8),(8:UInt8),(8:UInt8),(8:UInt8),(8:UInt8),(8:UInt8),(8:UInt8),(8:UInt8),(8:UInt8),(8:UInt8),(8:UInt8),(8:UInt8),(8:UInt8),(8:UInt8),(8:UInt8),(8:UInt8),(8:UInt8),(8:UInt8),(8:UInt8),(8:UInt8),(8:UInt8),(8:UInt8),(8:UInt8),(8:UInt8),(8:UInt8),(8:UInt8),(8:UInt8),(8:UInt8),(8:UInt8),(8:UInt8),(8:UInt8),(8:UInt8),(8:UInt8),(8:UInt8),(8:UInt8),(8:UInt8),(8:UInt8),(8:UInt8),(8:UInt8),(8:UInt8),(8:UInt8),(8:UInt8),(8:UInt8)])).toArray).size:Int)) then k0 (i64.wrap (i64.wrap (i64.wrap ((32:Int)+(16:Int))+(8:Int))+i64.wrap (↑((ByteArray.mk (([(0:UInt8),(1:UInt8),(2:UInt8),(2:UInt8),(3:UInt8),(3:UInt8),(3:UInt8),(3:UInt8),(4:UInt8),(4:UInt8),(4:UInt8),(4:UInt8),(4:UInt8),(4:UInt8),(4:UInt8),(4:UInt8),(5:UInt8),(5:UInt8),(5:UInt8),(5:UInt8),(5:UInt8),(5:UInt8),(5:UInt8),(5:UInt8),(5:UInt8),(5:UInt8),(5:UInt8),(5:UInt8),(5:UInt8),(5:UInt8),(5:UInt8),(5:UInt8),(6:UInt8),(6:UInt8),(6:UInt8),(6:UInt8),(6:UInt8),(6:UInt8),(6:UInt8),(6:UInt8),(6:UInt8),(6:UInt8),(6:UInt8),(6:UInt8),(6:UInt8),(6:UInt8),(6:UInt8),(6:UInt8),(6:UInt8),(6:UInt8),(6:UInt8),(6:UInt8),(6:UInt8),(6:UInt8),(6:UInt8),(6:UInt8),(6:UInt8),(6:UInt8),(6:UInt8),(6:UInt8),(6:UInt8),(6:UInt8),(6:UInt8),(6:UInt8)].append [(7:UInt8),(7:UInt8),(7:UInt8),(7:UInt8),(7:UInt8),(7:UInt8),(7:UInt8),(7:UInt8),(7:UInt8),(7:UInt8),(7:UInt8),(7:UInt8),(7:UInt8),(7:UInt8),(7:UInt8),(7:UInt8),(7:UInt8),(7:UInt8),(7:UInt8),(7:UInt8),(7:UInt8),(7:UInt8),(7:UInt8),(7:UInt8),(7:UInt8),(7:UInt8),(7:UInt8),(7:UInt8),(7:UInt8),(7:UInt8),(7:UInt8),(7:UInt8),(7:UInt8),(7:UInt8),(7:UInt8),(7:UInt8),(7:UInt8),(7:UInt8),(7:UInt8),(7:UInt8),(7:UInt8),(7:UInt8),(7:UInt8),(7:UInt8),(7:UInt8),(7:UInt8),(7:UInt8),(7:UInt8),(7:UInt8),(7:UInt8),(7:UInt8),(7:UInt8),(7:UInt8),(7:UInt8),(7:UInt8),(7:UInt8),(7:UInt8),(7:UInt8),(7:UInt8),(7:UInt8),(7:UInt8),(7:UInt8),(7:UInt8),(7:UInt8)]).append ([(8:UInt8),(8:UInt8),(8:UInt8),(8:UInt8),(8:UInt8),(8:UInt8),(8:UInt8),(8:UInt8),(8:UInt8),(8:UInt8),(8:UInt8),(8:UInt8),(8:UInt8),(8:UInt8),(8:UInt8),(8:UInt8),(8:UInt8),(8:UInt8),(8:UInt8),(8:UInt8),(8:UInt8),(8:UInt8),(8:UInt8),(8:UInt8),(8:UInt8),(8:UInt8),(8:UInt8),(8:UInt8),(8:UInt8),(8:UInt8),(8:UInt8),(8:UInt8),(8:UInt8),(8:UInt8),(8:UInt8),(8:UInt8),(8:UInt8),(8:UInt8),(8:UInt8),(8:UInt8),(8:UInt8),(8:UInt8),(8:UInt8),(8:UInt8),(8:UInt8),(8:UInt8),(8:UInt8),(8:UInt8),(8:UInt8),(8:UInt8),(8:UInt8),(8:UInt8),(8:UInt8),(8:UInt8),(8:UInt8),(8:UInt8),(8:UInt8),(8:UInt8),(8:UInt8),(8:UInt8),(8:UInt8),(8:UInt8),(8:UInt8),(8:UInt8)].append [(8:UInt8),(8:UInt8),(8:UInt8),(8:UInt8),(8:UInt8),(8:UInt8),(8:UInt8),(8:UInt8),(8:UInt8),(8:UInt8),(8:UInt8),(8:UInt8),(8:UInt8),(8:UInt8),(8:UInt8),(8:UInt8),(8:UInt8),(8:UInt8),(8:UInt8),(8:UInt8),(8:UInt8),(8:UInt8),(8:UInt8),(8:UInt8),(8:UInt8),(8:UInt8),(8:UInt8),(8:UInt8),(8:UInt8),(8:UInt8),(8:UInt8),(8:UInt8),(8:UInt8),(8:UInt8),(8:UInt8),(8:UInt8),(8:UInt8),(8:UInt8),(8:UInt8),(8:UInt8),(8:UInt8),(8:UInt8),(8:UInt8),(8:UInt8),(8:UInt8),(8:UInt8),(8:UInt8),(8:UInt8),(8:UInt8),(8:UInt8),(8:UInt8),(8:UInt8),(8:UInt8),(8:UInt8),(8:UInt8),(8:UInt8),(8:UInt8),(8:UInt8),(8:UInt8),(8:UInt8),(8:UInt8),(8:UInt8),(8:UInt8),(8:UInt8)])).toArray).data.toList.getD (u8.wrap (Ev.ishr IntKind.u64 (Ev.ishr IntKind.u64 (Ev.ishr IntKind.u64 a (32:Int)) (16:Int)) (8:Int))).toNat (0:UInt8)).toNat:Int))) else none else bif decide (0≤u8.wrap (Ev.ishr IntKind.u64 (Ev.ishr IntKind.u64 a 32) 16)∧u8.wrap (Ev.ishr IntKind.u64 (Ev.ishr IntKind.u64 a 32) 16) < (↑(ByteArray.mk (([(0:UInt8),(1:UInt8),(2:UInt8),(2:UInt8),(3:UInt8),(3:UInt8),(3:UInt8),(3:UInt8),(4:UInt8),(4:UInt8),(4:UInt8),(4:UInt8),(4:UInt8),(4:UInt8),(4:UInt8),(4:UInt8),(5:UInt8),(5:UInt8),(5:UInt8),(5:UInt8),(5:UInt8),(5:UInt8),(5:UInt8),(5:UInt8),(5:UInt8),(5:UInt8),(5:UInt8),(5:UInt8),(5:UInt8),(5:UInt8),(5:UInt8),(5:UInt8),(6:UInt8),(6:UInt8),(6:UInt8),(6:UInt8),(6:UInt8),(6:UInt8),(6:UInt8),(6:UInt8),(6:UInt8),(6:UInt8),(6:UInt8),(6:UInt8),(6:UInt8),(6:UInt8),(6:UInt8),(6:UInt8),(6:UInt8),(6:UInt8),(6:UInt8),(6:UInt8),(6:UInt8),(6:UInt8),(6:UInt8),(6:UInt8),(6:UInt8),(6:UInt8),(6:UInt8),(6:UInt8),(6:UInt8),(6:UInt8),(6:UInt8),(6:UInt8)].append [(7:UInt8),(7:UInt8),(7:UInt8),(7:UInt8),(7:UInt8),(7:UInt8),(7:UInt8),(7:UInt8),(7:UInt8),(7:UInt8),(7:UInt8),(7:UInt8),(7:UInt8),(7:UInt8),(7:UInt8),(7:UInt8),(7:UInt8),(7:UInt8),(7:UInt8),(7:UInt8),(7:UInt8),(7:UInt8),(7:UInt8),(7:UInt8),(7:UInt8),(7:UInt8),(7:UInt8),(7:UInt8),(7:UInt8),(7:UInt8),(7:UInt8),(7:UInt8),(7:UInt8),(7:UInt8),(7:UInt8),(7:UInt8),(7:UInt8),(7:UInt8),(7:UInt8),(7:UInt8),(7:UInt8),(7:UInt8),(7:UInt8),(7:UInt8),(7:UInt8),(7:UInt8),(7:UInt8),(7:UInt8),(7:UInt8),(7:UInt8),(7:UInt8),(7:UInt8),(7:UInt8),(7:UInt8),(7:UInt8),(7:UInt8),(7:UInt8),(7:UInt8),(7:UInt8),(7:UInt8),(7:UInt8),(7:UInt8),(7:UInt8),(7:UInt8)]).append ([(8:UInt8),(8:UInt8),(8:UInt8),(8:UInt8),(8:UInt8),(8:UInt8),(8:UInt8),(8:UInt8),(8:UInt8),(8:UInt8),(8:UInt8),(8:UInt8),(8:UInt8),(8:UInt8),(8:UInt8),(8:UInt8),(8:UInt8),(8:UInt8),(8:UInt8),(8:UInt8),(8:UInt8),(8:UInt8),(8:UInt8),(8:UInt8),(8:UInt8),(8:UInt8),(8:UInt8),(8:UInt8),(8:UInt8),(8:UInt8),(8:UInt8),(8:UInt8),(8:UInt8),(8:UInt8),(8:UInt8),(8:UInt8),(8:UInt8),(8:UInt8),(8:UInt8),(8:UInt8),(8:UInt8),(8:UInt8),(8:UInt8),(8:UInt8),(8:UInt8),(8:UInt8),(8:UInt8),(8:UInt8),(8:UInt8),(8:UInt8),(8:UInt8),(8:UInt8),(8:UInt8),(8:UInt8),(8:UInt8),(8:UInt8),(8:UInt8),(8:UInt8),(8:UInt8),(8:UInt8),(8:UInt8),(8:UInt8),(8:UInt8),(8:UInt8)].append [(8:UInt8),(8:UInt8),(8:UInt8),(8:UInt8),(8:UInt8),(8:UInt8),(8:UInt8),(8:UInt8),(8:UInt8),(8:UInt8),(8:UInt8),(8:UInt8),(8:UInt8),(8:UInt8),(8:UInt8),(8:UInt8),(8:UInt8),(8:UInt8),(8:UInt8),(8:UInt8),(8:UInt8),(8:UInt8),(8:UInt8),(8:UInt8),(8:UInt8),(8:UInt8),(8:UInt8),(8:UInt8),(8:UInt8),(8:UInt8),(8:UInt8),(8:UInt8),(8:UInt8),(8:UInt8),(8:UInt8),(8:UInt8),(8:UInt8),(8:UInt8),(8:UInt8),(8:UInt8),(8:UInt8),(8:UInt8),(8:UInt8),(8:UInt8),(8:UInt8),(8:UInt8),(8:UInt8),(8:UInt8),(8:UInt8),(8:UInt8),(8:UInt8),(8:UInt8),(8:UInt8),(8:UInt8),(8:UInt8),(8:UInt8),(8:UInt8),(8:UInt8),(8:UInt8),(8:UInt8),(8:UInt8),(8:UInt8),(8:UInt8),(8:UInt8)])).toArray).size:Int)) then k0 (i64.wrap (i64.wrap ((32:Int)+(16:Int))+i64.wrap (↑((ByteArray.mk (([(0:UInt8),(1:UInt8),(2:UInt8),(2:UInt8),(3:UInt8),(3:UInt8),(3:UInt8),(3:UInt8),(4:UInt8),(4:UInt8),(4:UInt8),(4:UInt8),(4:UInt8),(4:UInt8),(4:UInt8),(4:UInt8),(5:UInt8),(5:UInt8),(5:UInt8),(5:UInt8),(5:UInt8),(5:UInt8),(5:UInt8),(5:UInt8),(5:UInt8),(5:UInt8),(5:UInt8),(5:UInt8),(5:UInt8),(5:UInt8),(5:UInt8),(5:UInt8),(6:UInt8),(6:UInt8),(6:UInt8),(6:UInt8),(6:UInt8),(6:UInt8),(6:UInt8),(6:UInt8),(6:UInt8),(6:UInt8),(6:UInt8),(6:UInt8),(6:UInt8),(6:UInt8),(6:UInt8),(6:UInt8),(6:UInt8),(6:UInt8),(6:UInt8),(6:UInt8),(6:UInt8),(6:UInt8),(6:UInt8),(6:UInt8),(6:UInt8),(6:UInt8),(6:UInt8),(6:UInt8),(6:UInt8),(6:UInt8),(6:UInt8),(6:UInt8)].append [(7:UInt8),(7:UInt8),(7:UInt8),(7:UInt8),(7:UInt8),(7:UInt8),(7:UInt8),(7:UInt8),(7:UInt8),(7:UInt8),(7:UInt8),(7:UInt8),(7:UInt8),(7:UInt8),(7:UInt8),(7:UInt8),(7:UInt8),(7:UInt8),(7:UInt8),(7:UInt8),(7:UInt8),(7:UInt8),(7:UInt8),(7:UInt8),(7:UInt8),(7:UInt8),(7:UInt8),(7:UInt8),(7:UInt8),(7:UInt8),(7:UInt8),(7:UInt8),(7:UInt8),(7:UInt8),(7:UInt8),(7:UInt8),(7:UInt8),(7:UInt8),(7:UInt8),(7:UInt8),(7:UInt8),(7:UInt8),(7:UInt8),(7:UInt8),(7:UInt8),(7:UInt8),(7:UInt8),(7:UInt8),(7:UInt8),(7:UInt8),(7:UInt8),(7:UInt8),(7:UInt8),(7:UInt8),(7:UInt8),(7:UInt8),(7:UInt8),(7:UInt8),(7:UInt8),(7:UInt8),(7:UInt8),(7:UInt8),(7:UInt8),(7:UInt8)]).append ([(8:UInt8),(8:UInt8),(8:UInt8),(8:UInt8),(8:UInt8),(8:UInt8),(8:UInt8),(8:UInt8),(8:UInt8),(8:UInt8),(8:UInt8),(8:UInt8),(8:UInt8),(8:UInt8),(8:UInt8),(8:UInt8),(8:UInt8),(8:UInt8),(8:UInt8),(8:UInt8),(8:UInt8),(8:UInt8),(8:UInt8),(8:UInt8),(8:UInt8),(8:UInt8),(8:UInt8),(8:UInt8),(8:UInt8),(8:UInt8),(8:UInt8),(8:UInt8),(8:UInt8),(8:UInt8),(8:UInt8),(8:UInt8),(8:UInt8),(8:UInt8),(8:UInt8),(8:UInt8),(8:UInt8),(8:UInt8),(8:UInt8),(8:UInt8),(8:UInt8),(8:UInt8),(8:UInt8),(8:UInt8),(8:UInt8),(8:UInt8),(8:UInt8),(8:UInt8),(8:UInt8),(8:UInt8),(8:UInt8),(8:UInt8),(8:UInt8),(8:UInt8),(8:UInt8),(8:UInt8),(8:UInt8),(8:UInt8),(8:UInt8),(8:UInt8)].append [(8:UInt8),(8:UInt8),(8:UInt8),(8:UInt8),(8:UInt8),(8:UInt8),(8:UInt8),(8:UInt8),(8:UInt8),(8:UInt8),(8:UInt8),(8:UInt8),(8:UInt8),(8:UInt8),(8:UInt8),(8:UInt8),(8:UInt8),(8:UInt8),(8:UInt8),(8:UInt8),(8:UInt8),(8:UInt8),(8:UInt8),(8:UInt8),(8:UInt8),(8:UInt8),(8:UInt8),(8:UInt8),(8:UInt8),(8:UInt8),(8:UInt8),(8:UInt8),(8:UInt8),(8:UInt8),(8:UInt8),(8:UInt8),(8:UInt8),(8:UInt8),(8:UInt8),(8:UInt8),(8:UInt8),(8:UInt8),(8:UInt8),(8:UInt8),(8:UInt8),(8:UInt8),(8:UInt8),(8:UInt8),(8:UInt8),(8:UInt8),(8:UInt8),(8:UInt8),(8:UInt8),(8:UInt8),(8:UInt8),(8:UInt8),(8:UInt8),(8:UInt8),(8:UInt8),(8:UInt8),(8:UInt8),(8:UInt8),(8:UInt8),(8:UInt8)])).toArray).data.toList.getD (u8.wrap (Ev.ishr IntKind.u64 (Ev.ishr IntKind.u64 a (32:Int)) (16:Int))).toNat (0:UInt8)).toNat:Int))) else none else bif decide (Ev.ishr IntKind.u64 a (32:Int)≥(256:Int)) then bif decide (0≤u8.wrap (Ev.ishr IntKind.u64 (Ev.ishr IntKind.u64 a 32) 8)∧u8.wrap (Ev.ishr IntKind.u64 (Ev.ishr IntKind.u64 a 32) 8) < (↑(ByteArray.mk (([(0:UInt8),(1:UInt8),(2:UInt8),(2:UInt8),(3:UInt8),(3:UInt8),(3:UInt8),(3:UInt8),(4:UInt8),(4:UInt8),(4:UInt8),(4:UInt8),(4:UInt8),(4:UInt8),(4:UInt8),(4:UInt8),(5:UInt8),(5:UInt8),(5:UInt8),(5:UInt8),(5:UInt8),(5:UInt8),(5:UInt8),(5:UInt8),(5:UInt8),(5:UInt8),(5:UInt8),(5:UInt8),(5:UInt8),(5:UInt8),(5:UInt8),(5:UInt8),(6:UInt8),(6:UInt8),(6:UInt8),(6:UInt8),(6:UInt8),(6:UInt8),(6:UInt8),(6:UInt8),(6:UInt8),(6:UInt8),(6:UInt8),(6:UInt8),(6:UInt8),(6:UInt8),(6:UInt8),(6:UInt8),(6:UInt8),(6:UInt8),(6:UInt8),(6:UInt8),(6:UInt8),(6:UInt8),(6:UInt8),(6:UInt8),(6:UInt8),(6:UInt8),(6:UInt8),(6:UInt8),(6:UInt8),(6:UInt8),(6:UInt8),(6:UInt8)].append [(7:UInt8),(7:UInt8),(7:UInt8),(7:UInt8),(7:UInt8),(7:UInt8),(7:UInt8),(7:UInt8),(7:UInt8),(7:UInt8),(7:UInt8),(7:UInt8),(7:UInt8),(7:UInt8),(7:UInt8),(7:UInt8),(7:UInt8),(7:UInt8),(7:UInt8),(7:UInt8),(7:UInt8),(7:UInt8),(7:UInt8),(7:UInt8),(7:UInt8),(7:UInt8),(7:UInt8),(7:UInt8),(7:UInt8),(7:UInt8),(7:UInt8),(7:UInt8),(7:UInt8),(7:UInt8),(7:UInt8),(7:UInt8),(7:UInt8),(7:UInt8),(7:UInt8),(7:UInt8),(7:UInt8),(7:UInt8),(7:UInt8),(7:UInt8),(7:UInt8),(7:UInt8),(7:UInt8),(7:UInt8),(7:UInt8),(7:UInt8),(7:UInt8),(7:UInt8),(7:UInt8),(7:UInt8),(7:UInt8),(7:UInt8),(7:UInt8),(7:UInt8),(7:UInt8),(7:UInt8),(7:UInt8),(7:UInt8),(7:UInt8),(7:UInt8)]).append ([(8:UInt8),(8:UInt8),(8:UInt8),(8:UInt8),(8:UInt8),(8:UInt8),(8:UInt8),(8:UInt8),(8:UInt8),(8:UInt8),(8:UInt8),(8:UInt8),(8:UInt8),(8:UInt8),(8:UInt8),(8:UInt8),(8:UInt8),(8:UInt8),(8:UInt8),(8:UInt8),(8:UInt8),(8:UInt8),(8:UInt8),(8:UInt8),(8:UInt8),(8:UInt8),(8:UInt8),(8:UInt8),(8:UInt8),(8:UInt8),(8:UInt8),(8:UInt8),(8:UInt8),(8:UInt8),(8:UInt8),(8:UInt8),(8:UInt8),(8:UInt8),(8:UInt8),(8:UInt8),(8:UInt8),(8:UInt8),(8:UInt8),(8:UInt8),(8:UInt8),(8:UInt8),(8:UInt8),(8:UInt8),(8:UInt8),(8:UInt8),(8:UInt8),(8:UInt8),(8:UInt8),(8:UInt8),(8:UInt8),(8:UInt8),(8:UInt8),(8:UInt8),(8:UInt8),(8:UInt8),(8:UInt8),(8:UInt8),(8:UInt8),(8:UInt8)].append [(8:UInt8),(8:UInt8),(8:UInt8),(8:UInt8),(8:UInt8),(8:UInt8),(8:UInt8),(8:UInt8),(8:UInt8),(8:UInt8),(8:UInt8),(8:UInt8),(8:UInt8),(8:UInt8),(8:UInt8),(8:UInt8),(8:UInt8),(8:UInt8),(8:UInt8),(8:UInt8),(8:UInt8),(8:UInt8),(8:UInt8),(8:UInt8),(8:UInt8),(8:UInt8),(8:UInt8),(8:UInt8),(8:UInt8),(8:UInt8),(8:UInt8),(8:UInt8),(8:UInt8),(8:UInt8),(8:UInt8),(8:UInt8),(8:UInt8),(8:UInt8),(8:UInt8),(8:UInt8),(8:UInt8),(8:UInt8),(8:UInt8),(8:UInt8),(8:UInt8),(8:UInt8),(8:UInt8),(8:UInt8),(8:UInt8),(8:UInt8),(8:UInt8),(8:UInt8),(8:UInt8),(8:UInt8),(8:UInt8),(8:UInt8),(8:UInt8),(8:UInt8),(8:UInt8),(8:UInt8),(8:UInt8),(8:UInt8),(8:UInt8),(8:UInt8)])).toArray).size:Int)) then k0 (i64.wrap (i64.wrap ((32:Int)+(8:Int))+i64.wrap (↑((ByteArray.mk (([(0:UInt8),(1:UInt8),(2:UInt8),(2:UInt8),(3:UInt8),(3:UInt8),(3:UInt8),(3:UInt8),(4:UInt8),(4:UInt8),(4:UInt8),(4:UInt8),(4:UInt8),(4:UInt8),(4:UInt8),(4:UInt8),(5:UInt8),(5:UInt8),(5:UInt8),(5:UInt8),(5:UInt8),(5:UInt8),(5:UInt8),(5:UInt8),(5:UInt8),(5:UInt8),(5:UInt8),(5:UInt8),(5:UInt8),(5:UInt8),(5:UInt8),(5:UInt8),(6:UInt8),(6:UInt8),(6:UInt8),(6:UInt8),(6:UInt8),(6:UInt8),(6:UInt8),(6:UInt8),(6:UInt8),(6:UInt8),(6:UInt8),(6:UInt8),(6:UInt8),(6:UInt8),(6:UInt8),(6:UInt8),(6:UInt8),(6:UInt8),(6:UInt8),(6:UInt8),(6:UInt8),(6:UInt8),(6:UInt8),(6:UInt8),(6:UInt8),(6:UInt8),(6:UInt8),(6:UInt8),(6:UInt8),(6:UInt8),(6:UInt8),(6:UInt8)].append [(7:UInt8),(7:UInt8),(7:UInt8),(7:UInt8),(7:UInt8),(7:UInt8),(7:UInt8),(7:UInt8),(7:UInt8),(7:UInt8),(7:UInt8),(7:UInt8),(7:UInt8),(7:UInt8),(7:UInt8),(7:UInt8),(7:UInt8),(7:UInt8),(7:UInt8),(7:UInt8),(7:UInt8),(7:UInt8),(7:UInt8),(7:UInt8),(7:UInt8),(7:UInt8),(7:UInt8),(7:UInt8),(7:UInt8),(7:UInt8),(7:UInt8),(7:UInt8),(7:UInt8),(7:UInt8),(7:UInt8),(7:UInt8),(7:UInt8),(7:UInt8),(7:UInt8),(7:UInt8),(7:UInt8),(7:UInt8),(7:UInt8),(7:UInt8),(7:UInt8),(7:UInt8),(7:UInt8),(7:UInt8),(7:UInt8),(7:UInt8),(7:UInt8),(7:UInt8),(7:UInt8),(7:UInt8),(7:UInt8),(7:UInt8),(7:UInt8),(7:UInt8),(7:UInt8),(7:UInt8),(7:UInt8),(7:UInt8),(7:UInt8),(7:UInt8)]).append ([(8:UInt8),(8:UInt8),(8:UInt8),(8:UInt8),(8:UInt8),(8:UInt8),(8:UInt8),(8:UInt8),(8:UInt8),(8:UInt8),(8:UInt8),(8:UInt8),(8:UInt8),(8:UInt8),(8:UInt8),(8:UInt8),(8:UInt8),(8:UInt8),(8:UInt8),(8:UInt8),(8:UInt8),(8:UInt8),(8:UInt8),(8:UInt8),(8:UInt8),(8:UInt8),(8:UInt8),(8:UInt8),(8:UInt8),(8:UInt8),(8:UInt8),(8:UInt8),(8:UInt8),(8:UInt8),(8:UInt8),(8:UInt8),(8:UInt8),(8:UInt8),(8:UInt8),(8:UInt8),(8:UInt8),(8:UInt8),(8:UInt8),(8:UInt8),(8:UInt8),(8:UInt8),(8:UInt8),(8:UInt8),(8:UInt8),(8:UInt8),(8:UInt8),(8:UInt8),(8:UInt8),(8:UInt8),(8:UInt8),(8:UInt8),(8:UInt8),(8:UInt8),(8:UInt8),(8:UInt8),(8:UInt8),(8:UInt8),(8:UInt8),(8:UInt8)].append [(8:UInt8),(8:UInt8),(8:UInt8),(8:UInt8),(8:UInt8),(8:UInt8),(8:UInt8),(8:UInt8),(8:UInt8),(8:UInt8),(8:UInt8),(8:UInt8),(8:UInt8),(8:UInt8),(8:UInt8),(8:UInt8),(8:UInt8),(8:UInt8),(8:UInt8),(8:UInt8),(8:UInt8),(8:UInt8),(8:UInt8),(8:UInt8),(8:UInt8),(8:UInt8),(8:UInt8),(8:UInt8),(8:UInt8),(8:UInt8),(8:UInt8),(8:UInt8),(8:UInt8),(8:UInt8),(8:UInt8),(8:UInt8),(8:UInt8),(8:UInt8),(8:UInt8),(8:UInt8),(8:UInt8),(8:UInt8),(8:UInt8),(8:UInt8),(8:UInt8),(8:UInt8),(8:UInt8),(8:UInt8),(8:UInt8),(8:UInt8),(8:UInt8),(8:UInt8),(8:UInt8),(8:UInt8),(8:UInt8),(8:UInt8),(8:UInt8),(8:UInt8),(8:UInt8),(8:UInt8),(8:UInt8),(8:UInt8),(8:UInt8),(8:UInt8)])).toArray).data.toList.getD (u8.wrap (Ev.ishr IntKind.u64 (Ev.ishr IntKind.u64 a (32:Int)) (8:Int))).toNat (0:UInt8)).toNat:Int))) else none else bif decide (0≤u8.wrap (Ev.ishr IntKind.u64 a 32)∧u8.wrap (Ev.ishr IntKind.u64 a 32) < (↑(ByteArray.mk (([(0:UInt8),(1:UInt8),(2:UInt8),(2:UInt8),(3:UInt8),(3:UInt8),(3:UInt8),(3:UInt8),(4:UInt8),(4:UInt8),(4:UInt8),(4:UInt8),(4:UInt8),(4:UInt8),(4:UInt8),(4:UInt8),(5:UInt8),(5:UInt8),(5:UInt8),(5:UInt8),(5:UInt8),(5:UInt8),(5:UInt8),(5:UInt8),(5:UInt8),(5:UInt8),(5:UInt8),(5:UInt8),(5:UInt8),(5:UInt8),(5:UInt8),(5:UInt8),(6:UInt8),(6:UInt8),(6:UInt8),(6:UInt8),(6:UInt8),(6:UInt8),(6:UInt8),(6:UInt8),(6:UInt8),(6:UInt8),(6:UInt8),(6:UInt8),(6:UInt8),(6:UInt8),(6:UInt8),(6:UInt8),(6:UInt8),(6:UInt8),(6:UInt8),(6:UInt8),(6:UInt8),(6:UInt8),(6:UInt8),(6:UInt8),(6:UInt8),(6:UInt8),(6:UInt8),(6:UInt8),(6:UInt8),(6:UInt8),(6:UInt8),(6:UInt8)].append [(7:UInt8),(7:UInt8),(7:UInt8),(7:UInt8),(7:UInt8),(7:UInt8),(7:UInt8),(7:UInt8),(7:UInt8),(7:UInt8),(7:UInt8),(7:UInt8),(7:UInt8),(7:UInt8),(7:UInt8),(7:UInt8),(7:UInt8),(7:UInt8),(7:UInt8),(7:UInt8),(7:UInt8),(7:UInt8),(7:UInt8),(7:UInt8),(7:UInt8),(7:UInt8),(7:UInt8),(7:UInt8),(7:UInt8),(7:UInt8),(7:UInt8),(7:UInt8),(7:UInt8),(7:UInt8),(7:UInt8),(7:UInt8),(7:UInt8),(7:UInt8),(7:UInt8),(7:UInt8),(7:UInt8),(7:UInt8),(7:UInt8),(7:UInt8),(7:UInt8),(7:UInt8),(7:UInt8),(7:UInt8),(7:UInt8),(7:UInt8),(7:UInt8),(7:UInt8),(7:UInt8),(7:UInt8),(7:UInt8),(7:UInt8),(7:UInt8),(7:UInt8),(7:UInt8),(7:UInt8),(7:UInt8),(7:UInt8),(7:UInt8),(7:UInt8)]).append ([(8:UInt8),(8:UInt8),(8:UInt8),(8:UInt8),(8:UInt8),(8:UInt8),(8:UInt8),(8:UInt8),(8:UInt8),(8:UInt8),(8:UInt8),(8:UInt8),(8:UInt8),(8:UInt8),(8:UInt8),(8:UInt8),(8:UInt8),(8:UInt8),(8:UInt8),(8:UInt8),(8:UInt8),(8:UInt8),(8:UInt8),(8:UInt8),(8:UInt8),(8:UInt8),(8:UInt8),(8:UInt8),(8:UInt8),(8:UInt8),(8:UInt8),(8:UInt8),(8:UInt8),(8:UInt8),(8:UInt8),(8:UInt8),(8:UInt8),(8:UInt8),(8:UInt8),(8:UInt8),(8:UInt8),(8:UInt8),(8:UInt8),(8:UInt8),(8:UInt8),(8:UInt8),(8:UInt8),(8:UInt8),(8:UInt8),(8:UInt8),(8:UInt8),(8:UInt8),(8:UInt8),(8:UInt8),(8:UInt8),(8:UInt8),(8:UInt8),(8:UInt8),(8:UInt8),(8:UInt8),(8:UInt8),(8:UInt8),(8:UInt8),(8:UInt8)].append [(8:UInt8),(8:UInt8),(8:UInt8),(8:UInt8),(8:UInt8),(8:UInt8),(8:UInt8),(8:UInt8),(8:UInt8),(8:UInt8),(8:UInt8),(8:UInt8),(8:UInt8),(8:UInt8),(8:UInt8),(8:UInt8),(8:UInt8),(8:UInt8),(8:UInt8),(8:UInt8),(8:UInt8),(8:UInt8),(8:UInt8),(8:UInt8),(8:UInt8),(8:UInt8),(8:UInt8),(8:UInt8),(8:UInt8),(8:UInt8),(8:UInt8),(8:UInt8),(8:UInt8),(8:UInt8),(8:UInt8),(8:UInt8),(8:UInt8),(8:UInt8),(8:UInt8),(8:UInt8),(8:UInt8),(8:UInt8),(8:UInt8),(8:UInt8),(8:UInt8),(8:UInt8),(8:UInt8),(8:UInt8),(8:UInt8),(8:UInt8),(8:UInt8),(8:UInt8),(8:UInt8),(8:UInt8),(8:UInt8),(8:UInt8),(8:UInt8),(8:UInt8),(8:UInt8),(8:UInt8),(8:UInt8),(8:UInt8),(8:UInt8),(8:UInt8)])).toArray).size:Int)) then k0 (i64.wrap (32+i64.wrap (↑((ByteArray.mk (([(0:UInt8),(1:UInt8),(2:UInt8),(2:UInt8),(3:UInt8),(3:UInt8),(3:UInt8),(3:UInt8),(4:UInt8),(4:UInt8),(4:UInt8),(4:UInt8),(4:UInt8),(4:UInt8),(4:UInt8),(4:UInt8),(5:UInt8),(5:UInt8),(5:UInt8),(5:UInt8),(5:UInt8),(5:UInt8),(5:UInt8),(5:UInt8),(5:UInt8),(5:UInt8),(5:UInt8),(5:UInt8),(5:UInt8),(5:UInt8),(5:UInt8),(5:UInt8),(6:UInt8),(6:UInt8),(6:UInt8),(6:UInt8),(6:UInt8),(6:UInt8),(6:UInt8),(6:UInt8),(6:UInt8),(6:UInt8),(6:UInt8),(6:UInt8),(6:UInt8),(6:UInt8),(6:UInt8),(6:UInt8),(6:UInt8),(6:UInt8),(6:UInt8),(6:UInt8),(6:UInt8),(6:UInt8),(6:UInt8),(6:UInt8),(6:UInt8),(6:UInt8),(6:UInt8),(6:UInt8),(6:UInt8),(6:UInt8),(6:UInt8),(6:UInt8)].append [(7:UInt8),(7:UInt8),(7:UInt8),(7:UInt8),(7:UInt8),(7:UInt8),(7:UInt8),(7:UInt8),(7:UInt8),(7:UInt8),(7:UInt8),(7:UInt8),(7:UInt8),(7:UInt8),(7:UInt8),(7:UInt8),(7:UInt8),(7:UInt8),(7:UInt8),(7:UInt8),(7:UInt8),(7:UInt8),(7:UInt8),(7:UInt8),(7:UInt8),(7:UInt8),(7:UInt8),(7:UInt8),(7:UInt8),(7:UInt8),(7:UInt8),(7:UInt8),(7:UInt8),(7:UInt8),(7:UInt8),(7:UInt8),(7:UInt8),(7:UInt8),(7:UInt8),(7:UInt8),(7:UInt8),(7:UInt8),(7:UInt8),(7:UInt8),(7:UInt8),(7:UInt8),(7:UInt8),(7:UInt8),(7:UInt8),(7:UInt8),(7:UInt8),(7:UInt8),(7:UInt8),(7:UInt8),(7:UInt8),(7:UInt8),(7:UInt8),(7:UInt8),(7:UInt8),(7:UInt8),(7:UInt8),(7:UInt8),(7:UInt8),(7:UInt8)]).append ([(8:UInt8),(8:UInt8),(8:UInt8),(8:UInt8),(8:UInt8),(8:UInt8),(8:UInt8),(8:UInt8),(8:UInt8),(8:UInt8),(8:UInt8),(8:UInt8),(8:UInt8),(8:UInt8),(8:UInt8),(8:UInt8),(8:UInt8),(8:UInt8),(8:UInt8),(8:UInt8),(8:UInt8),(8:UInt8),(8:UInt8),(8:UInt8),(8:UInt8),(8:UInt8),(8:UInt8),(8:UInt8),(8:UInt8),(8:UInt8),(8:UInt8),(8:UInt8),(8:UInt8),(8:UInt8),(8:UInt8),(8:UInt8),(8:UInt8),(8:UInt8),(8:UInt8),(8:UInt8),(8:UInt8),(8:UInt8),(8:UInt8),(8:UInt8),(8:UInt8),(8:UInt8),(8:UInt8),(8:UInt8),(8:UInt8),(8:UInt8),(8:UInt8),(8:UInt8),(8:UInt8),(8:UInt8),(8:UInt8),(8:UInt8),(8:UInt8),(8:UInt8),(8:UInt8),(8:UInt8),(8:UInt8),(8:UInt8),(8:UInt8),(8:UInt8)].append [(8:UInt8),(8:UInt8),(8:UInt8),(8:UInt8),(8:UInt8),(8:UInt8),(8:UInt8),(8:UInt8),(8:UInt8),(8:UInt8),(8:UInt8),(8:UInt8),(8:UInt8),(8:UInt8),(8:UInt8),(8:UInt8),(8:UInt8),(8:UInt8),(8:UInt8),(8:UInt8),(8:UInt8),(8:UInt8),(8:UInt8),(8:UInt8),(8:UInt8),(8:UInt8),(8:UInt8),(8:UInt8),(8:UInt8),(8:UInt8),(8:UInt8),(8:UInt8),(8:UInt8),(8:UInt8),(8:UInt8),(8:UInt8),(8:UInt8),(8:UInt8),(8:UInt8),(8:UInt8),(8:UInt8),(8:UInt8),(8:UInt8),(8:UInt8),(8:UInt8),(8:UInt8),(8:UInt8),(8:UInt8),(8:UInt8),(8:UInt8),(8:UInt8),(8:UInt8),(8:UInt8),(8:UInt8),(8:UInt8),(8:UInt8),(8:UInt8),(8:UInt8),(8:UInt8),(8:UInt8),(8:UInt8),(8:UInt8),(8:UInt8),(8:UInt8)])).toArray).data.toList.getD (u8.wrap (Ev.ishr IntKind.u64 a 32)).toNat (0:UInt8)).toNat:Int))) else none else bif decide (a≥65536) then bif decide (Ev.ishr IntKind.u64 a (16:Int)≥(256:Int)) then bif decide (0≤u8.wrap (Ev.ishr IntKind.u64 (Ev.ishr IntKind.u64 a 16) 8)∧u8.wrap (Ev.ishr IntKind.u64 (Ev.ishr IntKind.u64 a 16) 8) < (↑(ByteArray.mk (([(0:UInt8),(1:UInt8),(2:UInt8),(2:UInt8),(3:UInt8),(3:UInt8),(3:UInt8),(3:UInt8),(4:UInt8),(4:UInt8),(4:UInt8),(4:UInt8),(4:UInt8),(4:UInt8),(4:UInt8),(4:UInt8),(5:UInt8),(5:UInt8),(5:UInt8),(5:UInt8),(5:UInt8),(5:UInt8),(5:UInt8),(5:UInt8),(5:UInt8),(5:UInt8),(5:UInt8),(5:UInt8),(5:UInt8),(5:UInt8),(5:UInt8),(5:UInt8),(6:UInt8),(6:UInt8),(6:UInt8),(6:UInt8),(6:UInt8),(6:UInt8),(6:UInt8),(6:UInt8),(6:UInt8),(6:UInt8),(6:UInt8),(6:UInt8),(6:UInt8),(6:UInt8),(6:UInt8),(6:UInt8),(6:UInt8),(6:UInt8),(6:UInt8),(6:UInt8),(6:UInt8),(6:UInt8),(6:UInt8),(6:UInt8),(6:UInt8),(6:UInt8),(6:UInt8),(6:UInt8),(6:UInt8),(6:UInt8),(6:UInt8),(6:UInt8)].append [(7:UInt8),(7:UInt8),(7:UInt8),(7:UInt8),(7:UInt8),(7:UInt8),(7:UInt8),(7:UInt8),(7:UInt8),(7:UInt8),(7:UInt8),(7:UInt8),(7:UInt8),(7:UInt8),(7:UInt8),(7:UInt8),(7:UInt8),(7:UInt8),(7:UInt8),(7:UInt8),(7:UInt8),(7:UInt8),(7:UInt8),(7:UInt8),(7:UInt8),(7:UInt8),(7:UInt8),(7:UInt8),(7:UInt8),(7:UInt8),(7:UInt8),(7:UInt8),(7:UInt8),(7:UInt8),(7:UInt8),(7:UInt8),(7:UInt8),(7:UInt8),(7:UInt8),(7:UInt8),(7:UInt8),(7:UInt8),(7:UInt8),(7:UInt8),(7:UInt8),(7:UInt8),(7:UInt8),(7:UInt8),(7:UInt8),(7:UInt8),(7:UInt8),(7:UInt8),(7:UInt8),(7:UInt8),(7:UInt8),(7:UInt8),(7:UInt8),(7:UInt8),(7:UInt8),(7:UInt8),(7:UInt8),(7:UInt8),(7:UInt8),(7:UInt8)]).append ([(8:UInt8),(8:UInt8),(8:UInt8),(8:UInt8),(8:UInt8),(8:UInt8),(8:UInt8),(8:UInt8),(8:UInt8),(8:UInt8),(8:UInt8),(8:UInt8),(8:UInt8),(8:UInt8),(8:UInt8),(8:UInt8),(8:UInt8),(8:UInt8),(8:UInt8),(8:UInt8),(8:UInt8),(8:UInt8),(8:UInt8),(8:UInt8),(8:UInt8),(8:UInt8),(8:UInt8),(8:UInt8),(8:UInt8),(8:UInt8),(8:UInt8),(8:UInt8),(8:UInt8),(8:UInt8),(8:UInt8),(8:UInt8),(8:UInt8),(8:UInt8),(8:UInt8),(8:UInt8),(8:UInt8),(8:UInt8),(8:UInt8),(8:UInt8),(8:UInt8),(8:UInt8),(8:UInt8),(8:UInt8),(8:UInt8),(8:UInt8),(8:UInt8),(8:UInt8),(8:UInt8),(8:UInt8),(8:UInt8),(8:UInt8),(8:UInt8),(8:UInt8),(8:UInt8),(8:UInt8),(8:UInt8),(8:UInt8),(8:UInt8),(8:UInt8)].append [(8:UInt8),(8:UInt8),(8:UInt8),(8:UInt8),(8:UInt8),(8:UInt8),(8:UInt8),(8:UInt8),(8:UInt8),(8:UInt8),(8:UInt8),(8:UInt8),(8:UInt8),(8:UInt8),(8:UInt8),(8:UInt8),(8:UInt8),(8:UInt8),(8:UInt8),(8:UInt8),(8:UInt8),(8:UInt8),(8:UInt8),(8:UInt8),(8:UInt8),(8:UInt8),(8:UInt8),(8:UInt8),(8:UInt8),(8:UInt8),(8:UInt8),(8:UInt8),(8:UInt8),(8:UInt8),(8:UInt8),(8:UInt8),(8:UInt8),(8:UInt8),(8:UInt8),(8:UInt8),(8:UInt8),(8:UInt8),(8:UInt8),(8:UInt8),(8:UInt8),(8:UInt8),(8:UInt8),(8:UInt8),(8:UInt8),(8:UInt8),(8:UInt8),(8:UInt8),(8:UInt8),(8:UInt8),(8:UInt8),(8:UInt8),(8:UInt8),(8:UInt8),(8:UInt8),(8:UInt8),(8:UInt8),(8:UInt8),(8:UInt8),(8:UInt8)])).toArray).size:Int)) then k0 (i64.wrap (i64.wrap (i64.wrap ((0:Int)+(16:Int))+(8:Int))+i64.wrap (↑((ByteArray.mk (([(0:UInt8),(1:UInt8),(2:UInt8),(2:UInt8),(3:UInt8),(3:UInt8),(3:UInt8),(3:UInt8),(4:UInt8),(4:UInt8),(4:UInt8),(4:UInt8),(4:UInt8),(4:UInt8),(4:UInt8),(4:UInt8),(5:UInt8),(5:UInt8),(5:UInt8),(5:UInt8),(5:UInt8),(5:UInt8),(5:UInt8),(5:UInt8),(5:UInt8),(5:UInt8),(5:UInt8),(5:UInt8),(5:UInt8),(5:UInt8),(5:UInt8),(5:UInt8),(6:UInt8),(6:UInt8),(6:UInt8),(6:UInt8),(6:UInt8),(6:UInt8),(6:UInt8),(6:UInt8),(6:UInt8),(6:UInt8),(6:UInt8),(6:UInt8),(6:UInt8),(6:UInt8),(6:UInt8),(6:UInt8),(6:UInt8),(6:UInt8),(6:UInt8),(6:UInt8),(6:UInt8),(6:UInt8),(6:UInt8),(6:UInt8),(6:UInt8),(6:UInt8),(6:UInt8),(6:UInt8),(6:UInt8),(6:UInt8),(6:UInt8),(6:UInt8)].append [(7:UInt8),(7:UInt8),(7:UInt8),(7:UInt8),(7:UInt8),(7:UInt8),(7:UInt8),(7:UInt8),(7:UInt8),(7:UInt8),(7:UInt8),(7:UInt8),(7:UInt8),(7:UInt8),(7:UInt8),(7:UInt8),(7:UInt8),(7:UInt8),(7:UInt8),(7:UInt8),(7:UInt8),(7:UInt8),(7:UInt8),(7:UInt8),(7:UInt8),(7:UInt8),(7:UInt8),(7:UInt8),(7:UInt8),(7:UInt8),(7:UInt8),(7:UInt8),(7:UInt8),(7:UInt8),(7:UInt8),(7:UInt8),(7:UInt8),(7:UInt8),(7:UInt8),(7:UInt8),(7:UInt8),(7:UInt8),(7:UInt8),(7:UInt8),(7:UInt8),(7:UInt8),(7:UInt8),(7:UInt8),(7:UInt8),(7:UInt8),(7:UInt8),(7:UInt8),(7:UInt8),(7:UInt8),(7:UInt8),(7:UInt8),(7:UInt8),(7:UInt8),(7:UInt8),(7:UInt8),(7:UInt8),(7:UInt8),(7:UInt8),(7:UInt8)]).append ([(8:UInt8),(8:UInt8),(8:UInt8),(8:UInt8),(8:UInt8),(8:UInt8),(8:UInt8),(8:UInt8),(8:UInt8),(8:UInt8),(8:UInt8),(8:UInt8),(8:UInt8),(8:UInt8),(8:UInt8),(8:UInt8),(8:UInt8),(8:UInt8),(8:UInt8),(8:UInt8),(8:UInt8),(8:UInt8),(8:UInt8),(8:UInt8),(8:UInt8),(8:UInt8),(8:UInt8),(8:UInt8),(8:UInt8),(8:UInt8),(8:UInt8),(8:UInt8),(8:UInt8),(8:UInt8),(8:UInt8),(8:UInt8),(8:UInt8),(8:UInt8),(8:UInt8),(8:UInt8),(8:UInt8),(8:UInt8),(8:UInt8),(8:UInt8),(8:UInt8),(8:UInt8),(8:UInt8),(8:UInt8),(8:UInt8),(8:UInt8),(8:UInt8),(8:UInt8),(8:UInt8),(8:UInt8),(8:UInt8),(8:UInt8),(8:UInt8),(8:UInt8),(8:UInt8),(8:UInt8),(8:UInt8),(8:UInt8),(8:UInt8),(8:UInt8)].append [(8:UInt8),(8:UInt8),(8:UInt8),(8:UInt8),(8:UInt8),(8:UInt8),(8:UInt8),(8:UInt8),(8:UInt8),(8:UInt8),(8:UInt8),(8:UInt8),(8:UInt8),(8:UInt8),(8:UInt8),(8:UInt8),(8:UInt8),(8:UInt8),(8:UInt8),(8:UInt8),(8:UInt8),(8:UInt8),(8:UInt8),(8:UInt8),(8:UInt8),(8:UInt8),(8:UInt8),(8:UInt8),(8:UInt8),(8:UInt8),(8:UInt8),(8:UInt8),(8:UInt8),(8:UInt8),(8:UInt8),(8:UInt8),(8:UInt8),(8:UInt8),(8:UInt8),(8:UInt8),(8:UInt8),(8:UInt8),(8:UInt8),(8:UInt8),(8:UInt8),(8:UInt8),(8:UInt8),(8:UInt8),(8:UInt8),(8:UInt8),(8:UInt8),(8:UInt8),(8:UInt8),(8:UInt8),(8:UInt8),(8:UInt8),(8:UInt8),(8:UInt8),(8:UInt8),(8:UInt8),(8:UInt8),(8:UInt8),(8:UInt8),(8:UInt8)])).toArray).data.toList.getD (u8.wrap (Ev.ishr IntKind.u64 (Ev.ishr IntKind.u64 a (16:Int)) (8:Int))).toNat (0:UInt8)).toNat:Int))) else none else bif decide (0≤u8.wrap (Ev.ishr IntKind.u64 a 16)∧u8.wrap (Ev.ishr IntKind.u64 a 16) < (↑(ByteArray.mk (([(0:UInt8),(1:UInt8),(2:UInt8),(2:UInt8),(3:UInt8),(3:UInt8),(3:UInt8),(3:UInt8),(4:UInt8),(4:UInt8),(4:UInt8),(4:UInt8),(4:UInt8),(4:UInt8),(4:UInt8),(4:UInt8),(5:UInt8),(5:UInt8),(5:UInt8),(5:UInt8),(5:UInt8),(5:UInt8),(5:UInt8),(5:UInt8),(5:UInt8),(5:UInt8),(5:UInt8),(5:UInt8),(5:UInt8),(5:UInt8),(5:UInt8),(5:UInt8),(6:UInt8),(6:UInt8),(6:UInt8),(6:UInt8),(6:UInt8),(6:UInt8),(6:UInt8),(6:UInt8),(6:UInt8),(6:UInt8),(6:UInt8),(6:UInt8),(6:UInt8),(6:UInt8),(6:UInt8),(6:UInt8),(6:UInt8),(6:UInt8),(6:UInt8),(6:UInt8),(6:UInt8),(6:UInt8),(6:UInt8),(6:UInt8),(6:UInt8),(6:UInt8),(6:UInt8),(6:UInt8),(6:UInt8),(6:UInt8),(6:UInt8),(6:UInt8)].append [(7:UInt8),(7:UInt8),(7:UInt8),(7:UInt8),(7:UInt8),(7:UInt8),(7:UInt8),(7:UInt8),(7:UInt8),(7:UInt8),(7:UInt8),(7:UInt8),(7:UInt8),(7:UInt8),(7:UInt8),(7:UInt8),(7:UInt8),(7:UInt8),(7:UInt8),(7:UInt8),(7:UInt8),(7:UInt8),(7:UInt8),(7:UInt8),(7:UInt8),(7:UInt8),(7:UInt8),(7:UInt8),(7:UInt8),(7:UInt8),(7:UInt8),(7:UInt8),(7:UInt8),(7:UInt8),(7:UInt8),(7:UInt8),(7:UInt8),(7:UInt8),(7:UInt8),(7:UInt8),(7:UInt8),(7:UInt8),(7:UInt8),(7:UInt8),(7:UInt8),(7:UInt8),(7:UInt8),(7:UInt8),(7:UInt8),(7:UInt8),(7:UInt8),(7:UInt8),(7:UInt8),(7:UInt8),(7:UInt8),(7:UInt8),(7:UInt8),(7:UInt8),(7:UInt8),(7:UInt8),(7:UInt8),(7:UInt8),(7:UInt8),(7:UInt8)]).append ([(8:UInt8),(8:UInt8),(8:UInt8),(8:UInt8),(8:UInt8),(8:UInt8),(8:UInt8),(8:UInt8),(8:UInt8),(8:UInt8),(8:UInt8),(8:UInt8),(8:UInt8),(8:UInt8),(8:UInt8),(8:UInt8),(8:UInt8),(8:UInt8),(8:UInt8),(8:UInt8),(8:UInt8),(8:UInt8),(8:UInt8),(8:UInt8),(8:UInt8),(8:UInt8),(8:UInt8),(8:UInt8),(8:UInt8),(8:UInt8),(8:UInt8),(8:UInt8),(8:UInt8),(8:UInt8),(8:UInt8),(8:UInt8),(8:UInt8),(8:UInt8),(8:UInt8),(8:UInt8),(8:UInt8),(8:UInt8),(8:UInt8),(8:UInt8),(8:UInt8),(8:UInt8),(8:UInt8),(8:UInt8),(8:UInt8),(8:UInt8),(8:UInt8),(8:UInt8),(8:UInt8),(8:UInt8),(8:UInt8),(8:UInt8),(8:UInt8),(8:UInt8),(8:UInt8),(8:UInt8),(8:UInt8),(8:UInt8),(8:UInt8),(8:UInt8)].append [(8:UInt8),(8:UInt8),(8:UInt8),(8:UInt8),(8:UInt8),(8:UInt8),(8:UInt8),(8:UInt8),(8:UInt8),(8:UInt8),(8:UInt8),(8:UInt8),(8:UInt8),(8:UInt8),(8:UInt8),(8:UInt8),(8:UInt8),(8:UInt8),(8:UInt8),(8:UInt8),(8:UInt8),(8:UInt8),(8:UInt8),(8:UInt8),(8:UInt8),(8:UInt8),(8:UInt8),(8:UInt8),(8:UInt8),(8:UInt8),(8:UInt8),(8:UInt8),(8:UInt8),(8:UInt8),(8:UInt8),(8:UInt8),(8:UInt8),(8:UInt8),(8:UInt8),(8:UInt8),(8:UInt8),(8:UInt8),(8:UInt8),(8:UInt8),(8:UInt8),(8:UInt8),(8:UInt8),(8:UInt8),(8:UInt8),(8:UInt8),(8:UInt8),(8:UInt8),(8:UInt8),(8:UInt8),(8:UInt8),(8:UInt8),(8:UInt8),(8:UInt8),(8:UInt8),(8:UInt8),(8:UInt8),(8:UInt8),(8:UInt8),(8:UInt8)])).toArray).size:Int)) then k0 (i64.wrap (i64.wrap ((0:Int)+(16:Int))+i64.wrap (↑((ByteArray.mk (([(0:UInt8),(1:UInt8),(2:UInt8),(2:UInt8),(3:UInt8),(3:UInt8),(3:UInt8),(3:UInt8),(4:UInt8),(4:UInt8),(4:UInt8),(4:UInt8),(4:UInt8),(4:UInt8),(4:UInt8),(4:UInt8),(5:UInt8),(5:UInt8),(5:UInt8),(5:UInt8),(5:UInt8),(5:UInt8),(5:UInt8),(5:UInt8),(5:UInt8),(5:UInt8),(5:UInt8),(5:UInt8),(5:UInt8),(5:UInt8),(5:UInt8),(5:UInt8),(6:UInt8),(6:UInt8),(6:UInt8),(6:UInt8),(6:UInt8),(6:UInt8),(6:UInt8),(6:UInt8),(6:UInt8),(6:UInt8),(6:UInt8),(6:UInt8),(6:UInt8),(6:UInt8),(6:UInt8),(6:UInt8),(6:UInt8),(6:UInt8),(6:UInt8),(6:UInt8),(6:UInt8),(6:UInt8),(6:UInt8),(6:UInt8),(6:UInt8),(6:UInt8),(6:UInt8),(6:UInt8),(6:UInt8),(6:UInt8),(6:UInt8),(6:UInt8)].append [(7:UInt8),(7:UInt8),(7:UInt8),(7:UInt8),(7:UInt8),(7:UInt8),(7:UInt8),(7:UInt8),(7:UInt8),(7:UInt8),(7:UInt8),(7:UInt8),(7:UInt8),(7:UInt8),(7:UInt8),(7:UInt8),(7:UInt8),(7:UInt8),(7:UInt8),(7:UInt8),(7:UInt8),(7:UInt8),(7:UInt8),(7:UInt8),(7:UInt8),(7:UInt8),(7:UInt8),(7:UInt8),(7:UInt8),(7:UInt8),(7:UInt8),(7:UInt8),(7:UInt8),(7:UInt8),(7:UInt8),(7:UInt8),(7:UInt8),(7:UInt8),(7:UInt8),(7:UInt8),(7:UInt8),(7:UInt8),(7:UInt8),(7:UInt8),(7:UInt8),(7:UInt8),(7:UInt8),(7:UInt8),(7:UInt8),(7:UInt8),(7:UInt8),(7:UInt8),(7:UInt8),(7:UInt8),(7:UInt8),(7:UInt8),(7:UInt8),(7:UInt8),(7:UInt8),(7:UInt8),(7:UInt8),(7:UInt8),(7:UInt8),(7:UInt8)]).append ([(8:UInt8),(8:UInt8),(8:UInt8),(8:UInt8),(8:UInt8),(8:UInt8),(8:UInt8),(8:UInt8),(8:UInt8),(8:UInt8),(8:UInt8),(8:UInt8),(8:UInt8),(8:UInt8),(8:UInt8),(8:UInt8),(8:UInt8),(8:UInt8),(8:UInt8),(8:UInt8),(8:UInt8),(8:UInt8),(8:UInt8),(8:UInt8),(8:UInt8),(8:UInt8),(8:UInt8),(8:UInt8),(8:UInt8),(8:UInt8),(8:UInt8),(8:UInt8),(8:UInt8),(8:UInt8),(8:UInt8),(8:UInt8),(8:UInt8),(8:UInt8),(8:UInt8),(8:UInt8),(8:UInt8),(8:UInt8),(8:UInt8),(8:UInt8),(8:UInt8),(8:UInt8),(8:UInt8),(8:UInt8),(8:UInt8),(8:UInt8),(8:UInt8),(8:UInt8),(8:UInt8),(8:UInt8),(8:UInt8),(8:UInt8),(8:UInt8),(8:UInt8),(8:UInt8),(8:UInt8),(8:UInt8),(8:UInt8),(8:UInt8),(8:UInt8)].append [(8:UInt8),(8:UInt8),(8:UInt8),(8:UInt8),(8:UInt8),(8:UInt8),(8:UInt8),(8:UInt8),(8:UInt8),(8:UInt8),(8:UInt8),(8:UInt8),(8:UInt8),(8:UInt8),(8:UInt8),(8:UInt8),(8:UInt8),(8:UInt8),(8:UInt8),(8:UInt8),(8:UInt8),(8:UInt8),(8:UInt8),(8:UInt8),(8:UInt8),(8:UInt8),(8:UInt8),(8:UInt8),(8:UInt8),(8:UInt8),(8:UInt8),(8:UInt8),(8:UInt8),(8:UInt8),(8:UInt8),(8:UInt8),(8:UInt8),(8:UInt8),(8:UInt8),(8:UInt8),(8:UInt8),(8:UInt8),(8:UInt8),(8:UInt8),(8:UInt8),(8:UInt8),(8:UInt8),(8:UInt8),(8:UInt8),(8:UInt8),(8:UInt8),(8:UInt8),(8:UInt8),(8:UInt8),(8:UInt8),(8:UInt8),(8:UInt8),(8:UInt8),(8:UInt8),(8:UInt8),(8:UInt8),(8:UInt8),(8:UInt8),(8:UInt8)])).toArray).data.toList.getD (u8.wrap (Ev.ishr IntKind.u64 a (16:Int))).toNat (0:UInt8)).toNat:Int))) else none else bif decide (a≥256) then bif decide (0≤u8.wrap (Ev.ishr IntKind.u64 a 8)∧u8.wrap (Ev.ishr IntKind.u64 a 8) < (↑(ByteArray.mk (([(0:UInt8),(1:UInt8),(2:UInt8),(2:UInt8),(3:UInt8),(3:UInt8),(3:UInt8),(3:UInt8),(4:UInt8),(4:UInt8),(4:UInt8),(4:UInt8),(4:UInt8),(4:UInt8),(4:UInt8),(4:UInt8),(5:UInt8),(5:UInt8),(5:UInt8),(5:UInt8),(5:UInt8),(5:UInt8),(5:UInt8),(5:UInt8),(5:UInt8),(5:UInt8),(5:UInt8),(5:UInt8),(5:UInt8),(5:UInt8),(5:UInt8),(5:UInt8),(6:UInt8),(6:UInt8),(6:UInt8),(6:UInt8),(6:UInt8),(6:UInt8),(6:UInt8),(6:UInt8),(6:UInt8),(6:UInt8),(6:UInt8),(6:UInt8),(6:UInt8),(6:UInt8),(6:UInt8),(6:UInt8),(6:UInt8),(6:UInt8),(6:UInt8),(6:UInt8),(6:UInt8),(6:UInt8),(6:UInt8),(6:UInt8),(6:UInt8),(6:UInt8),(6:UInt8),(6:UInt8),(6:UInt8),(6:UInt8),(6:UInt8),(6:UInt8)].append [(7:UInt8),(7:UInt8),(7:UInt8),(7:UInt8),(7:UInt8),(7:UInt8),(7:UInt8),(7:UInt8),(7:UInt8),(7:UInt8),(7:UInt8),(7:UInt8),(7:UInt8),(7:UInt8),(7:UInt8),(7:UInt8),(7:UInt8),(7:UInt8),(7:UInt8),(7:UInt8),(7:UInt8),(7:UInt8),(7:UInt8),(7:UInt8),(7:UInt8),(7:UInt8),(7:UInt8),(7:UInt8),(7:UInt8),(7:UInt8),(7:UInt8),(7:UInt8),(7:UInt8),(7:UInt8),(7:UInt8),(7:UInt8),(7:UInt8),(7:UInt8),(7:UInt8),(7:UInt8),(7:UInt8),(7:UInt8),(7:UInt8),(7:UInt8),(7:UInt8),(7:UInt8),(7:UInt8),(7:UInt8),(7:UInt8),(7:UInt8),(7:UInt8),(7:UInt8),(7:UInt8),(7:UInt8),(7:UInt8),(7:UInt8),(7:UInt8),(7:UInt8),(7:UInt8),(7:UInt8),(7:UInt8),(7:UInt8),(7:UInt8),(7:UInt8)]).append ([(8:UInt8),(8:UInt8),(8:UInt8),(8:UInt8),(8:UInt8),(8:UInt8),(8:UInt8),(8:UInt8),(8:UInt8),(8:UInt8),(8:UInt8),(8:UInt8),(8:UInt8),(8:UInt8),(8:UInt8),(8:UInt8),(8:UInt8),(8:UInt8),(8:UInt8),(8:UInt8),(8:UInt8),(8:UInt8),(8:UInt8),(8:UInt8),(8:UInt8),(8:UInt8),(8:UInt8),(8:UInt8),(8:UInt8),(8:UInt8),(8:UInt8),(8:UInt8),(8:UInt8),(8:UInt8),(8:UInt8),(8:UInt8),(8:UInt8),(8:UInt8),(8:UInt8),(8:UInt8),(8:UInt8),(8:UInt8),(8:UInt8),(8:UInt8),(8:UInt8),(8:UInt8),(8:UInt8),(8:UInt8),(8:UInt8),(8:UInt8),(8:UInt8),(8:UInt8),(8:UInt8),(8:UInt8),(8:UInt8),(8:UInt8),(8:UInt8),(8:UInt8),(8:UInt8),(8:UInt8),(8:UInt8),(8:UInt8),(8:UInt8),(8:UInt8)].append [(8:UInt8),(8:UInt8),(8:UInt8),(8:UInt8),(8:UInt8),(8:UInt8),(8:UInt8),(8:UInt8),(8:UInt8),(8:UInt8),(8:UInt8),(8:UInt8),(8:UInt8),(8:UInt8),(8:UInt8),(8:UInt8),(8:UInt8),(8:UInt8),(8:UInt8),(8:UInt8),(8:UInt8),(8:UInt8),(8:UInt8),(8:UInt8),(8:UInt8),(8:UInt8),(8:UInt8),(8:UInt8),(8:UInt8),(8:UInt8),(8:UInt8),(8:UInt8),(8:UInt8),(8:UInt8),(8:UInt8),(8:UInt8),(8:UInt8),(8:UInt8),(8:UInt8),(8:UInt8),(8:UInt8),(8:UInt8),(8:UInt8),(8:UInt8),(8:UInt8),(8:UInt8),(8:UInt8),(8:UInt8),(8:UInt8),(8:UInt8),(8:UInt8),(8:UInt8),(8:UInt8),(8:UInt8),(8:UInt8),(8:UInt8),(8:UInt8),(8:UInt8),(8:UInt8),(8:UInt8),(8:UInt8),(8:UInt8),(8:UInt8),(8:UInt8)])).toArray).size:Int)) then k0 (i64.wrap (i64.wrap ((0:Int)+(8:Int))+i64.wrap (↑((ByteArray.mk (([(0:UInt8),(1:UInt8),(2:UInt8),(2:UInt8),(3:UInt8),(3:UInt8),(3:UInt8),(3:UInt8),(4:UInt8),(4:UInt8),(4:UInt8),(4:UInt8),(4:UInt8),(4:UInt8),(4:UInt8),(4:UInt8),(5:UInt8),(5:UInt8),(5:UInt8),(5:UInt8),(5:UInt8),(5:UInt8),(5:UInt8),(5:UInt8),(5:UInt8),(5:UInt8),(5:UInt8),(5:UInt8),(5:UInt8),(5:UInt8),(5:UInt8),(5:UInt8),(6:UInt8),(6:UInt8),(6:UInt8),(6:UInt8),(6:UInt8),(6:UInt8),(6:UInt8),(6:UInt8),(6:UInt8),(6:UInt8),(6:UInt8),(6:UInt8),(6:UInt8),(6:UInt8),(6:UInt8),(6:UInt8),(6:UInt8),(6:UInt8),(6:UInt8),(6:UInt8),(6:UInt8),(6:UInt8),(6:UInt8),(6:UInt8),(6:UInt8),(6:UInt8),(6:UInt8),(6:UInt8),(6:UInt8),(6:UInt8),(6:UInt8),(6:UInt8)].append [(7:UInt8),(7:UInt8),(7:UInt8),(7:UInt8),(7:UInt8),(7:UInt8),(7:UInt8),(7:UInt8),(7:UInt8),(7:UInt8),(7:UInt8),(7:UInt8),(7:UInt8),(7:UInt8),(7:UInt8),(7:UInt8),(7:UInt8),(7:UInt8),(7:UInt8),(7:UInt8),(7:UInt8),(7:UInt8),(7:UInt8),(7:UInt8),(7:UInt8),(7:UInt8),(7:UInt8),(7:UInt8),(7:UInt8),(7:UInt8),(7:UInt8),(7:UInt8),(7:UInt8),(7:UInt8),(7:UInt8),(7:UInt8),(7:UInt8),(7:UInt8),(7:UInt8),(7:UInt8),(7:UInt8),(7:UInt8),(7:UInt8),(7:UInt8),(7:UInt8),(7:UInt8),(7:UInt8),(7:UInt8),(7:UInt8),(7:UInt8),(7:UInt8),(7:UInt8),(7:UInt8),(7:UInt8),(7:UInt8),(7:UInt8),(7:UInt8),(7:UInt8),(7:UInt8),(7:UInt8),(7:UInt8),(7:UInt8),(7:UInt8),(7:UInt8)]).append ([(8:UInt8),(8:UInt8),(8:UInt8),(8:UInt8),(8:UInt8),(8:UInt8),(8:UInt8),(8:UInt8),(8:UInt8),(8:UInt8),(8:UInt8),(8:UInt8),(8:UInt8),(8:UInt8),(8:UInt8),(8:UInt8),(8:UInt8),(8:UInt8),(8:UInt8),(8:UInt8),(8:UInt8),(8:UInt8),(8:UInt8),(8:UInt8),(8:UInt8),(8:UInt8),(8:UInt8),(8:UInt8),(8:UInt8),(8:UInt8),(8:UInt8),(8:UInt8),(8:UInt8),(8:UInt8),(8:UInt8),(8:UInt8),(8:UInt8),(8:UInt8),(8:UInt8),(8:UInt8),(8:UInt8),(8:UInt8),(8:UInt8),(8:UInt8),(8:UInt8),(8:UInt8),(8:UInt8),(8:UInt8),(8:UInt8),(8:UInt8),(8:UInt8),(8:UInt8),(8:UInt8),(8:UInt8),(8:UInt8),(8:UInt8),(8:UInt8),(8:UInt8),(8:UInt8),(8:UInt8),(8:UInt8),(8:UInt8),(8:UInt8),(8:UInt8)].append [(8:UInt8),(8:UInt8),(8:UInt8),(8:UInt8),(8:UInt8),(8:UInt8),(8:UInt8),(8:UInt8),(8:UInt8),(8:UInt8),(8:UInt8),(8:UInt8),(8:UInt8),(8:UInt8),(8:UInt8),(8:UInt8),(8:UInt8),(8:UInt8),(8:UInt8),(8:UInt8),(8:UInt8),(8:UInt8),(8:UInt8),(8:UInt8),(8:UInt8),(8:UInt8),(8:UInt8),(8:UInt8),(8:UInt8),(8:UInt8),(8:UInt8),(8:UInt8),(8:UInt8),(8:UInt8),(8:UInt8),(8:UInt8),(8:UInt8),(8:UInt8),(8:UInt8),(8:UInt8),(8:UInt8),(8:UInt8),(8:UInt8),(8:UInt8),(8:UInt8),(8:UInt8),(8:UInt8),(8:UInt8),(8:UInt8),(8:UInt8),(8:UInt8),(8:UInt8),(8:UInt8),(8:UInt8),(8:UInt8),(8:UInt8),(8:UInt8),(8:UInt8),(8:UInt8),(8:UInt8),(8:UInt8),(8:UInt8),(8:UInt8),(8:UInt8)])).toArray).data.toList.getD (u8.wrap (Ev.ishr IntKind.u64 a (8:Int))).toNat (0:UInt8)).toNat:Int))) else none else bif decide (0≤u8.wrap a∧u8.wrap a < (↑(ByteArray.mk (([(0:UInt8),(1:UInt8),(2:UInt8),(2:UInt8),(3:UInt8),(3:UInt8),(3:UInt8),(3:UInt8),(4:UInt8),(4:UInt8),(4:UInt8),(4:UInt8),(4:UInt8),(4:UInt8),(4:UInt8),(4:UInt8),(5:UInt8),(5:UInt8),(5:UInt8),(5:UInt8),(5:UInt8),(5:UInt8),(5:UInt8),(5:UInt8),(5:UInt8),(5:UInt8),(5:UInt8),(5:UInt8),(5:UInt8),(5:UInt8),(5:UInt8),(5:UInt8),(6:UInt8),(6:UInt8),(6:UInt8),(6:UInt8),(6:UInt8),(6:UInt8),(6:UInt8),(6:UInt8),(6:UInt8),(6:UInt8),(6:UInt8),(6:UInt8),(6:UInt8),(6:UInt8),(6:UInt8),(6:UInt8),(6:UInt8),(6:UInt8),(6:UInt8),(6:UInt8),(6:UInt8),(6:UInt8),(6:UInt8),(6:UInt8),(6:UInt8),(6:UInt8),(6:UInt8),(6:UInt8),(6:UInt8),(6:UInt8),(6:UInt8),(6:UInt8)].append [(7:UInt8),(7:UInt8),(7:UInt8),(7:UInt8),(7:UInt8),(7:UInt8),(7:UInt8),(7:UInt8),(7:UInt8),(7:UInt8),(7:UInt8),(7:UInt8),(7:UInt8),(7:UInt8),(7:UInt8),(7:UInt8),(7:UInt8),(7:UInt8),(7:UInt8),(7:UInt8),(7:UInt8),(7:UInt8),(7:UInt8),(7:UInt8),(7:UInt8),(7:UInt8),(7:UInt8),(7:UInt8),(7:UInt8),(7:UInt8),(7:UInt8),(7:UInt8),(7:UInt8),(7:UInt8),(7:UInt8),(7:UInt8),(7:UInt8),(7:UInt8),(7:UInt8),(7:UInt8),(7:UInt8),(7:UInt8),(7:UInt8),(7:UInt8),(7:UInt8),(7:UInt8),(7:UInt8),(7:UInt8),(7:UInt8),(7:UInt8),(7:UInt8),(7:UInt8),(7:UInt8),(7:UInt8),(7:UInt8),(7:UInt8),(7:UInt8),(7:UInt8),(7:UInt8),(7:UInt8),(7:UInt8),(7:UInt8),(7:UInt8),(7:UInt8)]).append ([(8:UInt8),(8:UInt8),(8:UInt8),(8:UInt8),(8:UInt8),(8:UInt8),(8:UInt8),(8:UInt8),(8:UInt8),(8:UInt8),(8:UInt8),(8:UInt8),(8:UInt8),(8:UInt8),(8:UInt8),(8:UInt8),(8:UInt8),(8:UInt8),(8:UInt8),(8:UInt8),(8:UInt8),(8:UInt8),(8:UInt8),(8:UInt8),(8:UInt8),(8:UInt8),(8:UInt8),(8:UInt8),(8:UInt8),(8:UInt8),(8:UInt8),(8:UInt8),(8:UInt8),(8:UInt8),(8:UInt8),(8:UInt8),(8:UInt8),(8:UInt8),(8:UInt8),(8:UInt8),(8:UInt8),(8:UInt8),(8:UInt8),(8:UInt8),(8:UInt8),(8:UInt8),(8:UInt8),(8:UInt8),(8:UInt8),(8:UInt8),(8:UInt8),(8:UInt8),(8:UInt8),(8:UInt8),(8:UInt8),(8:UInt8),(8:UInt8),(8:UInt8),(8:UInt8),(8:UInt8),(8:UInt8),(8:UInt8),(8:UInt8),(8:UInt8)].append [(8:UInt8),(8:UInt8),(8:UInt8),(8:UInt8),(8:UInt8),(8:UInt8),(8:UInt8),(8:UInt8),(8:UInt8),(8:UInt8),(8:UInt8),(8:UInt8),(8:UInt8),(8:UInt8),(8:UInt8),(8:UInt8),(8:UInt8),(8:UInt8),(8:UInt8),(8:UInt8),(8:UInt8),(8:UInt8),(8:UInt8),(8:UInt8),(8:UInt8),(8:UInt8),(8:UInt8),(8:UInt8),(8:UInt8),(8:UInt8),(8:UInt8),(8:UInt8),(8:UInt8),(8:UInt8),(8:UInt8),(8:UInt8),(8:UInt8),(8:UInt8),(8:UInt8),(8:UInt8),(8:UInt8),(8:UInt8),(8:UInt8),(8:UInt8),(8:UInt8),(8:UInt8),(8:UInt8),(8:UInt8),(8:UInt8),(8:UInt8),(8:UInt8),(8:UInt8),(8:UInt8),(8:UInt8),(8:UInt8),(8:UInt8),(8:UInt8),(8:UInt8),(8:UInt8),(8:UInt8),(8:UInt8),(8:UInt8),(8:UInt8),(8:UInt8)])).toArray).size:Int)) then k0 (i64.wrap (0+i64.wrap (↑((ByteArray.mk (([(0:UInt8),(1:UInt8),(2:UInt8),(2:UInt8),(3:UInt8),(3:UInt8),(3:UInt8),(3:UInt8),(4:UInt8),(4:UInt8),(4:UInt8),(4:UInt8),(4:UInt8),(4:UInt8),(4:UInt8),(4:UInt8),(5:UInt8),(5:UInt8),(5:UInt8),(5:UInt8),(5:UInt8),(5:UInt8),(5:UInt8),(5:UInt8),(5:UInt8),(5:UInt8),(5:UInt8),(5:UInt8),(5:UInt8),(5:UInt8),(5:UInt8),(5:UInt8),(6:UInt8),(6:UInt8),(6:UInt8),(6:UInt8),(6:UInt8),(6:UInt8),(6:UInt8),(6:UInt8),(6:UInt8),(6:UInt8),(6:UInt8),(6:UInt8),(6:UInt8),(6:UInt8),(6:UInt8),(6:UInt8),(6:UInt8),(6:UInt8),(6:UInt8),(6:UInt8),(6:UInt8),(6:UInt8),(6:UInt8),(6:UInt8),(6:UInt8),(6:UInt8),(6:UInt8),(6:UInt8),(6:UInt8),(6:UInt8),(6:UInt8),(6:UInt8)].append [(7:UInt8),(7:UInt8),(7:UInt8),(7:UInt8),(7:UInt8),(7:UInt8),(7:UInt8),(7:UInt8),(7:UInt8),(7:UInt8),(7:UInt8),(7:UInt8),(7:UInt8),(7:UInt8),(7:UInt8),(7:UInt8),(7:UInt8),(7:UInt8),(7:UInt8),(7:UInt8),(7:UInt8),(7:UInt8),(7:UInt8),(7:UInt8),(7:UInt8),(7:UInt8),(7:UInt8),(7:UInt8),(7:UInt8),(7:UInt8),(7:UInt8),(7:UInt8),(7:UInt8),(7:UInt8),(7:UInt8),(7:UInt8),(7:UInt8),(7:UInt8),(7:UInt8),(7:UInt8),(7:UInt8),(7:UInt8),(7:UInt8),(7:UInt8),(7:UInt8),(7:UInt8),(7:UInt8),(7:UInt8),(7:UInt8),(7:UInt8),(7:UInt8),(7:UInt8),(7:UInt8),(7:UInt8),(7:UInt8),(7:UInt8),(7:UInt8),(7:UInt8),(7:UInt8),(7:UInt8),(7:UInt8),(7:UInt8),(7:UInt8),(7:UInt8)]).append ([(8:UInt8),(8:UInt8),(8:UInt8),(8:UInt8),(8:UInt8),(8:UInt8),(8:UInt8),(8:UInt8),(8:UInt8),(8:UInt8),(8:UInt8),(8:UInt8),(8:UInt8),(8:UInt8),(8:UInt8),(8:UInt8),(8:UInt8),(8:UInt8),(8:UInt8),(8:UInt8),(8:UInt8),(8:UInt8),(8:UInt8),(8:UInt8),(8:UInt8),(8:UInt8),(8:UInt8),(8:UInt8),(8:UInt8),(8:UInt8),(8:UInt8),(8:UInt8),(8:UInt8),(8:UInt8),(8:UInt8),(8:UInt8),(8:UInt8),(8:UInt8),(8:UInt8),(8:UInt8),(8:UInt8),(8:UInt8),(8:UInt8),(8:UInt8),(8:UInt8),(8:UInt8),(8:UInt8),(8:UInt8),(8:UInt8),(8:UInt8),(8:UInt8),(8:UInt8),(8:UInt8),(8:UInt8),(8:UInt8),(8:UInt8),(8:UInt8),(8:UInt8),(8:UInt8),(8:UInt8),(8:UInt8),(8:UInt8),(8:UInt8),(8:UInt8)].append [(8:UInt8),(8:UInt8),(8:UInt8),(8:UInt8),(8:UInt8),(8:UInt8),(8:UInt8),(8:UInt8),(8:UInt8),(8:UInt8),(8:UInt8),(8:UInt8),(8:UInt8),(8:UInt8),(8:UInt8),(8:UInt8),(8:UInt8),(8:UInt8),(8:UInt8),(8:UInt8),(8:UInt8),(8:UInt8),(8:UInt8),(8:UInt8),(8:UInt8),(8:UInt8),(8:UInt8),(8:UInt8),(8:UInt8),(8:UInt8),(8:UInt8),(8:UInt8),(8:UInt8),(8:UInt8),(8:UInt8),(8:UInt8),(8:UInt8),(8:UInt8),(8:UInt8),(8:UInt8),(8:UInt8),(8:UInt8),(8:UInt8),(8:UInt8),(8:UInt8),(8:UInt8),(8:UInt8),(8:UInt8),(8:UInt8),(8:UInt8),(8:UInt8),(8:UInt8),(8:UInt8),(8:UInt8),(8:UInt8),(8:UInt8),(8:UInt8),(8:UInt8),(8:UInt8),(8:UInt8),(8:UInt8),(8:UInt8),(8:UInt8),(8:UInt8)])).toArray).data.toList.getD (u8.wrap a).toNat (0:UInt8)).toNat:Int))) else none
abbrev YF177:Type:=Int→(Int→Option Ans)→Option Ans
theorem F177_eq (fuel:Nat) (a:Int) (k:Ev.Cont):evalFn tab (G177 fuel) J0 kp177 fuel Try.f177 [.c (.int .u64 a)] [] k=F_math_bits_Len64 fuel a (fun r=>match r with | b=>k (.c (i6 b),[])):=by
  kernel_rfl
theorem hG177 (fuel:Nat):GOK Try.prog (G177 fuel):=
  gok_nil
def spg177 (F:YF177):Ev.Spec:=fun args objs k=>match args,objs with | [.c (.int .u64 a)],[]=>F a (fun r=>match r with | b=>k (.c (i6 b),[])) | _,_=>none
theorem ok177 (fuel:Nat):FnOK Try.prog 177 (spg177 (F_math_bits_Len64 fuel)):=by
  intro args objs kk r h
  unfold spg177 at h
  split at h
  · skip
    exact fo0 (hG177 fuel) Try.func177 rfl (by kernel_rfl) _ _ kk r ((F177_eq fuel _ kk).trans h)
  · cases h
def kp146 (i:Nat):Option (List Nat):=Ev.look i []
def Gg146 (a:YF177) (f:Nat):Option Ev.Spec:=Ev.look f [(177,spg177 a)]
def G146 (fuel:Nat):Nat→Option Ev.Spec:=Gg146 (F_math_bits_Len64 fuel)
def Fg_math_bits_Len (fuel:Nat) (a:YF177) (b:Int) (k0:(Int)→OA):OA:=(a b (fun c=>k0 c))
abbrev YF146:Type:=Int→(Int→Option Ans)→Option Ans
def F_math_bits_Len (fuel:Nat):YF146:=Fg_math_bits_Len fuel (F_math_bits_Len64 fuel)
theorem F146_eqg (fuel:Nat) (a:YF177) (b:Int) (k:Ev.Cont):evalFn tab (Gg146 a) J0 kp146 fuel Try.f146 [.c (.int .u64 b)] [] k=Fg_math_bits_Len fuel a b (fun r=>match r with | d=>k (.c (i6 d),[])):=by
  kernel_rfl
theorem hG146 (fuel:Nat):GOK Try.prog (G146 fuel):=
  gc (ok177 fuel) Try.func177 (by kernel_rfl) rfl <|
  gok_nil
def spg146 (F:YF146):Ev.Spec:=fun args objs k=>match args,objs with | [.c (.int .u64 a)],[]=>F a (fun r=>match r with | b=>k (.c (i6 b),[])) | _,_=>none
theorem ok146 (fuel:Nat):FnOK Try.prog 146 (spg146 (F_math_bits_Len fuel)):=by
  intro args objs kk r h
  unfold spg146 at h
  split at h
  · skip
    exact fo0 (hG146 fuel) Try.func146 rfl (by kernel_rfl) _ _ kk r ((F146_eqg fuel (F_math_bits_Len64 fuel) _ kk).trans h)
  · cases h
def kp98 (i:Nat):Option (List Nat):=Ev.look i []
def Gg98 (a:YF146) (f:Nat):Option Ev.Spec:=Ev.look f [(146,spg146 a)]
def G98 (fuel:Nat):Nat→Option Ev.Spec:=Gg98 (F_math_bits_Len fuel)
def Fg_number_Width (fuel:Nat) (b:YF146) (a:Int) (k0:(Int)→OA):OA:=bif decide (a < 1) then k0 (0) else (b (u64.wrap (i64.wrap (a - 1))) (fun c=>k0 c))
abbrev YF98:Type:=Int→(Int→Option Ans)→Option Ans
def F_number_Width (fuel:Nat):YF98:=Fg_number_Width fuel (F_math_bits_Len fuel)
theorem F98_eqg (fuel:Nat) (a:YF146) (b:Int) (k:Ev.Cont):evalFn tab (Gg98 a) J0 kp98 fuel Try.f98 [.c (i6 b)] [] k=Fg_number_Width fuel a b (fun r=>match r with | d=>k (.c (i6 d),[])):=by
  kernel_rfl
theorem hG98 (fuel:Nat):GOK Try.prog (G98 fuel):=
  gc (ok146 fuel) Try.func146 (by kernel_rfl) rfl <|
  gok_nil
def spg98 (F:YF98):Ev.Spec:=fun args objs k=>match args,objs with | [.c (i6 a)],[]=>F a (fun r=>match r with | b=>k (.c (i6 b),[])) | _,_=>none
theorem ok98 (fuel:Nat):FnOK Try.prog 98 (spg98 (F_number_Width fuel)):=by
  intro args objs kk r h
  unfold spg98 at h
  split at h
  · skip
    exact fo0 (hG98 fuel) Try.func98 rfl (by kernel_rfl) _ _ kk r ((F98_eqg fuel (F_math_bits_Len fuel) _ kk).trans h)
  · cases h
def kp178 (i:Nat):Option (List Nat):=Ev.look i []
def Gg178 (f:Nat):Option Ev.Spec:=Ev.look f []
def G178 (fuel:Nat):Nat→Option Ev.Spec:=Gg178
def F_refine_fresh (fuel:Nat) (a:Int) (k0:((List (Int×Int)))→Option Ans):Option Ans:=bif a==0 then k0 ([((-1:Int),(-1:Int)),(0,(-1:Int)),(1,(-1:Int)),((-1:Int),0)]) else k0 ([(0,(-1:Int)),((-1:Int),0)])
abbrev YF178:Type:=Int→(((List (Int×Int)))→Option Ans)→Option Ans
theorem F178_eq (fuel:Nat) (a:Int) (k:Ev.Cont):evalFn tab (G178 fuel) J0 kp178 fuel Try.f178 [.c (i6 a)] [] k=F_refine_fresh fuel a (fun r=>match r with | b=>k (.c (.own 0),[.vec 22 (.pair (.int .i64) (.int .i64)) b true])):=by
  kernel_rfl
theorem hG178 (fuel:Nat):GOK Try.prog (G178 fuel):=
  gok_nil
def spg178 (F:YF178):Ev.Spec:=fun args objs k=>match args,objs with | [.c (i6 a)],[]=>F a (fun r=>match r with | b=>k (.c (.own 0),[.vec 22 (.pair (.int .i64) (.int .i64)) b true])) | _,_=>none
theorem ok178 (fuel:Nat):FnOK Try.prog 178 (spg178 (F_refine_fresh fuel)):=by
  intro args objs kk r h
  unfold spg178 at h
  split at h
  · skip
    exact fo0 (hG178 fuel) Try.func178 rfl (by kernel_rfl) _ _ kk r ((F178_eq fuel _ kk).trans h)
  · cases h
def kp147 (i:Nat):Option (List Nat):=Ev.look i []
def Gg147 (a:YF178) (f:Nat):Option Ev.Spec:=Ev.look f [(178,spg178 a)]
def G147 (fuel:Nat):Nat→Option Ev.Spec:=Gg147 (F_refine_fresh fuel)
def Fg_refine_contexts (fuel:Nat) (a:YF178) (b:Int) (k0:(Int)→OA):OA:=(a b (fun c=>k0 (Ev.ishl IntKind.i64 32 (↑c.length:Int))))
abbrev YF147:Type:=Int→(Int→Option Ans)→Option Ans
def F_refine_contexts (fuel:Nat):YF147:=Fg_refine_contexts fuel (F_refine_fresh fuel)
theorem F147_eqg (fuel:Nat) (a:YF178) (b:Int) (k:Ev.Cont):evalFn tab (Gg147 a) J0 kp147 fuel Try.f147 [.c (i6 b)] [] k=Fg_refine_contexts fuel a b (fun r=>match r with | d=>k (.c (i6 d),[])):=by
  kernel_rfl
theorem hG147 (fuel:Nat):GOK Try.prog (G147 fuel):=
  gc (ok178 fuel) Try.func178 (by kernel_rfl) rfl <|
  gok_nil
def spg147 (F:YF147):Ev.Spec:=fun args objs k=>match args,objs with | [.c (i6 a)],[]=>F a (fun r=>match r with | b=>k (.c (i6 b),[])) | _,_=>none
theorem ok147 (fuel:Nat):FnOK Try.prog 147 (spg147 (F_refine_contexts fuel)):=by
  intro args objs kk r h
  unfold spg147 at h
  split at h
  · skip
    exact fo0 (hG147 fuel) Try.func147 rfl (by kernel_rfl) _ _ kk r ((F147_eqg fuel (F_refine_fresh fuel) _ kk).trans h)
  · cases h
def kp99 (i:Nat):Option (List Nat):=Ev.look i []
def Gg99 (a:YF147) (f:Nat):Option Ev.Spec:=Ev.look f [(147,spg147 a)]
def G99 (fuel:Nat):Nat→Option Ev.Spec:=Gg99 (F_refine_contexts fuel)
def Fg_refine_Size (fuel:Nat) (b:YF147) (a:Int) (k0:(Int×Int)→OA):OA:=bif a != 0 then bif a != 1 then k0 (0,2) else (b a (fun c=>k0 (i64.wrap (c+1),0))) else (b a (fun d=>k0 (i64.wrap (d+1),0)))
abbrev YF99:Type:=Int→((Int×Int)→Option Ans)→Option Ans
def F_refine_Size (fuel:Nat):YF99:=Fg_refine_Size fuel (F_refine_contexts fuel)
theorem F99_eqg (fuel:Nat) (a:YF147) (b:Int) (k:Ev.Cont):evalFn tab (Gg99 a) J0 kp99 fuel Try.f99 [.c (i6 b)] [] k=Fg_refine_Size fuel a b (fun r=>match r with | (d,e)=>k (.tup [(false,[i6 d]),(false,[i6 e])],[])):=by
  kernel_rfl
theorem hG99 (fuel:Nat):GOK Try.prog (G99 fuel):=
  gc (ok147 fuel) Try.func147 (by kernel_rfl) rfl <|
  gok_nil
def spg99 (F:YF99):Ev.Spec:=fun args objs k=>match args,objs with | [.c (i6 a)],[]=>F a (fun r=>match r with | (b,d)=>k (.tup [(false,[i6 b]),(false,[i6 d])],[])) | _,_=>none
theorem ok99 (fuel:Nat):FnOK Try.prog 99 (spg99 (F_refine_Size fuel)):=by
  intro args objs kk r h
  unfold spg99 at h
  split at h
  · skip
    exact fo0 (hG99 fuel) Try.func99 rfl (by kernel_rfl) _ _ kk r ((F99_eqg fuel (F_refine_contexts fuel) _ kk).trans h)
  · cases h
def kp48 (i:Nat):Option (List Nat):=Ev.look i [(200001,[2])]
def Gg48 (a:YF98) (b:YF99) (f:Nat):Option Ev.Spec:=Ev.look f [(98,spg98 a),(99,spg99 b)]
def G48 (fuel:Nat):Nat→Option Ev.Spec:=Gg48 (F_number_Width fuel) (F_refine_Size fuel)
def Fg_text_lay (fuel:Nat) (l:YF98) (k:YF99) (d e:Int) (f:Bool) (g h i:Int) (b:Bool) (c m:Int) (k0:(Int×Int×Bool×Int×Int×Int×Bool×Int×Int×Int×Int)→OA):OA:=both ((l m (fun a=>both (bif decide (a < 0) then none else bif b then (k c (fun (j,n)=>k0 (d,e,f,g,h,i,b,c,a,i64.wrap (i64.wrap (385+Ev.ishl IntKind.i64 1 a) - 1),i64.wrap (i64.wrap (i64.wrap (385+Ev.ishl IntKind.i64 1 a) - 1)+j)))) else k0 (d,e,f,g,h,i,b,c,a,i64.wrap (i64.wrap (385+Ev.ishl IntKind.i64 1 a) - 1),i64.wrap (i64.wrap (385+Ev.ishl IntKind.i64 1 a) - 1))) (bif decide (a < 0) then none else bif b then (k c (fun (j,n)=>k0 (d,e,f,g,h,i,b,c,a,i64.wrap (i64.wrap (385+Ev.ishl IntKind.i64 1 a) - 1),i64.wrap (i64.wrap (i64.wrap (385+Ev.ishl IntKind.i64 1 a) - 1)+j)))) else k0 (d,e,f,g,h,i,b,c,a,i64.wrap (i64.wrap (385+Ev.ishl IntKind.i64 1 a) - 1),i64.wrap (i64.wrap (385+Ev.ishl IntKind.i64 1 a) - 1)))))) ((l m (fun a=>bif decide (a < 0) then none else bif b then (k c (fun (o,p)=>k0 (d,e,f,g,h,i,b,c,a,i64.wrap (i64.wrap (385+Ev.ishl IntKind.i64 1 a) - 1),i64.wrap (i64.wrap (i64.wrap (385+Ev.ishl IntKind.i64 1 a) - 1)+o)))) else k0 (d,e,f,g,h,i,b,c,a,i64.wrap (i64.wrap (385+Ev.ishl IntKind.i64 1 a) - 1),i64.wrap (i64.wrap (385+Ev.ishl IntKind.i64 1 a) - 1)))))
abbrev YF48:Type:=Int→Int→Bool→Int→Int→Int→Bool→Int→Int→((Int×Int×Bool×Int×Int×Int×Bool×Int×Int×Int×Int)→Option Ans)→Option Ans
def F_text_lay (fuel:Nat):YF48:=Fg_text_lay fuel (F_number_Width fuel) (F_refine_Size fuel)
theorem F48_eqg (fuel:Nat) (a:YF98) (b:YF99) (d e:Int) (f:Bool) (g h i:Int) (j:Bool) (l m:Int) (k:Ev.Cont):evalFn tab (Gg48 a b) J0 kp48 fuel Try.f48 [.agg [i6 d,i6 e,.bool f,i6 g,i6 h,i6 i,.bool j,i6 l],.c (i6 m)] [] k=Fg_text_lay fuel a b d e f g h i j l m (fun r=>match r with | (o,p,q,s,t,u,v,w,x,y,n)=>k (.agg [i6 o,i6 p,.bool q,i6 s,i6 t,i6 u,.bool v,i6 w,i6 x,i6 y,i6 n],[])):=by
  kernel_rfl
theorem hG48 (fuel:Nat):GOK Try.prog (G48 fuel):=
  gc (ok98 fuel) Try.func98 (by kernel_rfl) rfl <|
  gc (ok99 fuel) Try.func99 (by kernel_rfl) rfl <|
  gok_nil
def spg48 (F:YF48):Ev.Spec:=fun args objs k=>match args,objs with | [.agg [i6 b,i6 d,.bool e,i6 f,i6 g,i6 h,.bool i,i6 j],.c (i6 l)],[]=>F b d e f g h i j l (fun r=>match r with | (m,n,o,p,q,s,t,u,v,w,a)=>k (.agg [i6 m,i6 n,.bool o,i6 p,i6 q,i6 s,.bool t,i6 u,i6 v,i6 w,i6 a],[])) | _,_=>none
def spec48 (fuel:Nat):Ev.Spec:=spg48 (F_text_lay fuel)
theorem ok48 (fuel:Nat):FnOK Try.prog 48 (spec48 fuel):=by
  intro args objs kk r h
  unfold spec48 spg48 at h
  split at h
  · skip
    exact fo0 (hG48 fuel) Try.func48 rfl (by kernel_rfl) _ _ kk r ((F48_eqg fuel (F_number_Width fuel) (F_refine_Size fuel) _ _ _ _ _ _ _ _ _ kk).trans h)
  · cases h
def kp49 (i:Nat):Option (List Nat):=Ev.look i []
def Gg49 (f:Nat):Option Ev.Spec:=Ev.look f []
def G49 (fuel:Nat):Nat→Option Ev.Spec:=Gg49
def F_coder_New (fuel:Nat) (b a:Int) (k0:(Int×Int×(List Int))→Option Ans):Option Ans:=bif b != 0 then bif b != 1 then k0 (0,2,[]) else bif decide (a < 0) then k0 (0,2,[]) else bif decide (a > 8192) then k0 (0,2,[]) else bif decide (0≤a∧a=a∧(↑(8:Nat):Int)*a≤281474976710656∧a≤281474976710656) then k0 (b,0,List.replicate a.toNat (0:Int)) else none else bif decide (a < 0) then k0 (0,2,[]) else bif decide (a > 8192) then k0 (0,2,[]) else bif decide (0≤a∧a=a∧(↑(8:Nat):Int)*a≤281474976710656∧a≤281474976710656) then k0 (b,0,List.replicate a.toNat (0:Int)) else none
abbrev YF49:Type:=Int→Int→((Int×Int×LI)→Option Ans)→Option Ans
theorem F49_eq (fuel:Nat) (a b:Int) (k:Ev.Cont):evalFn tab (G49 fuel) J0 kp49 fuel Try.f49 [.c (i6 a),.c (i6 b)] [] k=F_coder_New fuel a b (fun r=>match r with | (d,e,f)=>k (.tup [(true,[i6 d,.own 0]),(false,[i6 e])],[.vec 3 (.int .i64) f true])):=by
  kernel_rfl
theorem hG49 (fuel:Nat):GOK Try.prog (G49 fuel):=
  gok_nil
def spg49 (F:YF49):Ev.Spec:=fun args objs k=>match args,objs with | [.c (i6 a),.c (i6 b)],[]=>F a b (fun r=>match r with | (d,e,f)=>k (.tup [(true,[i6 d,.own 0]),(false,[i6 e])],[.vec 3 (.int .i64) f true])) | _,_=>none
def spec49 (fuel:Nat):Ev.Spec:=spg49 (F_coder_New fuel)
theorem ok49 (fuel:Nat):FnOK Try.prog 49 (spec49 fuel):=by
  intro args objs kk r h
  unfold spec49 spg49 at h
  split at h
  · skip
    exact fo0 (hG49 fuel) Try.func49 rfl (by kernel_rfl) _ _ kk r ((F49_eq fuel _ _ kk).trans h)
  · cases h
def kp100 (i:Nat):Option (List Nat):=Ev.look i [(7,[3,24,25,26]),(100000,[]),(400000,[2])]
def Gg100 (f:Nat):Option Ev.Spec:=Ev.look f []
def G100 (fuel:Nat):Nat→Option Ev.Spec:=Gg100
def S_coder_Valid_0 (fuel:Nat) (v:Int×(List Int)×Int×Int) (c:(Int×(List Int)×Int×Int)→Option Ans) (B:(Bool→Option Ans)×(Unit→Option Ans)):Option Ans:=match v,B with | (e,d,f,a),(ret,b)=>bif decide (a < f) then bif decide ((0:Int)≤a∧a < (↑d.length:Int)) then bif decide (d.getD a.toNat (0:Int) < (0:Int)) then ret false else bif decide (d.getD a.toNat (0:Int)≥e) then ret false else c (e,d,f,i64.wrap (a+(1:Int))) else none else b ()
def L_coder_Valid_0 (fuel:Nat) (v:Int×(List Int)×Int×Int) (ret:(Bool→Option Ans)) (b:(Unit→Option Ans)):Option Ans:=iter (S_coder_Valid_0 fuel) fuel v (ret,b)
def T100_0 (v:Int×LI×Int×Int):Ev.St:=match v with | (a,b,d,e)=>⟨[(3,.c (i6 a)),(24,.c (.sl (.int .i64) b)),(25,.c (i6 d)),(26,.c (i6 e))],[],0,0⟩
def E100_0 (K:KT):(Bool→OA)×(Unit→OA):=((fun v=>match v with | a=>K .ret ⟨[(2,.c (.bool a))],[],0,0⟩),(fun v=>match v with | ()=>K .normal ⟨[],[],0,0⟩))
theorem S100_0_ok (fuel:Nat) (R:Ev.St→OA) (K:KT) (a:Int) (b:LI) (c d:Int):evalCode tab (G100 fuel) J0 kp100 fuel (bodyOf 0 Try.f100) (T100_0 (a,b,c,d)) (lc kp100 7 0 R K)=S_coder_Valid_0 fuel (a,b,c,d) (fun v=>R (T100_0 v)) (E100_0 K):=by
  kernel_rfl
def B100_0 (fuel:Nat):Ev.Blk:=fun st K=>match canonO (kp100 7) st with | some s=>(match s with | ⟨[(a,.c (i6 b)),(d,.c (.sl (.int .i64) e)),(f,.c (i6 g)),(h,.c (i6 i))],[],j,k⟩=>bif qb [a,d,f,h,j,k] [3,24,25,26,0,0] then iter (S_coder_Valid_0 fuel) fuel (b,e,g,i) (E100_0 K) else none | _=>none) | none=>none
theorem B100_0_ok (fuel:Nat) (st:Ev.St) (K:KT) (r:Ans) (h:B100_0 fuel st K=some r):evalCode tab (G100 fuel) J0 kp100 fuel (.block 0 (.loop (bodyOf 0 Try.f100))) st K=some r:=by
  unfold B100_0 at h
  split at h
  · rename_i s hs
    split at h
    · skip
      obtain ⟨hb,h⟩:=cond_some' h
      cases qb_eq hb
      exact blk_loop (S:=T100_0) (ks:=E100_0) (step:=S_coder_Valid_0 fuel) (v:=(_,_,_,_)) (by kernel_rfl) (by kernel_rfl) (fun R K v=>by obtain ⟨a,b,c,d⟩:=v; exact S100_0_ok fuel R K a b c d) hs h
    · cases h
  · cases h
def J100 (fuel:Nat) (i:Nat):Option Ev.Blk:=Ev.look i [(100000,B100_0 fuel)]
def F_coder_Valid (fuel:Nat) (b:Int) (a:(List Int)) (k0:(Bool)→Option Ans):Option Ans:=bif b != 0 then bif b != 1 then k0 false else bif decide ((↑a.length:Int) > 8192) then k0 false else bif b==1 then (L_coder_Valid_0 fuel (65536,a,(↑a.length:Int),0) (fun ret0_0=>k0 ret0_0) (fun ()=>k0 true)) else (L_coder_Valid_0 fuel (64,a,(↑a.length:Int),0) (fun ret0_0=>k0 ret0_0) (fun ()=>k0 true)) else bif decide ((↑a.length:Int) > 8192) then k0 false else bif b==1 then (L_coder_Valid_0 fuel (65536,a,(↑a.length:Int),0) (fun ret0_0=>k0 ret0_0) (fun ()=>k0 true)) else (L_coder_Valid_0 fuel (64,a,(↑a.length:Int),0) (fun ret0_0=>k0 ret0_0) (fun ()=>k0 true))
abbrev YF100:Type:=Int→LI→(Bool→Option Ans)→Option Ans
theorem F100_eq (fuel:Nat) (a:Int) (b:LI) (k:Ev.Cont):evalFn tab (G100 fuel) (J100 fuel) kp100 fuel Try.f100 [.agg [i6 a,.sl (.int .i64) b]] [] k=F_coder_Valid fuel a b (fun r=>match r with | d=>k (.c (.bool d),[])):=by
  kernel_rfl
theorem hG100 (fuel:Nat):GOK Try.prog (G100 fuel):=
  gok_nil
theorem B100_0_blk (fuel:Nat):BlkOK Try.prog Try.f100.ntmps (.block 0 (.loop (bodyOf 0 Try.f100))) (B100_0 fuel):=bo0 (hG100 fuel) (by kernel_rfl) (by kernel_rfl) (B100_0_ok fuel)
def spg100 (F:YF100):Ev.Spec:=fun args objs k=>match args,objs with | [.agg [i6 a,.sl (.int .i64) b]],[]=>F a b (fun r=>match r with | d=>k (.c (.bool d),[])) | _,_=>none
theorem ok100 (fuel:Nat):FnOK Try.prog 100 (spg100 (F_coder_Valid fuel)):=by
  intro args objs kk r h
  unfold spg100 at h
  split at h
  · skip
    exact fo1 (hG100 fuel) Try.func100 rfl (B100_0_blk fuel) (by kernel_rfl) _ _ kk r ((F100_eq fuel _ _ kk).trans h)
  · cases h
def kp149 (i:Nat):Option (List Nat):=Ev.look i [(4,[0,1,2,4]),(100000,[0,1]),(400000,[0])]
def Gg149 (f:Nat):Option Ev.Spec:=Ev.look f []
def G149 (fuel:Nat):Nat→Option Ev.Spec:=Gg149
def F_coder_chances (fuel:Nat)  (k0:(Unit)→Option Ans):Option Ans:=k0 ()
abbrev YF149:Type:=((Unit)→Option Ans)→Option Ans
theorem F149_eq (fuel:Nat)  (k:Ev.Cont):evalFn tab (G149 fuel) J0 kp149 100 Try.f149 [] [] k=F_coder_chances fuel  (fun r=>match r with | ()=>k (.agg (ctb []),[])):=by
  kernel_rfl
theorem hG149 (fuel:Nat):GOK Try.prog (G149 fuel):=
  gok_nil
theorem fok149 (fuel:Nat):FnOK Try.prog 149 (evalFn tab (G149 fuel) J0 kp149 100 Try.f149):=
  fn_ok tab_ok (hG149 fuel) mixed Try.func149 (c:=(Try.f149.body).getD .skip) rfl (fun q hq=>by
    rw [(by kernel_rfl:obl J0 ((Try.f149.body).getD .skip)= [])] at hq
    cases hq)
def spg149 (F:YF149):Ev.Spec:=fun args objs k=>match args,objs with | [],[]=>F  (fun r=>match r with | ()=>k (.agg (ctb []),[])) | _,_=>none
theorem ok149 (fuel:Nat):FnOK Try.prog 149 (spg149 (F_coder_chances fuel)):=by
  intro args objs kk r h
  unfold spg149 at h
  split at h
  · skip
    exact fok149 fuel _ _ kk r ((F149_eq fuel kk).trans h)
  · cases h
def kp148 (i:Nat):Option (List Nat):=Ev.look i [(200001,[1])]
def Gg148 (f:Nat):Option Ev.Spec:=Ev.look f []
def G148 (fuel:Nat):Nat→Option Ev.Spec:=Gg148
def F_coder_clone (fuel:Nat) (b:Int) (a:(List Int)) (k0:(Int×(List Int))→Option Ans):Option Ans:=bif decide (((0:Nat)+a.length)*(8:Nat)≤(140737488355328:Nat)∧(0:Nat)+a.length≤(140737488355328:Nat)) then k0 (b,[]++a) else none
abbrev YF148:Type:=Int→LI→((Int×LI)→Option Ans)→Option Ans
theorem F148_eq (fuel:Nat) (a:Int) (b:LI) (k:Ev.Cont):evalFn tab (G148 fuel) J0 kp148 fuel Try.f148 [.agg [i6 a,.sl (.int .i64) b]] [] k=F_coder_clone fuel a b (fun r=>match r with | (c,d)=>k (.agg [i6 c,.own 0],[.vec 3 (.int .i64) d true])):=by
  kernel_rfl
theorem hG148 (fuel:Nat):GOK Try.prog (G148 fuel):=
  gok_nil
def spg148 (F:YF148):Ev.Spec:=fun args objs k=>match args,objs with | [.agg [i6 a,.sl (.int .i64) b]],[]=>F a b (fun r=>match r with | (c,d)=>k (.agg [i6 c,.own 0],[.vec 3 (.int .i64) d true])) | _,_=>none
theorem ok148 (fuel:Nat):FnOK Try.prog 148 (spg148 (F_coder_clone fuel)):=by
  intro args objs kk r h
  unfold spg148 at h
  split at h
  · skip
    exact fo0 (hG148 fuel) Try.func148 rfl (by kernel_rfl) _ _ kk r ((F148_eq fuel _ _ kk).trans h)
  · cases h
def kp101 (i:Nat):Option (List Nat):=Ev.look i []
def Gg101 (a:YF148) (b:YF149) (f:Nat):Option Ev.Spec:=Ev.look f [(148,spg148 a),(149,spg149 b)]
def G101 (fuel:Nat):Nat→Option Ev.Spec:=Gg101 (F_coder_clone fuel) (F_coder_chances fuel)
def Fg_coder_begin (fuel:Nat) (a:YF148) (b:YF149) (e:Int) (f:LI) (k0:(Int×Int×Int×LI)→OA):OA:=(a e f (fun (c,d)=>(b (fun g=>k0 (c,0,4294967295,d)))))
abbrev YF101:Type:=Int→LI→((Int×Int×Int×LI)→Option Ans)→Option Ans
def F_coder_begin (fuel:Nat):YF101:=Fg_coder_begin fuel (F_coder_clone fuel) (F_coder_chances fuel)
theorem F101_eqg (fuel:Nat) (a:YF148) (b:YF149) (c:Int) (d:LI) (k:Ev.Cont):evalFn tab (Gg101 a b) J0 kp101 fuel Try.f101 [.agg [i6 c,.sl (.int .i64) d]] [] k=Fg_coder_begin fuel a b c d (fun r=>match r with | (e,f,g,h)=>k (.agg (i6 e::.own 0::ctb (.int .u64 f::.int .u64 g::[])),[.vec 3 (.int .i64) h true])):=by
  kernel_rfl
theorem hG101 (fuel:Nat):GOK Try.prog (G101 fuel):=
  gc (ok148 fuel) Try.func148 (by kernel_rfl) rfl <|
  gc (ok149 fuel) Try.func149 (by kernel_rfl) rfl <|
  gok_nil
def spg101 (F:YF101):Ev.Spec:=fun args objs k=>match args,objs with | [.agg [i6 a,.sl (.int .i64) b]],[]=>F a b (fun r=>match r with | (c,d,e,f)=>k (.agg (i6 c::.own 0::ctb (.int .u64 d::.int .u64 e::[])),[.vec 3 (.int .i64) f true])) | _,_=>none
theorem ok101 (fuel:Nat):FnOK Try.prog 101 (spg101 (F_coder_begin fuel)):=by
  intro args objs kk r h
  unfold spg101 at h
  split at h
  · skip
    exact fo0 (hG101 fuel) Try.func101 rfl (by kernel_rfl) _ _ kk r ((F101_eqg fuel (F_coder_clone fuel) (F_coder_chances fuel) _ _ kk).trans h)
  · cases h
def kp50 (i:Nat):Option (List Nat):=Ev.look i [(600000,[])]
def Gg50 (a:YF100) (b:YF101) (f:Nat):Option Ev.Spec:=Ev.look f [(100,spg100 a),(101,spg101 b)]
def G50 (fuel:Nat):Nat→Option Ev.Spec:=Gg50 (F_coder_Valid fuel) (F_coder_begin fuel)
def Fg_coder_NewEncoder (fuel:Nat) (c:YF100) (d:YF101) (a:Int) (b:LI) (k0:(Int)→OA) (k1:(Int×Int×Int×Int×Bool×LI×LI)→OA):OA:=(c a b (fun i=>bif !i then k0 (10) else (d a b (fun (e,f,g,h)=>k1 (0,e,f,g,true,h,[])))))
abbrev YF50:Type:=Int→LI→(Int→Option Ans)→((Int×Int×Int×Int×Bool×LI×LI)→Option Ans)→Option Ans
def F_coder_NewEncoder (fuel:Nat):YF50:=Fg_coder_NewEncoder fuel (F_coder_Valid fuel) (F_coder_begin fuel)
theorem F50_eqg (fuel:Nat) (b:YF100) (c:YF101) (d:Int) (e:LI) (k:Ev.Cont):evalFn tab (Gg50 b c) J0 kp50 fuel Try.f50 [.agg [i6 d,.sl (.int .i64) e]] [] k=Fg_coder_NewEncoder fuel b c d e (fun r=>match r with | a=>k (.tup [(false,[.nilptr]),(false,[i6 a])],[])) (fun r=>match r with | (a,f,g,h,i,j,l)=>k (.tup [(false,[.ptr 0 0]),(false,[i6 a])],[.cells 148 (i6 f::.own 1::ctb (.int .u64 g::.int .u64 h::.own 2::.bool i::[])),.vec 3 (.int .i64) j true,.vec 5 (.int .u8) l true])):=by
  kernel_rfl
theorem hG50 (fuel:Nat):GOK Try.prog (G50 fuel):=
  gc (ok100 fuel) Try.func100 (by kernel_rfl) rfl <|
  gc (ok101 fuel) Try.func101 (by kernel_rfl) rfl <|
  gok_nil
def spg50 (F:YF50):Ev.Spec:=fun args objs k=>match args,objs with | [.agg [i6 b,.sl (.int .i64) c]],[]=>F b c (fun r=>match r with | a=>k (.tup [(false,[.nilptr]),(false,[i6 a])],[])) (fun r=>match r with | (a,d,e,f,g,h,i)=>k (.tup [(false,[.ptr 0 0]),(false,[i6 a])],[.cells 148 (i6 d::.own 1::ctb (.int .u64 e::.int .u64 f::.own 2::.bool g::[])),.vec 3 (.int .i64) h true,.vec 5 (.int .u8) i true])) | _,_=>none
def spec50 (fuel:Nat):Ev.Spec:=spg50 (F_coder_NewEncoder fuel)
theorem ok50 (fuel:Nat):FnOK Try.prog 50 (spec50 fuel):=by
  intro args objs kk r h
  unfold spec50 spg50 at h
  split at h
  · skip
    exact fo0 (hG50 fuel) Try.func50 rfl (by kernel_rfl) _ _ kk r ((F50_eqg fuel (F_coder_Valid fuel) (F_coder_begin fuel) _ _ kk).trans h)
  · cases h
def kp111_a20 (i:Nat):Option (List Nat):=Ev.look i []
def Gg111_a20 (f:Nat):Option Ev.Spec:=Ev.look f []
def G111_a20 (fuel:Nat):Nat→Option Ev.Spec:=Gg111_a20
def F_coder_Encoder_none_a20 (fuel:Nat) (b c d:Int) (a:Bool) (e f:(List Int)) (k0:(Bool×Int×Int×Int×Bool×(List Int)×(List Int))→Option Ans):Option Ans:=k0 (!a,b,c,d,a,e,f)
abbrev YF111_a20:Type:=Int→Int→Int→Bool→LI→LI→((Bool×Int×Int×Int×Bool×LI×LI)→Option Ans)→Option Ans
theorem F111_a20_eq (fuel:Nat) (a b d:Int) (e:Bool) (f g:LI) (k:Ev.Cont):evalFn tab (G111_a20 fuel) J0 kp111_a20 fuel Try.f111 [.c (.ptr 0 0)] [.cells 148 (i6 a::.own 1::ctb (.int .u64 b::.int .u64 d::.own 2::.bool e::[])),.vec 3 (.int .i64) f false,.vec 5 (.int .u8) g false] k=F_coder_Encoder_none_a20 fuel a b d e f g (fun r=>match r with | (h,i,j,l,m,n,o)=>k (.c (.bool h),[.cells 148 (i6 i::.own 1::ctb (.int .u64 j::.int .u64 l::.own 2::.bool m::[])),.vec 3 (.int .i64) n false,.vec 5 (.int .u8) o false])):=by
  kernel_rfl
theorem hG111_a20 (fuel:Nat):GOK Try.prog (G111_a20 fuel):=
  gok_nil
def spg111_a20 (F:YF111_a20):Ev.Spec:=fun args objs k=>match args,objs with | [.c (.ptr b d)],[.cells e a,.vec f (.int .i64) g false,.vec h (.int .u8) i false]=>(match splitRun 2 ctn a with | some ([i6 j,.own l],[.int .u64 m,.int .u64 n,.own o,.bool p])=>bif qb [b,d,e,f,h,l,o] [0,0,148,3,5,1,2] then F j m n p g i (fun r=>match r with | (q,s,t,u,v,w,x)=>k (.c (.bool q),[.cells 148 (i6 s::.own 1::ctb (.int .u64 t::.int .u64 u::.own 2::.bool v::[])),.vec 3 (.int .i64) w false,.vec 5 (.int .u8) x false])) else none | _=>none) | _,_=>none
theorem ok111_a20 (fuel:Nat):FnOK Try.prog 111 (spg111_a20 (F_coder_Encoder_none_a20 fuel)):=by
  intro args objs kk r h
  unfold spg111_a20 at h
  split at h
  · skip
    split at h
    rotate_left 1
    · cases h
    rename_i hsp
    have esp:=splitRun_eq hsp
    subst esp
    obtain ⟨hb,h⟩:=cond_some' h
    cases qb_eq hb
    exact fo0 (hG111_a20 fuel) Try.func111 rfl (by kernel_rfl) _ _ kk r ((F111_a20_eq fuel _ _ _ _ _ _ kk).trans h)
  · cases h
def kp108_a20 (i:Nat):Option (List Nat):=Ev.look i []
def Gg108_a20 (a:YF111_a20) (b:YF148) (f:Nat):Option Ev.Spec:=Ev.look f [(111,spg111_a20 a),(148,spg148 b)]
def G108_a20 (fuel:Nat):Nat→Option Ev.Spec:=Gg108_a20 (F_coder_Encoder_none_a20 fuel) (F_coder_clone fuel)
def Fg_coder_Encoder_Model_a20 (fuel:Nat) (g:YF111_a20) (h:YF148) (l m n:Int) (o:Bool) (p q:LI) (k0:(Int×Int×Int×Int×Bool×LI×LI×LI)→OA):OA:=(g l m n o p q (fun (i,a,c,d,e,b,f)=>bif i then k0 (0,a,c,d,e,b,f,[]) else (h a b (fun (j,k)=>k0 (j,a,c,d,e,b,f,k)))))
abbrev YF108_a20:Type:=Int→Int→Int→Bool→LI→LI→((Int×Int×Int×Int×Bool×LI×LI×LI)→Option Ans)→Option Ans
def F_coder_Encoder_Model_a20 (fuel:Nat):YF108_a20:=Fg_coder_Encoder_Model_a20 fuel (F_coder_Encoder_none_a20 fuel) (F_coder_clone fuel)
theorem F108_a20_eqg (fuel:Nat) (a:YF111_a20) (b:YF148) (d e f:Int) (g:Bool) (h i:LI) (k:Ev.Cont):evalFn tab (Gg108_a20 a b) J0 kp108_a20 fuel Try.f108 [.c (.ptr 0 0)] [.cells 148 (i6 d::.own 1::ctb (.int .u64 e::.int .u64 f::.own 2::.bool g::[])),.vec 3 (.int .i64) h false,.vec 5 (.int .u8) i false] k=Fg_coder_Encoder_Model_a20 fuel a b d e f g h i (fun r=>match r with | (j,l,m,n,o,p,q,s)=>k (.agg [i6 j,.own 3],[.cells 148 (i6 l::.own 1::ctb (.int .u64 m::.int .u64 n::.own 2::.bool o::[])),.vec 3 (.int .i64) p false,.vec 5 (.int .u8) q false,.vec 3 (.int .i64) s true])):=by
  kernel_rfl
theorem hG108_a20 (fuel:Nat):GOK Try.prog (G108_a20 fuel):=
  gc (ok111_a20 fuel) Try.func111 (by kernel_rfl) rfl <|
  gc (ok148 fuel) Try.func148 (by kernel_rfl) rfl <|
  gok_nil
def spg108_a20 (F:YF108_a20):Ev.Spec:=fun args objs k=>match args,objs with | [.c (.ptr b d)],[.cells e a,.vec f (.int .i64) g false,.vec h (.int .u8) i false]=>(match splitRun 2 ctn a with | some ([i6 j,.own l],[.int .u64 m,.int .u64 n,.own o,.bool p])=>bif qb [b,d,e,f,h,l,o] [0,0,148,3,5,1,2] then F j m n p g i (fun r=>match r with | (q,s,t,u,v,w,x,y)=>k (.agg [i6 q,.own 3],[.cells 148 (i6 s::.own 1::ctb (.int .u64 t::.int .u64 u::.own 2::.bool v::[])),.vec 3 (.int .i64) w false,.vec 5 (.int .u8) x false,.vec 3 (.int .i64) y true])) else none | _=>none) | _,_=>none
def spec108_a20 (fuel:Nat):Ev.Spec:=spg108_a20 (F_coder_Encoder_Model_a20 fuel)
theorem ok108_a20 (fuel:Nat):FnOK Try.prog 108 (spec108_a20 fuel):=by
  intro args objs kk r h
  unfold spec108_a20 spg108_a20 at h
  split at h
  · skip
    split at h
    rotate_left 1
    · cases h
    rename_i hsp
    have esp:=splitRun_eq hsp
    subst esp
    obtain ⟨hb,h⟩:=cond_some' h
    cases qb_eq hb
    exact fo0 (hG108_a20 fuel) Try.func108 rfl (by kernel_rfl) _ _ kk r ((F108_a20_eqg fuel (F_coder_Encoder_none_a20 fuel) (F_coder_clone fuel) _ _ _ _ _ _ kk).trans h)
  · cases h
def kp153_a20 (i:Nat):Option (List Nat):=Ev.look i []
def Gg153_a20 (f:Nat):Option Ev.Spec:=Ev.look f []
def G153_a20 (fuel:Nat):Nat→Option Ev.Spec:=Gg153_a20
def F_coder_interval_lose_a20 (fuel:Nat) (b a c:Int) (d:Bool) (e f:(List Int)) (k0:(Int×Int×Int×Int×Bool×(List Int)×(List Int))→Option Ans):Option Ans:=k0 (u8.wrap (Ev.ishr IntKind.u64 a 24),b,Ev.iand IntKind.u64 (Ev.ishl IntKind.u64 a 8) 4294967295,Ev.ior IntKind.u64 (Ev.iand IntKind.u64 (Ev.ishl IntKind.u64 c 8) 4294967295) 255,d,e,f)
abbrev YF153_a20:Type:=Int→Int→Int→Bool→LI→LI→((Int×Int×Int×Int×Bool×LI×LI)→Option Ans)→Option Ans
theorem F153_a20_eq (fuel:Nat) (a b d:Int) (e:Bool) (f g:LI) (k:Ev.Cont):evalFn tab (G153_a20 fuel) J0 kp153_a20 fuel Try.f153 [.c (.ptr 0 0)] [.cells 148 (i6 a::.own 1::ctb (.int .u64 b::.int .u64 d::.own 2::.bool e::[])),.vec 3 (.int .i64) f false,.vec 5 (.int .u8) g false] k=F_coder_interval_lose_a20 fuel a b d e f g (fun r=>match r with | (h,i,j,l,m,n,o)=>k (.c (.int .u8 h),[.cells 148 (i6 i::.own 1::ctb (.int .u64 j::.int .u64 l::.own 2::.bool m::[])),.vec 3 (.int .i64) n false,.vec 5 (.int .u8) o false])):=by
  kernel_rfl
theorem hG153_a20 (fuel:Nat):GOK Try.prog (G153_a20 fuel):=
  gok_nil
def spg153_a20 (F:YF153_a20):Ev.Spec:=fun args objs k=>match args,objs with | [.c (.ptr b d)],[.cells e a,.vec f (.int .i64) g false,.vec h (.int .u8) i false]=>(match splitRun 2 ctn a with | some ([i6 j,.own l],[.int .u64 m,.int .u64 n,.own o,.bool p])=>bif qb [b,d,e,f,h,l,o] [0,0,148,3,5,1,2] then F j m n p g i (fun r=>match r with | (q,s,t,u,v,w,x)=>k (.c (.int .u8 q),[.cells 148 (i6 s::.own 1::ctb (.int .u64 t::.int .u64 u::.own 2::.bool v::[])),.vec 3 (.int .i64) w false,.vec 5 (.int .u8) x false])) else none | _=>none) | _,_=>none
theorem ok153_a20 (fuel:Nat):FnOK Try.prog 153 (spg153_a20 (F_coder_interval_lose_a20 fuel)):=by
  intro args objs kk r h
  unfold spg153_a20 at h
  split at h
  · skip
    split at h
    rotate_left 1
    · cases h
    rename_i hsp
    have esp:=splitRun_eq hsp
    subst esp
    obtain ⟨hb,h⟩:=cond_some' h
    cases qb_eq hb
    exact fo0 (hG153_a20 fuel) Try.func153 rfl (by kernel_rfl) _ _ kk r ((F153_a20_eq fuel _ _ _ _ _ _ kk).trans h)
  · cases h
def kp180_bb9 (i:Nat):Option (List Nat):=Ev.look i []
def Gg180_bb9 (f:Nat):Option Ev.Spec:=Ev.look f []
def G180_bb9 (fuel:Nat):Nat→Option Ev.Spec:=Gg180_bb9
def F_coder_table_chance_bb9 (fuel:Nat) (b a:Int) (k0:(Int)→Option Ans):Option Ans:=bif b==1 then bif decide (i64.wrap (i64.wrap (i64.wrap (2*i64.wrap (a.tdiv 256))+i64.wrap (2*a.tmod 256))+2)=0) then none else k0 (bif decide (4095 < bif decide (1 > i64.wrap ((i64.wrap (i64.wrap (i64.wrap (2*a.tmod 256)+1)*4096)).tdiv (i64.wrap (i64.wrap (i64.wrap (2*i64.wrap (a.tdiv 256))+i64.wrap (2*a.tmod 256))+2)))) then 1 else i64.wrap ((i64.wrap (i64.wrap (i64.wrap (2*a.tmod 256)+1)*4096)).tdiv (i64.wrap (i64.wrap (i64.wrap (2*i64.wrap (a.tdiv 256))+i64.wrap (2*a.tmod 256))+2)))) then 4095 else bif decide (1 > i64.wrap ((i64.wrap (i64.wrap (i64.wrap (2*a.tmod 256)+1)*4096)).tdiv (i64.wrap (i64.wrap (i64.wrap (2*i64.wrap (a.tdiv 256))+i64.wrap (2*a.tmod 256))+2)))) then 1 else i64.wrap ((i64.wrap (i64.wrap (i64.wrap (2*a.tmod 256)+1)*4096)).tdiv (i64.wrap (i64.wrap (i64.wrap (2*i64.wrap (a.tdiv 256))+i64.wrap (2*a.tmod 256))+2)))) else bif decide (a≥32) then bif decide (0≤i64.wrap (a - 32)∧i64.wrap (a - 32) < (↑(32:Nat):Int)) then bif decide (i64.wrap (a - 32)=(↑(0:Nat):Int)) then k0 (i64.wrap ((4096:Int) - (2048:Int))) else bif decide (i64.wrap (a - 32)=(↑(1:Nat):Int)) then k0 (i64.wrap ((4096:Int) - (1792:Int))) else bif decide (i64.wrap (a - 32)=(↑(2:Nat):Int)) then k0 (i64.wrap ((4096:Int) - (1568:Int))) else bif decide (i64.wrap (a - 32)=(↑(3:Nat):Int)) then k0 (i64.wrap ((4096:Int) - (1372:Int))) else bif decide (i64.wrap (a - 32)=(↑(4:Nat):Int)) then k0 (i64.wrap ((4096:Int) - (1201:Int))) else bif decide (i64.wrap (a - 32)=(↑(5:Nat):Int)) then k0 (i64.wrap ((4096:Int) - (1051:Int))) else bif decide (i64.wrap (a - 32)=(↑(6:Nat):Int)) then k0 (i64.wrap ((4096:Int) - (920:Int))) else bif decide (i64.wrap (a - 32)=(↑(7:Nat):Int)) then k0 (i64.wrap ((4096:Int) - (805:Int))) else bif decide (i64.wrap (a - 32)=(↑(8:Nat):Int)) then k0 (i64.wrap ((4096:Int) - (705:Int))) else bif decide (i64.wrap (a - 32)=(↑(9:Nat):Int)) then k0 (i64.wrap ((4096:Int) - (617:Int))) else bif decide (i64.wrap (a - 32)=(↑(10:Nat):Int)) then k0 (i64.wrap ((4096:Int) - (540:Int))) else bif decide (i64.wrap (a - 32)=(↑(11:Nat):Int)) then k0 (i64.wrap ((4096:Int) - (473:Int))) else bif decide (i64.wrap (a - 32)=(↑(12:Nat):Int)) then k0 (i64.wrap ((4096:Int) - (414:Int))) else bif decide (i64.wrap (a - 32)=(↑(13:Nat):Int)) then k0 (i64.wrap ((4096:Int) - (363:Int))) else bif decide (i64.wrap (a - 32)=(↑(14:Nat):Int)) then k0 (i64.wrap ((4096:Int) - (318:Int))) else bif decide (i64.wrap (a - 32)=(↑(15:Nat):Int)) then k0 (i64.wrap ((4096:Int) - (279:Int))) else bif decide (i64.wrap (a - 32)=(↑(16:Nat):Int)) then k0 (i64.wrap ((4096:Int) - (245:Int))) else bif decide (i64.wrap (a - 32)=(↑(17:Nat):Int)) then k0 (i64.wrap ((4096:Int) - (215:Int))) else bif decide (i64.wrap (a - 32)=(↑(18:Nat):Int)) then k0 (i64.wrap ((4096:Int) - (189:Int))) else bif decide (i64.wrap (a - 32)=(↑(19:Nat):Int)) then k0 (i64.wrap ((4096:Int) - (166:Int))) else bif decide (i64.wrap (a - 32)=(↑(20:Nat):Int)) then k0 (i64.wrap ((4096:Int) - (146:Int))) else bif decide (i64.wrap (a - 32)=(↑(21:Nat):Int)) then k0 (i64.wrap ((4096:Int) - (128:Int))) else bif decide (i64.wrap (a - 32)=(↑(22:Nat):Int)) then k0 (i64.wrap ((4096:Int) - (112:Int))) else bif decide (i64.wrap (a - 32)=(↑(23:Nat):Int)) then k0 (i64.wrap ((4096:Int) - (98:Int))) else bif decide (i64.wrap (a - 32)=(↑(24:Nat):Int)) then k0 (i64.wrap ((4096:Int) - (86:Int))) else bif decide (i64.wrap (a - 32)=(↑(25:Nat):Int)) then k0 (i64.wrap ((4096:Int) - (76:Int))) else bif decide (i64.wrap (a - 32)=(↑(26:Nat):Int)) then k0 (i64.wrap ((4096:Int) - (67:Int))) else bif decide (i64.wrap (a - 32)=(↑(27:Nat):Int)) then k0 (i64.wrap ((4096:Int) - (59:Int))) else bif decide (i64.wrap (a - 32)=(↑(28:Nat):Int)) then k0 (i64.wrap ((4096:Int) - (52:Int))) else bif decide (i64.wrap (a - 32)=(↑(29:Nat):Int)) then k0 (i64.wrap ((4096:Int) - (46:Int))) else bif decide (i64.wrap (a - 32)=(↑(30:Nat):Int)) then k0 (i64.wrap ((4096:Int) - (41:Int))) else bif decide (i64.wrap (a - 32)=(↑(31:Nat):Int)) then k0 (i64.wrap ((4096:Int) - (36:Int))) else none else none else bif decide (0≤a∧a < (↑(32:Nat):Int)) then bif decide (a=(↑(0:Nat):Int)) then k0 (2048) else bif decide (a=(↑(1:Nat):Int)) then k0 (1792) else bif decide (a=(↑(2:Nat):Int)) then k0 (1568) else bif decide (a=(↑(3:Nat):Int)) then k0 (1372) else bif decide (a=(↑(4:Nat):Int)) then k0 (1201) else bif decide (a=(↑(5:Nat):Int)) then k0 (1051) else bif decide (a=(↑(6:Nat):Int)) then k0 (920) else bif decide (a=(↑(7:Nat):Int)) then k0 (805) else bif decide (a=(↑(8:Nat):Int)) then k0 (705) else bif decide (a=(↑(9:Nat):Int)) then k0 (617) else bif decide (a=(↑(10:Nat):Int)) then k0 (540) else bif decide (a=(↑(11:Nat):Int)) then k0 (473) else bif decide (a=(↑(12:Nat):Int)) then k0 (414) else bif decide (a=(↑(13:Nat):Int)) then k0 (363) else bif decide (a=(↑(14:Nat):Int)) then k0 (318) else bif decide (a=(↑(15:Nat):Int)) then k0 (279) else bif decide (a=(↑(16:Nat):Int)) then k0 (245) else bif decide (a=(↑(17:Nat):Int)) then k0 (215) else bif decide (a=(↑(18:Nat):Int)) then k0 (189) else bif decide (a=(↑(19:Nat):Int)) then k0 (166) else bif decide (a=(↑(20:Nat):Int)) then k0 (146) else bif decide (a=(↑(21:Nat):Int)) then k0 (128) else bif decide (a=(↑(22:Nat):Int)) then k0 (112) else bif decide (a=(↑(23:Nat):Int)) then k0 (98) else bif decide (a=(↑(24:Nat):Int)) then k0 (86) else bif decide (a=(↑(25:Nat):Int)) then k0 (76) else bif decide (a=(↑(26:Nat):Int)) then k0 (67) else bif decide (a=(↑(27:Nat):Int)) then k0 (59) else bif decide (a=(↑(28:Nat):Int)) then k0 (52) else bif decide (a=(↑(29:Nat):Int)) then k0 (46) else bif decide (a=(↑(30:Nat):Int)) then k0 (41) else bif decide (a=(↑(31:Nat):Int)) then k0 (36) else none else none
abbrev YF180_bb9:Type:=Int→Int→(Int→Option Ans)→Option Ans
theorem F180_bb9_eq (fuel:Nat) (a b:Int) (k:Ev.Cont):evalFn tab (G180_bb9 fuel) J0 kp180_bb9 fuel Try.f180 [.agg (ctb []),.c (i6 a),.c (i6 b)] [] k=F_coder_table_chance_bb9 fuel a b (fun r=>match r with | d=>k (.c (i6 d),[])):=by
  kernel_rfl
theorem hG180_bb9 (fuel:Nat):GOK Try.prog (G180_bb9 fuel):=
  gok_nil
def spg180_bb9 (F:YF180_bb9):Ev.Spec:=fun args objs k=>match args,objs with | [.agg a,.c (i6 b),.c (i6 d)],[]=>(match splitRun 0 ctn a with | some ([],[])=>bif true then F b d (fun r=>match r with | e=>k (.c (i6 e),[])) else none | _=>none) | _,_=>none
theorem ok180_bb9 (fuel:Nat):FnOK Try.prog 180 (spg180_bb9 (F_coder_table_chance_bb9 fuel)):=by
  intro args objs kk r h
  unfold spg180_bb9 at h
  split at h
  · skip
    split at h
    rotate_left 1
    · cases h
    rename_i hsp
    have esp:=splitRun_eq hsp
    subst esp
    exact fo0 (hG180_bb9 fuel) Try.func180 rfl (by kernel_rfl) _ _ kk r ((F180_bb9_eq fuel _ _ kk).trans h)
  · cases h
def kp151_402 (i:Nat):Option (List Nat):=Ev.look i [(200001,[0])]
def Gg151_402 (a:YF180_bb9) (f:Nat):Option Ev.Spec:=Ev.look f [(180,spg180_bb9 a)]
def G151_402 (fuel:Nat):Nat→Option Ev.Spec:=Gg151_402 (F_coder_table_chance_bb9 fuel)
def Fg_coder_interval_mid_402 (fuel:Nat) (g:YF180_bb9) (b e:Int) (a c:Int) (h:Bool) (d i:LI) (k0:(Int×Int×Int×Int×Bool×LI×LI)→OA):OA:=bif decide (0≤b∧b < (↑d.length:Int)) then (g e (d.getD b.toNat 0) (fun f=>k0 (u64.wrap (u64.wrap (a+u64.wrap (u64.wrap ((u64.wrap (c - a)).tdiv 4096)*u64.wrap f))+u64.wrap ((u64.wrap ((u64.wrap (c - a)).tmod 4096*u64.wrap f)).tdiv 4096)),e,a,c,h,d,i))) else none
abbrev YF151_402:Type:=Int→Int→Int→Int→Bool→LI→LI→((Int×Int×Int×Int×Bool×LI×LI)→Option Ans)→Option Ans
def F_coder_interval_mid_402 (fuel:Nat):YF151_402:=Fg_coder_interval_mid_402 fuel (F_coder_table_chance_bb9 fuel)
theorem F151_402_eqg (fuel:Nat) (a:YF180_bb9) (b d:Int) (e f:Int) (g:Bool) (h i:LI) (k:Ev.Cont):evalFn tab (Gg151_402 a) J0 kp151_402 fuel Try.f151 [.c (.ptr 0 0),.c (i6 b)] [.cells 148 (i6 d::.own 1::ctb (.int .u64 e::.int .u64 f::.own 2::.bool g::[])),.vec 3 (.int .i64) h false,.vec 5 (.int .u8) i false] k=Fg_coder_interval_mid_402 fuel a b d e f g h i (fun r=>match r with | (j,l,m,n,o,p,q)=>k (.c (.int .u64 j),[.cells 148 (i6 l::.own 1::ctb (.int .u64 m::.int .u64 n::.own 2::.bool o::[])),.vec 3 (.int .i64) p false,.vec 5 (.int .u8) q false])):=by
  kernel_rfl
theorem hG151_402 (fuel:Nat):GOK Try.prog (G151_402 fuel):=
  gc (ok180_bb9 fuel) Try.func180 (by kernel_rfl) rfl <|
  gok_nil
def spg151_402 (F:YF151_402):Ev.Spec:=fun args objs k=>match args,objs with | [.c (.ptr b d),.c (i6 e)],[.cells f a,.vec g (.int .i64) h false,.vec i (.int .u8) j false]=>(match splitRun 2 ctn a with | some ([i6 l,.own m],[.int .u64 n,.int .u64 o,.own p,.bool q])=>bif qb [b,d,f,g,i,m,p] [0,0,148,3,5,1,2] then F e l n o q h j (fun r=>match r with | (s,t,u,v,w,x,y)=>k (.c (.int .u64 s),[.cells 148 (i6 t::.own 1::ctb (.int .u64 u::.int .u64 v::.own 2::.bool w::[])),.vec 3 (.int .i64) x false,.vec 5 (.int .u8) y false])) else none | _=>none) | _,_=>none
theorem ok151_402 (fuel:Nat):FnOK Try.prog 151 (spg151_402 (F_coder_interval_mid_402 fuel)):=by
  intro args objs kk r h
  unfold spg151_402 at h
  split at h
  · skip
    split at h
    rotate_left 1
    · cases h
    rename_i hsp
    have esp:=splitRun_eq hsp
    subst esp
    obtain ⟨hb,h⟩:=cond_some' h
    cases qb_eq hb
    exact fo0 (hG151_402 fuel) Try.func151 rfl (by kernel_rfl) _ _ kk r ((F151_402_eqg fuel (F_coder_table_chance_bb9 fuel) _ _ _ _ _ _ _ kk).trans h)
  · cases h
def kp152_a20 (i:Nat):Option (List Nat):=Ev.look i [(200001,[0])]
def Gg152_a20 (f:Nat):Option Ev.Spec:=Ev.look f []
def G152_a20 (fuel:Nat):Nat→Option Ev.Spec:=Gg152_a20
def F_coder_interval_same_a20 (fuel:Nat) (c a b:Int) (d:Bool) (e f:(List Int)) (k0:(Bool×Int×Int×Int×Bool×(List Int)×(List Int))→Option Ans):Option Ans:=k0 (Ev.ishr IntKind.u64 a 24==Ev.ishr IntKind.u64 b 24,c,a,b,d,e,f)
abbrev YF152_a20:Type:=Int→Int→Int→Bool→LI→LI→((Bool×Int×Int×Int×Bool×LI×LI)→Option Ans)→Option Ans
theorem F152_a20_eq (fuel:Nat) (a b d:Int) (e:Bool) (f g:LI) (k:Ev.Cont):evalFn tab (G152_a20 fuel) J0 kp152_a20 fuel Try.f152 [.c (.ptr 0 0)] [.cells 148 (i6 a::.own 1::ctb (.int .u64 b::.int .u64 d::.own 2::.bool e::[])),.vec 3 (.int .i64) f false,.vec 5 (.int .u8) g false] k=F_coder_interval_same_a20 fuel a b d e f g (fun r=>match r with | (h,i,j,l,m,n,o)=>k (.c (.bool h),[.cells 148 (i6 i::.own 1::ctb (.int .u64 j::.int .u64 l::.own 2::.bool m::[])),.vec 3 (.int .i64) n false,.vec 5 (.int .u8) o false])):=by
  kernel_rfl
theorem hG152_a20 (fuel:Nat):GOK Try.prog (G152_a20 fuel):=
  gok_nil
def spg152_a20 (F:YF152_a20):Ev.Spec:=fun args objs k=>match args,objs with | [.c (.ptr b d)],[.cells e a,.vec f (.int .i64) g false,.vec h (.int .u8) i false]=>(match splitRun 2 ctn a with | some ([i6 j,.own l],[.int .u64 m,.int .u64 n,.own o,.bool p])=>bif qb [b,d,e,f,h,l,o] [0,0,148,3,5,1,2] then F j m n p g i (fun r=>match r with | (q,s,t,u,v,w,x)=>k (.c (.bool q),[.cells 148 (i6 s::.own 1::ctb (.int .u64 t::.int .u64 u::.own 2::.bool v::[])),.vec 3 (.int .i64) w false,.vec 5 (.int .u8) x false])) else none | _=>none) | _,_=>none
theorem ok152_a20 (fuel:Nat):FnOK Try.prog 152 (spg152_a20 (F_coder_interval_same_a20 fuel)):=by
  intro args objs kk r h
  unfold spg152_a20 at h
  split at h
  · skip
    split at h
    rotate_left 1
    · cases h
    rename_i hsp
    have esp:=splitRun_eq hsp
    subst esp
    obtain ⟨hb,h⟩:=cond_some' h
    cases qb_eq hb
    exact fo0 (hG152_a20 fuel) Try.func152 rfl (by kernel_rfl) _ _ kk r ((F152_a20_eq fuel _ _ _ _ _ _ kk).trans h)
  · cases h
def kp179 (i:Nat):Option (List Nat):=Ev.look i []
def Gg179 (f:Nat):Option Ev.Spec:=Ev.look f []
def G179 (fuel:Nat):Nat→Option Ev.Spec:=Gg179
def F_coder_next (fuel:Nat) (c b a:Int) (k0:(Int)→Option Ans):Option Ans:=bif c==1 then bif decide (0≤a∧a < (↑(2:Nat):Int)) then bif decide (a=(↑(0:Nat):Int)) then bif i64.wrap (b.tdiv 256)==255 then bif decide (0≤a∧a < (↑(2:Nat):Int)) then bif decide (a=(↑(0:Nat):Int)) then bif decide (0≤a∧a < (↑(2:Nat):Int)) then bif decide (a=(↑(0:Nat):Int)) then k0 (i64.wrap (i64.wrap (256*i64.wrap (i64.wrap ((i64.wrap (b.tdiv 256)).tdiv 2)+1))+i64.wrap ((b.tmod 256).tdiv 2))) else bif decide (a=(↑(1:Nat):Int)) then k0 (i64.wrap (i64.wrap (256*i64.wrap ((i64.wrap (b.tdiv 256)).tdiv 2))+i64.wrap (i64.wrap ((i64.wrap (b.tdiv 256)).tdiv 2)+1))) else none else none else bif decide (a=(↑(1:Nat):Int)) then bif decide (0≤a∧a < (↑(2:Nat):Int)) then bif decide (a=(↑(0:Nat):Int)) then k0 (i64.wrap (i64.wrap (256*i64.wrap (i64.wrap ((b.tmod 256).tdiv 2)+1))+i64.wrap ((b.tmod 256).tdiv 2))) else bif decide (a=(↑(1:Nat):Int)) then k0 (i64.wrap (i64.wrap (256*i64.wrap ((i64.wrap (b.tdiv 256)).tdiv 2))+i64.wrap (i64.wrap ((b.tmod 256).tdiv 2)+1))) else none else none else none else none else bif decide (0≤a∧a < (↑(2:Nat):Int)) then bif decide (a=(↑(0:Nat):Int)) then bif decide (0≤a∧a < (↑(2:Nat):Int)) then bif decide (a=(↑(0:Nat):Int)) then k0 (i64.wrap (i64.wrap (256*i64.wrap (i64.wrap (b.tdiv 256)+1))+b.tmod 256)) else bif decide (a=(↑(1:Nat):Int)) then k0 (i64.wrap (i64.wrap (256*i64.wrap (b.tdiv 256))+i64.wrap (i64.wrap (b.tdiv 256)+1))) else none else none else bif decide (a=(↑(1:Nat):Int)) then bif decide (0≤a∧a < (↑(2:Nat):Int)) then bif decide (a=(↑(0:Nat):Int)) then k0 (i64.wrap (i64.wrap ((256:Int)*i64.wrap (b.tmod (256:Int)+(1:Int)))+b.tmod (256:Int))) else bif decide (a=(↑(1:Nat):Int)) then k0 (i64.wrap (i64.wrap ((256:Int)*i64.wrap (b.tdiv (256:Int)))+i64.wrap (b.tmod (256:Int)+(1:Int)))) else none else none else none else none else bif decide (a=(↑(1:Nat):Int)) then bif b.tmod (256:Int)==(255:Int) then bif decide (0≤a∧a < (↑(2:Nat):Int)) then bif decide (a=(↑(0:Nat):Int)) then bif decide (0≤a∧a < (↑(2:Nat):Int)) then bif decide (a=(↑(0:Nat):Int)) then k0 (i64.wrap (i64.wrap (256*i64.wrap (i64.wrap ((i64.wrap (b.tdiv 256)).tdiv 2)+1))+i64.wrap ((b.tmod 256).tdiv 2))) else bif decide (a=(↑(1:Nat):Int)) then k0 (i64.wrap (i64.wrap (256*i64.wrap ((i64.wrap (b.tdiv 256)).tdiv 2))+i64.wrap (i64.wrap ((i64.wrap (b.tdiv 256)).tdiv 2)+1))) else none else none else bif decide (a=(↑(1:Nat):Int)) then bif decide (0≤a∧a < (↑(2:Nat):Int)) then bif decide (a=(↑(0:Nat):Int)) then k0 (i64.wrap (i64.wrap (256*i64.wrap (i64.wrap ((b.tmod 256).tdiv 2)+1))+i64.wrap ((b.tmod 256).tdiv 2))) else bif decide (a=(↑(1:Nat):Int)) then k0 (i64.wrap (i64.wrap (256*i64.wrap ((i64.wrap (b.tdiv 256)).tdiv 2))+i64.wrap (i64.wrap ((b.tmod 256).tdiv 2)+1))) else none else none else none else none else bif decide (0≤a∧a < (↑(2:Nat):Int)) then bif decide (a=(↑(0:Nat):Int)) then bif decide (0≤a∧a < (↑(2:Nat):Int)) then bif decide (a=(↑(0:Nat):Int)) then k0 (i64.wrap (i64.wrap (256*i64.wrap (i64.wrap (b.tdiv 256)+1))+b.tmod 256)) else bif decide (a=(↑(1:Nat):Int)) then k0 (i64.wrap (i64.wrap (256*i64.wrap (b.tdiv 256))+i64.wrap (i64.wrap (b.tdiv 256)+1))) else none else none else bif decide (a=(↑(1:Nat):Int)) then bif decide (0≤a∧a < (↑(2:Nat):Int)) then bif decide (a=(↑(0:Nat):Int)) then k0 (i64.wrap (i64.wrap ((256:Int)*i64.wrap (b.tmod (256:Int)+(1:Int)))+b.tmod (256:Int))) else bif decide (a=(↑(1:Nat):Int)) then k0 (i64.wrap (i64.wrap ((256:Int)*i64.wrap (b.tdiv (256:Int)))+i64.wrap (b.tmod (256:Int)+(1:Int)))) else none else none else none else none else none else none else bif a==i64.wrap (b.tdiv 32) then k0 (i64.wrap (i64.wrap ((32:Int)*i64.wrap (b.tdiv (32:Int)))+bif decide ((31:Int) < i64.wrap (b.tmod (32:Int)+(1:Int))) then (31:Int) else i64.wrap (b.tmod (32:Int)+(1:Int)))) else bif b.tmod (32:Int)==(0:Int) then k0 (i64.wrap (i64.wrap (32*a)+b.tmod 32)) else k0 (i64.wrap (i64.wrap (32*i64.wrap (b.tdiv 32))+i64.wrap (b.tmod 32 - i64.wrap (1+i64.wrap ((b.tmod 32).tdiv 4)))))
abbrev YF179:Type:=Int→Int→Int→(Int→Option Ans)→Option Ans
theorem F179_eq (fuel:Nat) (a b d:Int) (k:Ev.Cont):evalFn tab (G179 fuel) J0 kp179 fuel Try.f179 [.c (i6 a),.c (i6 b),.c (i6 d)] [] k=F_coder_next fuel a b d (fun r=>match r with | e=>k (.c (i6 e),[])):=by
  kernel_rfl
theorem hG179 (fuel:Nat):GOK Try.prog (G179 fuel):=
  gok_nil
def spg179 (F:YF179):Ev.Spec:=fun args objs k=>match args,objs with | [.c (i6 a),.c (i6 b),.c (i6 d)],[]=>F a b d (fun r=>match r with | e=>k (.c (i6 e),[])) | _,_=>none
theorem ok179 (fuel:Nat):FnOK Try.prog 179 (spg179 (F_coder_next fuel)):=by
  intro args objs kk r h
  unfold spg179 at h
  split at h
  · skip
    exact fo0 (hG179 fuel) Try.func179 rfl (by kernel_rfl) _ _ kk r ((F179_eq fuel _ _ _ kk).trans h)
  · cases h
def kp150_546 (i:Nat):Option (List Nat):=Ev.look i [(200003,[0])]
def Gg150_546 (a:YF179) (f:Nat):Option Ev.Spec:=Ev.look f [(179,spg179 a)]
def G150_546 (fuel:Nat):Nat→Option Ev.Spec:=Gg150_546 (F_coder_next fuel)
def Fg_coder_interval_take_546 (fuel:Nat) (f:YF179) (a d:Int) (g c:Int) (j k:Int) (h:Bool) (b i:LI) (k0:(Int×Int×Int×Bool×LI×LI)→OA):OA:=bif d==1 then bif decide (0≤a∧a < (↑b.length:Int)) then (f c (b.getD a.toNat 0) d (fun e=>bif decide (0≤a∧a < (↑b.length:Int)) then k0 (c,j,g,h,b.set a.toNat e,i) else none)) else none else bif decide (0≤a∧a < (↑b.length:Int)) then (f c (b.getD a.toNat 0) d (fun e=>bif decide (0≤a∧a < (↑b.length:Int)) then k0 (c,u64.wrap (g+1),k,h,b.set a.toNat e,i) else none)) else none
abbrev YF150_546:Type:=Int→Int→Int→Int→Int→Int→Bool→LI→LI→((Int×Int×Int×Bool×LI×LI)→Option Ans)→Option Ans
def F_coder_interval_take_546 (fuel:Nat):YF150_546:=Fg_coder_interval_take_546 fuel (F_coder_next fuel)
theorem F150_546_eqg (fuel:Nat) (a:YF179) (b d:Int) (e f:Int) (g h:Int) (i:Bool) (j l:LI) (k:Ev.Cont):evalFn tab (Gg150_546 a) J0 kp150_546 fuel Try.f150 [.c (.ptr 0 0),.c (i6 b),.c (i6 d),.c (.int .u64 e)] [.cells 148 (i6 f::.own 1::ctb (.int .u64 g::.int .u64 h::.own 2::.bool i::[])),.vec 3 (.int .i64) j false,.vec 5 (.int .u8) l false] k=Fg_coder_interval_take_546 fuel a b d e f g h i j l (fun r=>match r with | (m,n,o,p,q,s)=>k (.tup [],[.cells 148 (i6 m::.own 1::ctb (.int .u64 n::.int .u64 o::.own 2::.bool p::[])),.vec 3 (.int .i64) q false,.vec 5 (.int .u8) s false])):=by
  kernel_rfl
theorem hG150_546 (fuel:Nat):GOK Try.prog (G150_546 fuel):=
  gc (ok179 fuel) Try.func179 (by kernel_rfl) rfl <|
  gok_nil
def spg150_546 (F:YF150_546):Ev.Spec:=fun args objs k=>match args,objs with | [.c (.ptr b d),.c (i6 e),.c (i6 f),.c (.int .u64 g)],[.cells h a,.vec i (.int .i64) j false,.vec l (.int .u8) m false]=>(match splitRun 2 ctn a with | some ([i6 n,.own o],[.int .u64 p,.int .u64 q,.own s,.bool t])=>bif qb [b,d,h,i,l,o,s] [0,0,148,3,5,1,2] then F e f g n p q t j m (fun r=>match r with | (u,v,w,x,y,z)=>k (.tup [],[.cells 148 (i6 u::.own 1::ctb (.int .u64 v::.int .u64 w::.own 2::.bool x::[])),.vec 3 (.int .i64) y false,.vec 5 (.int .u8) z false])) else none | _=>none) | _,_=>none
theorem ok150_546 (fuel:Nat):FnOK Try.prog 150 (spg150_546 (F_coder_interval_take_546 fuel)):=by
  intro args objs kk r h
  unfold spg150_546 at h
  split at h
  · skip
    split at h
    rotate_left 1
    · cases h
    rename_i hsp
    have esp:=splitRun_eq hsp
    subst esp
    obtain ⟨hb,h⟩:=cond_some' h
    cases qb_eq hb
    exact fo0 (hG150_546 fuel) Try.func150 rfl (by kernel_rfl) _ _ kk r ((F150_546_eqg fuel (F_coder_next fuel) _ _ _ _ _ _ _ _ _ kk).trans h)
  · cases h
def kp103_cf0 (i:Nat):Option (List Nat):=Ev.look i [(6,[0,1000002]),(100001,[]),(400001,[6]),(600000,[])]
def Gg103_cf0 (a:YF111_a20) (b:YF150_546) (c:YF151_402) (d:YF152_a20) (e:YF153_a20) (f:Nat):Option Ev.Spec:=Ev.look f [(111,spg111_a20 a),(150,spg150_546 b),(151,spg151_402 c),(152,spg152_a20 d),(153,spg153_a20 e)]
def G103_cf0 (fuel:Nat):Nat→Option Ev.Spec:=Gg103_cf0 (F_coder_Encoder_none_a20 fuel) (F_coder_interval_take_546 fuel) (F_coder_interval_mid_402 fuel) (F_coder_interval_same_a20 fuel) (F_coder_interval_lose_a20 fuel)
abbrev V_coder_Encoder_Put_cf0_1:Type:=Int×Int×Int×Bool×LI×LI
abbrev W_coder_Encoder_Put_cf0_1:Type:=(Int×Int×Int×Bool×LI×LI→OA)
def Sg_coder_Encoder_Put_cf0_1 (fuel:Nat) (y:YF111_a20) (z:YF150_546) (A:YF151_402) (q:YF152_a20) (p:YF153_a20) (s t u:Int) (v:Bool) (w x:LI) (c:V_coder_Encoder_Put_cf0_1→OA) (B:W_coder_Encoder_Put_cf0_1):OA:=match B with | b=>(q s t u v w x (fun (r,j,k,l,m,n,o)=>bif r then both ((p j k l m n o (fun (a,e,f,g,h,i,d)=>bif decide ((d.length+ [a].length)*(1:Nat)≤(140737488355328:Nat)∧d.length+ [a].length≤(140737488355328:Nat)) then c (e,f,g,h,i,d++ [a]) else none))) ((p j k l m n o (fun (a,e,f,g,h,i,d)=>both (bif decide ((d.length+ [a].length)*(1:Nat)≤(140737488355328:Nat)∧d.length+ [a].length≤(140737488355328:Nat)) then c (e,f,g,h,i,d++ [a]) else none) (bif decide ((d.length+ [a].length)*(1:Nat)≤(140737488355328:Nat)∧d.length+ [a].length≤(140737488355328:Nat)) then c (e,f,g,h,i,d++ [a]) else none)))) else b (j,k,l,m,n,o)))
def S_coder_Encoder_Put_cf0_1 (fuel:Nat) (v:Int×Int×Int×Bool×(List Int)×(List Int)) (c:(Int×Int×Int×Bool×(List Int)×(List Int))→Option Ans) (B:(Int×Int×Int×Bool×(List Int)×(List Int)→Option Ans)):Option Ans:=match v with | (a,b,d,e,f,g)=>Sg_coder_Encoder_Put_cf0_1 fuel (F_coder_Encoder_none_a20 fuel) (F_coder_interval_take_546 fuel) (F_coder_interval_mid_402 fuel) (F_coder_interval_same_a20 fuel) (F_coder_interval_lose_a20 fuel) a b d e f g c B
def L_coder_Encoder_Put_cf0_1 (fuel:Nat) (v:V_coder_Encoder_Put_cf0_1) (b:W_coder_Encoder_Put_cf0_1):Option Ans:=iter (S_coder_Encoder_Put_cf0_1 fuel) fuel v b
def T103_cf0_1 (v:V_coder_Encoder_Put_cf0_1):Ev.St:=match v with | (a,b,d,e,f,g)=>⟨[(0,.c (.ptr 0 0))],[(0,.cells 148 (i6 a::.own 1::ctb (.int .u64 b::.int .u64 d::.own 2::.bool e::[]))),(1,.vec 3 (.int .i64) f false),(2,.vec 5 (.int .u8) g true)],3,3⟩
def E103_cf0_1 (K:KT):W_coder_Encoder_Put_cf0_1:=(fun v=>match v with | (a,b,c,d,e,f)=>K .normal ⟨[],[(0,.cells 148 (i6 a::.own 1::ctb (.int .u64 b::.int .u64 c::.own 2::.bool d::[]))),(1,.vec 3 (.int .i64) e false),(2,.vec 5 (.int .u8) f true)],3,3⟩)
theorem S103_cf0_1_okg (fuel:Nat) (a:YF111_a20) (b:YF150_546) (c:YF151_402) (d:YF152_a20) (e:YF153_a20) (R:Ev.St→OA) (K:KT) (f g h:Int) (i:Bool) (j k:LI):evalCode tab (Gg103_cf0 a b c d e) J0 kp103_cf0 fuel (bodyOf 1 Try.f103) (T103_cf0_1 (f,g,h,i,j,k)) (lc kp103_cf0 6 1 R K)=Sg_coder_Encoder_Put_cf0_1 fuel a b c d e f g h i j k (fun v=>R (T103_cf0_1 v)) (E103_cf0_1 K):=by
  kernel_rfl
def B103_cf0_1 (fuel:Nat):Ev.Blk:=fun st K=>match canonO (kp103_cf0 6) st with | some s=>(match s with | ⟨[(f,.c (.ptr g h))],[(i,.cells j a),(k,.vec l (.int .i64) m false),(n,.vec o (.int .u8) p true)],q,b⟩=>(match splitRun 2 ctn a with | some ([i6 r,.own d],[.int .u64 t,.int .u64 u,.own e,.bool v])=>bif qb [f,g,h,i,j,k,l,n,o,q,b,d,e] [0,0,0,0,148,1,3,2,5,3,3,1,2] then iter (S_coder_Encoder_Put_cf0_1 fuel) fuel (r,t,u,v,m,p) (E103_cf0_1 K) else none | _=>none) | _=>none) | none=>none
theorem B103_cf0_1_ok (fuel:Nat) (st:Ev.St) (K:KT) (r:Ans) (h:B103_cf0_1 fuel st K=some r):evalCode tab (G103_cf0 fuel) J0 kp103_cf0 fuel (.block 1 (.loop (bodyOf 1 Try.f103))) st K=some r:=by
  unfold B103_cf0_1 at h
  split at h
  · rename_i s hs
    split at h
    · skip
      split at h
      rotate_left 1
      · cases h
      rename_i hsp
      have esp:=splitRun_eq hsp
      subst esp
      obtain ⟨hb,h⟩:=cond_some' h
      cases qb_eq hb
      exact blk_loop (S:=T103_cf0_1) (ks:=E103_cf0_1) (step:=S_coder_Encoder_Put_cf0_1 fuel) (v:=(_,_,_,_,_,_)) (by kernel_rfl) (by kernel_rfl) (fun R K v=>by obtain ⟨a,b,c,d,e,f⟩:=v; exact S103_cf0_1_okg fuel (F_coder_Encoder_none_a20 fuel) (F_coder_interval_take_546 fuel) (F_coder_interval_mid_402 fuel) (F_coder_interval_same_a20 fuel) (F_coder_interval_lose_a20 fuel) R K a b c d e f) hs h
    · cases h
  · cases h
def J103_cf0 (fuel:Nat) (i:Nat):Option Ev.Blk:=Ev.look i [(100001,B103_cf0_1 fuel)]
def Fg_coder_Encoder_Put_cf0 (fuel:Nat) (q:YF111_a20) (o:YF150_546) (p:YF151_402) (Y:YF152_a20) (Z:YF153_a20) (g h:Int) (S T U:Int) (V:Bool) (W X:LI) (k0:(Int×Int×Int×Int×Bool×LI×LI)→OA) (k1:(Int×Int×Int×Int×Bool×LI×LI)→OA):OA:=(q S T U V W X (fun (R,b,c,d,e,a,f)=>bif R then k0 (7,b,c,d,e,a,f) else bif decide (g < 0) then k0 (2,b,c,d,e,a,f) else bif decide (g≥(↑a.length:Int)) then k0 (2,b,c,d,e,a,f) else bif h != 0 then bif h != 1 then k0 (2,b,c,d,e,a,f) else (p g b c d e a f (fun (r,s,t,u,v,w,x)=>(o g h r s t u v w x (fun (y,z,A,B,C,D)=>(L_coder_Encoder_Put_cf0_1 fuel (y,z,A,B,C,D) (fun (i,j,k,l,m,n)=>k1 (0,i,j,k,l,m,n))))))) else (p g b c d e a f (fun (E,F,G,H,I,J,K)=>(o g h E F G H I J K (fun (L,M,N,O,P,Q)=>(L_coder_Encoder_Put_cf0_1 fuel (L,M,N,O,P,Q) (fun (i,j,k,l,m,n)=>k1 (0,i,j,k,l,m,n)))))))))
abbrev YF103_cf0:Type:=Int→Int→Int→Int→Int→Bool→LI→LI→((Int×Int×Int×Int×Bool×LI×LI)→Option Ans)→((Int×Int×Int×Int×Bool×LI×LI)→Option Ans)→Option Ans
def F_coder_Encoder_Put_cf0 (fuel:Nat):YF103_cf0:=Fg_coder_Encoder_Put_cf0 fuel (F_coder_Encoder_none_a20 fuel) (F_coder_interval_take_546 fuel) (F_coder_interval_mid_402 fuel) (F_coder_interval_same_a20 fuel) (F_coder_interval_lose_a20 fuel)
theorem F103_cf0_eqg (fuel:Nat) (i:YF111_a20) (j:YF150_546) (l:YF151_402) (m:YF152_a20) (n:YF153_a20) (o p:Int) (q s t:Int) (u:Bool) (v w:LI) (k:Ev.Cont):evalFn tab (Gg103_cf0 i j l m n) (J103_cf0 fuel) kp103_cf0 fuel Try.f103 [.c (.ptr 0 0),.c (i6 o),.c (i6 p)] [.cells 148 (i6 q::.own 1::ctb (.int .u64 s::.int .u64 t::.own 2::.bool u::[])),.vec 3 (.int .i64) v false,.vec 5 (.int .u8) w false] k=Fg_coder_Encoder_Put_cf0 fuel i j l m n o p q s t u v w (fun r=>match r with | (a,b,d,e,f,g,h)=>k (.c (i6 a),[.cells 148 (i6 b::.own 1::ctb (.int .u64 d::.int .u64 e::.own 2::.bool f::[])),.vec 3 (.int .i64) g false,.vec 5 (.int .u8) h false])) (fun r=>match r with | (a,b,d,e,f,g,h)=>k (.c (i6 a),[.cells 148 (i6 b::.own 1::ctb (.int .u64 d::.int .u64 e::.own 2::.bool f::[])),.vec 3 (.int .i64) g false,.vec 5 (.int .u8) h true])):=by
  kernel_rfl
theorem hG103_cf0 (fuel:Nat):GOK Try.prog (G103_cf0 fuel):=
  gc (ok111_a20 fuel) Try.func111 (by kernel_rfl) rfl <|
  gc (ok150_546 fuel) Try.func150 (by kernel_rfl) rfl <|
  gc (ok151_402 fuel) Try.func151 (by kernel_rfl) rfl <|
  gc (ok152_a20 fuel) Try.func152 (by kernel_rfl) rfl <|
  gc (ok153_a20 fuel) Try.func153 (by kernel_rfl) rfl <|
  gok_nil
theorem B103_cf0_1_blk (fuel:Nat):BlkOK Try.prog Try.f103.ntmps (.block 1 (.loop (bodyOf 1 Try.f103))) (B103_cf0_1 fuel):=bo0 (hG103_cf0 fuel) (by kernel_rfl) (by kernel_rfl) (B103_cf0_1_ok fuel)
def spg103_cf0 (F:YF103_cf0):Ev.Spec:=fun args objs k=>match args,objs with | [.c (.ptr j l),.c (i6 m),.c (i6 n)],[.cells o i,.vec p (.int .i64) q false,.vec s (.int .u8) t false]=>(match splitRun 2 ctn i with | some ([i6 u,.own v],[.int .u64 w,.int .u64 x,.own y,.bool z])=>bif qb [j,l,o,p,s,v,y] [0,0,148,3,5,1,2] then F m n u w x z q t (fun r=>match r with | (a,b,d,e,f,g,h)=>k (.c (i6 a),[.cells 148 (i6 b::.own 1::ctb (.int .u64 d::.int .u64 e::.own 2::.bool f::[])),.vec 3 (.int .i64) g false,.vec 5 (.int .u8) h false])) (fun r=>match r with | (a,b,d,e,f,g,h)=>k (.c (i6 a),[.cells 148 (i6 b::.own 1::ctb (.int .u64 d::.int .u64 e::.own 2::.bool f::[])),.vec 3 (.int .i64) g false,.vec 5 (.int .u8) h true])) else none | _=>none) | _,_=>none
def spec103_cf0 (fuel:Nat):Ev.Spec:=spg103_cf0 (F_coder_Encoder_Put_cf0 fuel)
theorem ok103_cf0 (fuel:Nat):FnOK Try.prog 103 (spec103_cf0 fuel):=by
  intro args objs kk r h
  unfold spec103_cf0 spg103_cf0 at h
  split at h
  · skip
    split at h
    rotate_left 1
    · cases h
    rename_i hsp
    have esp:=splitRun_eq hsp
    subst esp
    obtain ⟨hb,h⟩:=cond_some' h
    cases qb_eq hb
    exact fo1 (hG103_cf0 fuel) Try.func103 rfl (B103_cf0_1_blk fuel) (by kernel_rfl) _ _ kk r ((F103_cf0_eqg fuel (F_coder_Encoder_none_a20 fuel) (F_coder_interval_take_546 fuel) (F_coder_interval_mid_402 fuel) (F_coder_interval_same_a20 fuel) (F_coder_interval_lose_a20 fuel) _ _ _ _ _ _ _ _ kk).trans h)
  · cases h
def kp106 (i:Nat):Option (List Nat):=Ev.look i []
def Gg106 (f:Nat):Option Ev.Spec:=Ev.look f []
def G106 (fuel:Nat):Nat→Option Ev.Spec:=Gg106
def F_number_Valid (fuel:Nat) (b:Bool) (a:Int) (k0:(Bool)→Option Ans):Option Ans:=bif b then k0 (a==0) else bif decide (a≥(-1048576:Int)) then k0 (decide (a≤1048576)) else k0 false
abbrev YF106:Type:=Bool→Int→(Bool→Option Ans)→Option Ans
theorem F106_eq (fuel:Nat) (a:Bool) (b:Int) (k:Ev.Cont):evalFn tab (G106 fuel) J0 kp106 fuel Try.f106 [.agg [.bool a,i6 b]] [] k=F_number_Valid fuel a b (fun r=>match r with | d=>k (.c (.bool d),[])):=by
  kernel_rfl
theorem hG106 (fuel:Nat):GOK Try.prog (G106 fuel):=
  gok_nil
def spg106 (F:YF106):Ev.Spec:=fun args objs k=>match args,objs with | [.agg [.bool a,i6 b]],[]=>F a b (fun r=>match r with | d=>k (.c (.bool d),[])) | _,_=>none
theorem ok106 (fuel:Nat):FnOK Try.prog 106 (spg106 (F_number_Valid fuel)):=by
  intro args objs kk r h
  unfold spg106 at h
  split at h
  · skip
    exact fo0 (hG106 fuel) Try.func106 rfl (by kernel_rfl) _ _ kk r ((F106_eq fuel _ _ kk).trans h)
  · cases h
def kp161 (i:Nat):Option (List Nat):=Ev.look i []
def Gg161 (f:Nat):Option Ev.Spec:=Ev.look f []
def G161 (fuel:Nat):Nat→Option Ev.Spec:=Gg161
def F_number_tail_take (fuel:Nat) (a:Int) (k0:(Int×Int)→Option Ans):Option Ans:=k0 (a,bif decide (47 < i64.wrap (a+1)) then 47 else i64.wrap (a+1))
abbrev YF161:Type:=Int→((Int×Int)→Option Ans)→Option Ans
theorem F161_eq (fuel:Nat) (a:Int) (k:Ev.Cont):evalFn tab (G161 fuel) J0 kp161 fuel Try.f161 [.c (.ptr 0 0)] [.cells 215 [i6 a]] k=F_number_tail_take fuel a (fun r=>match r with | (b,d)=>k (.c (i6 b),[.cells 215 [i6 d]])):=by
  kernel_rfl
theorem hG161 (fuel:Nat):GOK Try.prog (G161 fuel):=
  gok_nil
def spg161 (F:YF161):Ev.Spec:=fun args objs k=>match args,objs with | [.c (.ptr a b)],[.cells d [i6 e]]=>bif qb [a,b,d] [0,0,215] then F e (fun r=>match r with | (f,g)=>k (.c (i6 f),[.cells 215 [i6 g]])) else none | _,_=>none
theorem ok161 (fuel:Nat):FnOK Try.prog 161 (spg161 (F_number_tail_take fuel)):=by
  intro args objs kk r h
  unfold spg161 at h
  split at h
  · skip
    obtain ⟨hb,h⟩:=cond_some' h
    cases qb_eq hb
    exact fo0 (hG161 fuel) Try.func161 rfl (by kernel_rfl) _ _ kk r ((F161_eq fuel _ kk).trans h)
  · cases h
end
end Go.Proofs.Ytipdidpalcmlhaa

