/- What the functions that SymbolOrders reaches do: their typed texts, each with the proof that the machine does it. No condition. -/
import Derived.Test.YtmjeeaemmbkioaaGreatEvX
set_option linter.unusedVariables false
set_option linter.unusedSimpArgs false
set_option linter.unusedSectionVars false
set_option linter.unusedVariables false
set_option linter.unusedSimpArgs false
set_option maxRecDepth 100000
set_option maxHeartbeats 2000000
namespace Go.Proofs.YtmjeeaemmbkioaaGreat
open Go Ev
def kp148 (i : Nat) : Option (List Nat) := Ev.look i []
noncomputable def Gg148 (f : Nat) : Option Ev.Spec := Ev.look f []
noncomputable def G148 (fuel : Nat) : Nat → Option Ev.Spec := Gg148
noncomputable def J148 (fuel : Nat) (i : Nat) : Option Ev.Blk := Ev.look i []
noncomputable def F_math_bits_Len64 (fuel : Nat) (x0 : Int) (k0 : (Int) → Option Ans) : Option Ans :=
  bif Decidable.decide (x0 ≥ (4294967296 : Int)) then
   bif Decidable.decide (Ev.ishr Go.IntKind.u64 x0 (32 : Int) ≥ (65536 : Int)) then
    bif Decidable.decide (Ev.ishr Go.IntKind.u64 (Ev.ishr Go.IntKind.u64 x0 (32 : Int)) (16 : Int) ≥ (256 : Int)) then
     bif Decidable.decide ((0 : Int) ≤ Go.IntKind.u8.wrap (Ev.ishr Go.IntKind.u64 (Ev.ishr Go.IntKind.u64 (Ev.ishr Go.IntKind.u64 x0 (32 : Int)) (16 : Int)) (8 : Int)) ∧ Go.IntKind.u8.wrap (Ev.ishr Go.IntKind.u64 (Ev.ishr Go.IntKind.u64 (Ev.ishr Go.IntKind.u64 x0 (32 : Int)) (16 : Int)) (8 : Int)) < (↑(ByteArray.mk (([(0 : UInt8), (1 : UInt8), (2 : UInt8), (2 : UInt8), (3 : UInt8), (3 : UInt8), (3 : UInt8), (3 : UInt8), (4 : UInt8), (4 : UInt8), (4 : UInt8), (4 : UInt8), (4 : UInt8), (4 : UInt8), (4 : UInt8), (4 : UInt8), (5 : UInt8), (5 : UInt8), (5 : UInt8), (5 : UInt8), (5 : UInt8), (5 : UInt8), (5 : UInt8), (5 : UInt8), (5 : UInt8), (5 : UInt8), (5 : UInt8), (5 : UInt8), (5 : UInt8), (5 : UInt8), (5 : UInt8), (5 : UInt8), (6 : UInt8), (6 : UInt8), (6 : UInt8), (6 : UInt8), (6 : UInt8), (6 : UInt8), (6 : UInt8), (6 : UInt8), (6 : UInt8), (6 : UInt8), (6 : UInt8), (6 : UInt8), (6 : UInt8), (6 : UInt8), (6 : UInt8), (6 : UInt8), (6 : UInt8), (6 : UInt8), (6 : UInt8), (6 : UInt8), (6 : UInt8), (6 : UInt8), (6 : UInt8), (6 : UInt8), (6 : UInt8), (6 : UInt8), (6 : UInt8), (6 : UInt8), (6 : UInt8), (6 : UInt8), (6 : UInt8), (6 : UInt8)].append [(7 : UInt8), (7 : UInt8), (7 : UInt8), (7 : UInt8), (7 : UInt8), (7 : UInt8), (7 : UInt8), (7 : UInt8), (7 : UInt8), (7 : UInt8), (7 : UInt8), (7 : UInt8), (7 : UInt8), (7 : UInt8), (7 : UInt8), (7 : UInt8), (7 : UInt8), (7 : UInt8), (7 : UInt8), (7 : UInt8), (7 : UInt8), (7 : UInt8), (7 : UInt8), (7 : UInt8), (7 : UInt8), (7 : UInt8), (7 : UInt8), (7 : UInt8), (7 : UInt8), (7 : UInt8), (7 : UInt8), (7 : UInt8), (7 : UInt8), (7 : UInt8), (7 : UInt8), (7 : UInt8), (7 : UInt8), (7 : UInt8), (7 : UInt8), (7 : UInt8), (7 : UInt8), (7 : UInt8), (7 : UInt8), (7 : UInt8), (7 : UInt8), (7 : UInt8), (7 : UInt8), (7 : UInt8), (7 : UInt8), (7 : UInt8), (7 : UInt8), (7 : UInt8), (7 : UInt8), (7 : UInt8), (7 : UInt8), (7 : UInt8), (7 : UInt8), (7 : UInt8), (7 : UInt8), (7 : UInt8), (7 : UInt8), (7 : UInt8), (7 : UInt8), (7 : UInt8)]).append ([(8 : UInt8), (8 : UInt8), (8 : UInt8), (8 : UInt8), (8 : UInt8), (8 : UInt8), (8 : UInt8), (8 : UInt8), (8 : UInt8), (8 : UInt8), (8 : UInt8), (8 : UInt8), (8 : UInt8), (8 : UInt8), (8 : UInt8), (8 : UInt8), (8 : UInt8), (8 : UInt8), (8 : UInt8), (8 : UInt8), (8 : UInt8), (8 : UInt8), (8 : UInt8), (8 : UInt8), (8 : UInt8), (8 : UInt8), (8 : UInt8), (8 : UInt8), (8 : UInt8), (8 : UInt8), (8 : UInt8), (8 : UInt8), (8 : UInt8), (8 : UInt8), (8 : UInt8), (8 : UInt8), (8 : UInt8), (8 : UInt8), (8 : UInt8), (8 : UInt8), (8 : UInt8), (8 : UInt8), (8 : UInt8), (8 : UInt8), (8 : UInt8), (8 : UInt8), (8 : UInt8), (8 : UInt8), (8 : UInt8), (8 : UInt8), (8 : UInt8), (8 : UInt8), (8 : UInt8), (8 : UInt8), (8 : UInt8), (8 : UInt8), (8 : UInt8), (8 : UInt8), (8 : UInt8), (8 : UInt8), (8 : UInt8), (8 : UInt8), (8 : UInt8), (8 : UInt8)].append [(8 : UInt8), (8 : UInt8), (8 : UInt8), (8 : UInt8), (8 : UInt8), (8 : UInt8), (8 : UInt8), (8 : UInt8), (8 : UInt8), (8 : UInt8), (8 : UInt8), (8 : UInt8), (8 : UInt8), (8 : UInt8), (8 : UInt8), (8 : UInt8), (8 : UInt8), (8 : UInt8), (8 : UInt8), (8 : UInt8), (8 : UInt8), (8 : UInt8), (8 : UInt8), (8 : UInt8), (8 : UInt8), (8 : UInt8), (8 : UInt8), (8 : UInt8), (8 : UInt8), (8 : UInt8), (8 : UInt8), (8 : UInt8), (8 : UInt8), (8 : UInt8), (8 : UInt8), (8 : UInt8), (8 : UInt8), (8 : UInt8), (8 : UInt8), (8 : UInt8), (8 : UInt8), (8 : UInt8), (8 : UInt8), (8 : UInt8), (8 : UInt8), (8 : UInt8), (8 : UInt8), (8 : UInt8), (8 : UInt8), (8 : UInt8), (8 : UInt8), (8 : UInt8), (8 : UInt8), (8 : UInt8), (8 : UInt8), (8 : UInt8), (8 : UInt8), (8 : UInt8), (8 : UInt8), (8 : UInt8), (8 : UInt8), (8 : UInt8), (8 : UInt8), (8 : UInt8)])).toArray).size : Int)) then
     k0 (Go.IntKind.i64.wrap (Go.IntKind.i64.wrap (Go.IntKind.i64.wrap ((32 : Int) + (16 : Int)) + (8 : Int)) + Go.IntKind.i64.wrap (↑((ByteArray.mk (([(0 : UInt8), (1 : UInt8), (2 : UInt8), (2 : UInt8), (3 : UInt8), (3 : UInt8), (3 : UInt8), (3 : UInt8), (4 : UInt8), (4 : UInt8), (4 : UInt8), (4 : UInt8), (4 : UInt8), (4 : UInt8), (4 : UInt8), (4 : UInt8), (5 : UInt8), (5 : UInt8), (5 : UInt8), (5 : UInt8), (5 : UInt8), (5 : UInt8), (5 : UInt8), (5 : UInt8), (5 : UInt8), (5 : UInt8), (5 : UInt8), (5 : UInt8), (5 : UInt8), (5 : UInt8), (5 : UInt8), (5 : UInt8), (6 : UInt8), (6 : UInt8), (6 : UInt8), (6 : UInt8), (6 : UInt8), (6 : UInt8), (6 : UInt8), (6 : UInt8), (6 : UInt8), (6 : UInt8), (6 : UInt8), (6 : UInt8), (6 : UInt8), (6 : UInt8), (6 : UInt8), (6 : UInt8), (6 : UInt8), (6 : UInt8), (6 : UInt8), (6 : UInt8), (6 : UInt8), (6 : UInt8), (6 : UInt8), (6 : UInt8), (6 : UInt8), (6 : UInt8), (6 : UInt8), (6 : UInt8), (6 : UInt8), (6 : UInt8), (6 : UInt8), (6 : UInt8)].append [(7 : UInt8), (7 : UInt8), (7 : UInt8), (7 : UInt8), (7 : UInt8), (7 : UInt8), (7 : UInt8), (7 : UInt8), (7 : UInt8), (7 : UInt8), (7 : UInt8), (7 : UInt8), (7 : UInt8), (7 : UInt8), (7 : UInt8), (7 : UInt8), (7 : UInt8), (7 : UInt8), (7 : UInt8), (7 : UInt8), (7 : UInt8), (7 : UInt8), (7 : UInt8), (7 : UInt8), (7 : UInt8), (7 : UInt8), (7 : UInt8), (7 : UInt8), (7 : UInt8), (7 : UInt8), (7 : UInt8), (7 : UInt8), (7 : UInt8), (7 : UInt8), (7 : UInt8), (7 : UInt8), (7 : UInt8), (7 : UInt8), (7 : UInt8), (7 : UInt8), (7 : UInt8), (7 : UInt8), (7 : UInt8), (7 : UInt8), (7 : UInt8), (7 : UInt8), (7 : UInt8), (7 : UInt8), (7 : UInt8), (7 : UInt8), (7 : UInt8), (7 : UInt8), (7 : UInt8), (7 : UInt8), (7 : UInt8), (7 : UInt8), (7 : UInt8), (7 : UInt8), (7 : UInt8), (7 : UInt8), (7 : UInt8), (7 : UInt8), (7 : UInt8), (7 : UInt8)]).append ([(8 : UInt8), (8 : UInt8), (8 : UInt8), (8 : UInt8), (8 : UInt8), (8 : UInt8), (8 : UInt8), (8 : UInt8), (8 : UInt8), (8 : UInt8), (8 : UInt8), (8 : UInt8), (8 : UInt8), (8 : UInt8), (8 : UInt8), (8 : UInt8), (8 : UInt8), (8 : UInt8), (8 : UInt8), (8 : UInt8), (8 : UInt8), (8 : UInt8), (8 : UInt8), (8 : UInt8), (8 : UInt8), (8 : UInt8), (8 : UInt8), (8 : UInt8), (8 : UInt8), (8 : UInt8), (8 : UInt8), (8 : UInt8), (8 : UInt8), (8 : UInt8), (8 : UInt8), (8 : UInt8), (8 : UInt8), (8 : UInt8), (8 : UInt8), (8 : UInt8), (8 : UInt8), (8 : UInt8), (8 : UInt8), (8 : UInt8), (8 : UInt8), (8 : UInt8), (8 : UInt8), (8 : UInt8), (8 : UInt8), (8 : UInt8), (8 : UInt8), (8 : UInt8), (8 : UInt8), (8 : UInt8), (8 : UInt8), (8 : UInt8), (8 : UInt8), (8 : UInt8), (8 : UInt8), (8 : UInt8), (8 : UInt8), (8 : UInt8), (8 : UInt8), (8 : UInt8)].append [(8 : UInt8), (8 : UInt8), (8 : UInt8), (8 : UInt8), (8 : UInt8), (8 : UInt8), (8 : UInt8), (8 : UInt8), (8 : UInt8), (8 : UInt8), (8 : UInt8), (8 : UInt8), (8 : UInt8), (8 : UInt8), (8 : UInt8), (8 : UInt8), (8 : UInt8), (8 : UInt8), (8 : UInt8), (8 : UInt8), (8 : UInt8), (8 : UInt8), (8 : UInt8), (8 : UInt8), (8 : UInt8), (8 : UInt8), (8 : UInt8), (8 : UInt8), (8 : UInt8), (8 : UInt8), (8 : UInt8), (8 : UInt8), (8 : UInt8), (8 : UInt8), (8 : UInt8), (8 : UInt8), (8 : UInt8), (8 : UInt8), (8 : UInt8), (8 : UInt8), (8 : UInt8), (8 : UInt8), (8 : UInt8), (8 : UInt8), (8 : UInt8), (8 : UInt8), (8 : UInt8), (8 : UInt8), (8 : UInt8), (8 : UInt8), (8 : UInt8), (8 : UInt8), (8 : UInt8), (8 : UInt8), (8 : UInt8), (8 : UInt8), (8 : UInt8), (8 : UInt8), (8 : UInt8), (8 : UInt8), (8 : UInt8), (8 : UInt8), (8 : UInt8), (8 : UInt8)])).toArray).data.toList.getD (Go.IntKind.u8.wrap (Ev.ishr Go.IntKind.u64 (Ev.ishr Go.IntKind.u64 (Ev.ishr Go.IntKind.u64 x0 (32 : Int)) (16 : Int)) (8 : Int))).toNat (0 : UInt8)).toNat : Int)))
     else none
    else
     bif Decidable.decide ((0 : Int) ≤ Go.IntKind.u8.wrap (Ev.ishr Go.IntKind.u64 (Ev.ishr Go.IntKind.u64 x0 (32 : Int)) (16 : Int)) ∧ Go.IntKind.u8.wrap (Ev.ishr Go.IntKind.u64 (Ev.ishr Go.IntKind.u64 x0 (32 : Int)) (16 : Int)) < (↑(ByteArray.mk (([(0 : UInt8), (1 : UInt8), (2 : UInt8), (2 : UInt8), (3 : UInt8), (3 : UInt8), (3 : UInt8), (3 : UInt8), (4 : UInt8), (4 : UInt8), (4 : UInt8), (4 : UInt8), (4 : UInt8), (4 : UInt8), (4 : UInt8), (4 : UInt8), (5 : UInt8), (5 : UInt8), (5 : UInt8), (5 : UInt8), (5 : UInt8), (5 : UInt8), (5 : UInt8), (5 : UInt8), (5 : UInt8), (5 : UInt8), (5 : UInt8), (5 : UInt8), (5 : UInt8), (5 : UInt8), (5 : UInt8), (5 : UInt8), (6 : UInt8), (6 : UInt8), (6 : UInt8), (6 : UInt8), (6 : UInt8), (6 : UInt8), (6 : UInt8), (6 : UInt8), (6 : UInt8), (6 : UInt8), (6 : UInt8), (6 : UInt8), (6 : UInt8), (6 : UInt8), (6 : UInt8), (6 : UInt8), (6 : UInt8), (6 : UInt8), (6 : UInt8), (6 : UInt8), (6 : UInt8), (6 : UInt8), (6 : UInt8), (6 : UInt8), (6 : UInt8), (6 : UInt8), (6 : UInt8), (6 : UInt8), (6 : UInt8), (6 : UInt8), (6 : UInt8), (6 : UInt8)].append [(7 : UInt8), (7 : UInt8), (7 : UInt8), (7 : UInt8), (7 : UInt8), (7 : UInt8), (7 : UInt8), (7 : UInt8), (7 : UInt8), (7 : UInt8), (7 : UInt8), (7 : UInt8), (7 : UInt8), (7 : UInt8), (7 : UInt8), (7 : UInt8), (7 : UInt8), (7 : UInt8), (7 : UInt8), (7 : UInt8), (7 : UInt8), (7 : UInt8), (7 : UInt8), (7 : UInt8), (7 : UInt8), (7 : UInt8), (7 : UInt8), (7 : UInt8), (7 : UInt8), (7 : UInt8), (7 : UInt8), (7 : UInt8), (7 : UInt8), (7 : UInt8), (7 : UInt8), (7 : UInt8), (7 : UInt8), (7 : UInt8), (7 : UInt8), (7 : UInt8), (7 : UInt8), (7 : UInt8), (7 : UInt8), (7 : UInt8), (7 : UInt8), (7 : UInt8), (7 : UInt8), (7 : UInt8), (7 : UInt8), (7 : UInt8), (7 : UInt8), (7 : UInt8), (7 : UInt8), (7 : UInt8), (7 : UInt8), (7 : UInt8), (7 : UInt8), (7 : UInt8), (7 : UInt8), (7 : UInt8), (7 : UInt8), (7 : UInt8), (7 : UInt8), (7 : UInt8)]).append ([(8 : UInt8), (8 : UInt8), (8 : UInt8), (8 : UInt8), (8 : UInt8), (8 : UInt8), (8 : UInt8), (8 : UInt8), (8 : UInt8), (8 : UInt8), (8 : UInt8), (8 : UInt8), (8 : UInt8), (8 : UInt8), (8 : UInt8), (8 : UInt8), (8 : UInt8), (8 : UInt8), (8 : UInt8), (8 : UInt8), (8 : UInt8), (8 : UInt8), (8 : UInt8), (8 : UInt8), (8 : UInt8), (8 : UInt8), (8 : UInt8), (8 : UInt8), (8 : UInt8), (8 : UInt8), (8 : UInt8), (8 : UInt8), (8 : UInt8), (8 : UInt8), (8 : UInt8), (8 : UInt8), (8 : UInt8), (8 : UInt8), (8 : UInt8), (8 : UInt8), (8 : UInt8), (8 : UInt8), (8 : UInt8), (8 : UInt8), (8 : UInt8), (8 : UInt8), (8 : UInt8), (8 : UInt8), (8 : UInt8), (8 : UInt8), (8 : UInt8), (8 : UInt8), (8 : UInt8), (8 : UInt8), (8 : UInt8), (8 : UInt8), (8 : UInt8), (8 : UInt8), (8 : UInt8), (8 : UInt8), (8 : UInt8), (8 : UInt8), (8 : UInt8), (8 : UInt8)].append [(8 : UInt8), (8 : UInt8), (8 : UInt8), (8 : UInt8), (8 : UInt8), (8 : UInt8), (8 : UInt8), (8 : UInt8), (8 : UInt8), (8 : UInt8), (8 : UInt8), (8 : UInt8), (8 : UInt8), (8 : UInt8), (8 : UInt8), (8 : UInt8), (8 : UInt8), (8 : UInt8), (8 : UInt8), (8 : UInt8), (8 : UInt8), (8 : UInt8), (8 : UInt8), (8 : UInt8), (8 : UInt8), (8 : UInt8), (8 : UInt8), (8 : UInt8), (8 : UInt8), (8 : UInt8), (8 : UInt8), (8 : UInt8), (8 : UInt8), (8 : UInt8), (8 : UInt8), (8 : UInt8), (8 : UInt8), (8 : UInt8), (8 : UInt8), (8 : UInt8), (8 : UInt8), (8 : UInt8), (8 : UInt8), (8 : UInt8), (8 : UInt8), (8 : UInt8), (8 : UInt8), (8 : UInt8), (8 : UInt8), (8 : UInt8), (8 : UInt8), (8 : UInt8), (8 : UInt8), (8 : UInt8), (8 : UInt8), (8 : UInt8), (8 : UInt8), (8 : UInt8), (8 : UInt8), (8 : UInt8), (8 : UInt8), (8 : UInt8), (8 : UInt8), (8 : UInt8)])).toArray).size : Int)) then
     k0 (Go.IntKind.i64.wrap (Go.IntKind.i64.wrap ((32 : Int) + (16 : Int)) + Go.IntKind.i64.wrap (↑((ByteArray.mk (([(0 : UInt8), (1 : UInt8), (2 : UInt8), (2 : UInt8), (3 : UInt8), (3 : UInt8), (3 : UInt8), (3 : UInt8), (4 : UInt8), (4 : UInt8), (4 : UInt8), (4 : UInt8), (4 : UInt8), (4 : UInt8), (4 : UInt8), (4 : UInt8), (5 : UInt8), (5 : UInt8), (5 : UInt8), (5 : UInt8), (5 : UInt8), (5 : UInt8), (5 : UInt8), (5 : UInt8), (5 : UInt8), (5 : UInt8), (5 : UInt8), (5 : UInt8), (5 : UInt8), (5 : UInt8), (5 : UInt8), (5 : UInt8), (6 : UInt8), (6 : UInt8), (6 : UInt8), (6 : UInt8), (6 : UInt8), (6 : UInt8), (6 : UInt8), (6 : UInt8), (6 : UInt8), (6 : UInt8), (6 : UInt8), (6 : UInt8), (6 : UInt8), (6 : UInt8), (6 : UInt8), (6 : UInt8), (6 : UInt8), (6 : UInt8), (6 : UInt8), (6 : UInt8), (6 : UInt8), (6 : UInt8), (6 : UInt8), (6 : UInt8), (6 : UInt8), (6 : UInt8), (6 : UInt8), (6 : UInt8), (6 : UInt8), (6 : UInt8), (6 : UInt8), (6 : UInt8)].append [(7 : UInt8), (7 : UInt8), (7 : UInt8), (7 : UInt8), (7 : UInt8), (7 : UInt8), (7 : UInt8), (7 : UInt8), (7 : UInt8), (7 : UInt8), (7 : UInt8), (7 : UInt8), (7 : UInt8), (7 : UInt8), (7 : UInt8), (7 : UInt8), (7 : UInt8), (7 : UInt8), (7 : UInt8), (7 : UInt8), (7 : UInt8), (7 : UInt8), (7 : UInt8), (7 : UInt8), (7 : UInt8), (7 : UInt8), (7 : UInt8), (7 : UInt8), (7 : UInt8), (7 : UInt8), (7 : UInt8), (7 : UInt8), (7 : UInt8), (7 : UInt8), (7 : UInt8), (7 : UInt8), (7 : UInt8), (7 : UInt8), (7 : UInt8), (7 : UInt8), (7 : UInt8), (7 : UInt8), (7 : UInt8), (7 : UInt8), (7 : UInt8), (7 : UInt8), (7 : UInt8), (7 : UInt8), (7 : UInt8), (7 : UInt8), (7 : UInt8), (7 : UInt8), (7 : UInt8), (7 : UInt8), (7 : UInt8), (7 : UInt8), (7 : UInt8), (7 : UInt8), (7 : UInt8), (7 : UInt8), (7 : UInt8), (7 : UInt8), (7 : UInt8), (7 : UInt8)]).append ([(8 : UInt8), (8 : UInt8), (8 : UInt8), (8 : UInt8), (8 : UInt8), (8 : UInt8), (8 : UInt8), (8 : UInt8), (8 : UInt8), (8 : UInt8), (8 : UInt8), (8 : UInt8), (8 : UInt8), (8 : UInt8), (8 : UInt8), (8 : UInt8), (8 : UInt8), (8 : UInt8), (8 : UInt8), (8 : UInt8), (8 : UInt8), (8 : UInt8), (8 : UInt8), (8 : UInt8), (8 : UInt8), (8 : UInt8), (8 : UInt8), (8 : UInt8), (8 : UInt8), (8 : UInt8), (8 : UInt8), (8 : UInt8), (8 : UInt8), (8 : UInt8), (8 : UInt8), (8 : UInt8), (8 : UInt8), (8 : UInt8), (8 : UInt8), (8 : UInt8), (8 : UInt8), (8 : UInt8), (8 : UInt8), (8 : UInt8), (8 : UInt8), (8 : UInt8), (8 : UInt8), (8 : UInt8), (8 : UInt8), (8 : UInt8), (8 : UInt8), (8 : UInt8), (8 : UInt8), (8 : UInt8), (8 : UInt8), (8 : UInt8), (8 : UInt8), (8 : UInt8), (8 : UInt8), (8 : UInt8), (8 : UInt8), (8 : UInt8), (8 : UInt8), (8 : UInt8)].append [(8 : UInt8), (8 : UInt8), (8 : UInt8), (8 : UInt8), (8 : UInt8), (8 : UInt8), (8 : UInt8), (8 : UInt8), (8 : UInt8), (8 : UInt8), (8 : UInt8), (8 : UInt8), (8 : UInt8), (8 : UInt8), (8 : UInt8), (8 : UInt8), (8 : UInt8), (8 : UInt8), (8 : UInt8), (8 : UInt8), (8 : UInt8), (8 : UInt8), (8 : UInt8), (8 : UInt8), (8 : UInt8), (8 : UInt8), (8 : UInt8), (8 : UInt8), (8 : UInt8), (8 : UInt8), (8 : UInt8), (8 : UInt8), (8 : UInt8), (8 : UInt8), (8 : UInt8), (8 : UInt8), (8 : UInt8), (8 : UInt8), (8 : UInt8), (8 : UInt8), (8 : UInt8), (8 : UInt8), (8 : UInt8), (8 : UInt8), (8 : UInt8), (8 : UInt8), (8 : UInt8), (8 : UInt8), (8 : UInt8), (8 : UInt8), (8 : UInt8), (8 : UInt8), (8 : UInt8), (8 : UInt8), (8 : UInt8), (8 : UInt8), (8 : UInt8), (8 : UInt8), (8 : UInt8), (8 : UInt8), (8 : UInt8), (8 : UInt8), (8 : UInt8), (8 : UInt8)])).toArray).data.toList.getD (Go.IntKind.u8.wrap (Ev.ishr Go.IntKind.u64 (Ev.ishr Go.IntKind.u64 x0 (32 : Int)) (16 : Int))).toNat (0 : UInt8)).toNat : Int)))
     else none
   else
    bif Decidable.decide (Ev.ishr Go.IntKind.u64 x0 (32 : Int) ≥ (256 : Int)) then
     bif Decidable.decide ((0 : Int) ≤ Go.IntKind.u8.wrap (Ev.ishr Go.IntKind.u64 (Ev.ishr Go.IntKind.u64 x0 (32 : Int)) (8 : Int)) ∧ Go.IntKind.u8.wrap (Ev.ishr Go.IntKind.u64 (Ev.ishr Go.IntKind.u64 x0 (32 : Int)) (8 : Int)) < (↑(ByteArray.mk (([(0 : UInt8), (1 : UInt8), (2 : UInt8), (2 : UInt8), (3 : UInt8), (3 : UInt8), (3 : UInt8), (3 : UInt8), (4 : UInt8), (4 : UInt8), (4 : UInt8), (4 : UInt8), (4 : UInt8), (4 : UInt8), (4 : UInt8), (4 : UInt8), (5 : UInt8), (5 : UInt8), (5 : UInt8), (5 : UInt8), (5 : UInt8), (5 : UInt8), (5 : UInt8), (5 : UInt8), (5 : UInt8), (5 : UInt8), (5 : UInt8), (5 : UInt8), (5 : UInt8), (5 : UInt8), (5 : UInt8), (5 : UInt8), (6 : UInt8), (6 : UInt8), (6 : UInt8), (6 : UInt8), (6 : UInt8), (6 : UInt8), (6 : UInt8), (6 : UInt8), (6 : UInt8), (6 : UInt8), (6 : UInt8), (6 : UInt8), (6 : UInt8), (6 : UInt8), (6 : UInt8), (6 : UInt8), (6 : UInt8), (6 : UInt8), (6 : UInt8), (6 : UInt8), (6 : UInt8), (6 : UInt8), (6 : UInt8), (6 : UInt8), (6 : UInt8), (6 : UInt8), (6 : UInt8), (6 : UInt8), (6 : UInt8), (6 : UInt8), (6 : UInt8), (6 : UInt8)].append [(7 : UInt8), (7 : UInt8), (7 : UInt8), (7 : UInt8), (7 : UInt8), (7 : UInt8), (7 : UInt8), (7 : UInt8), (7 : UInt8), (7 : UInt8), (7 : UInt8), (7 : UInt8), (7 : UInt8), (7 : UInt8), (7 : UInt8), (7 : UInt8), (7 : UInt8), (7 : UInt8), (7 : UInt8), (7 : UInt8), (7 : UInt8), (7 : UInt8), (7 : UInt8), (7 : UInt8), (7 : UInt8), (7 : UInt8), (7 : UInt8), (7 : UInt8), (7 : UInt8), (7 : UInt8), (7 : UInt8), (7 : UInt8), (7 : UInt8), (7 : UInt8), (7 : UInt8), (7 : UInt8), (7 : UInt8), (7 : UInt8), (7 : UInt8), (7 : UInt8), (7 : UInt8), (7 : UInt8), (7 : UInt8), (7 : UInt8), (7 : UInt8), (7 : UInt8), (7 : UInt8), (7 : UInt8), (7 : UInt8), (7 : UInt8), (7 : UInt8), (7 : UInt8), (7 : UInt8), (7 : UInt8), (7 : UInt8), (7 : UInt8), (7 : UInt8), (7 : UInt8), (7 : UInt8), (7 : UInt8), (7 : UInt8), (7 : UInt8), (7 : UInt8), (7 : UInt8)]).append ([(8 : UInt8), (8 : UInt8), (8 : UInt8), (8 : UInt8), (8 : UInt8), (8 : UInt8), (8 : UInt8), (8 : UInt8), (8 : UInt8), (8 : UInt8), (8 : UInt8), (8 : UInt8), (8 : UInt8), (8 : UInt8), (8 : UInt8), (8 : UInt8), (8 : UInt8), (8 : UInt8), (8 : UInt8), (8 : UInt8), (8 : UInt8), (8 : UInt8), (8 : UInt8), (8 : UInt8), (8 : UInt8), (8 : UInt8), (8 : UInt8), (8 : UInt8), (8 : UInt8), (8 : UInt8), (8 : UInt8), (8 : UInt8), (8 : UInt8), (8 : UInt8), (8 : UInt8), (8 : UInt8), (8 : UInt8), (8 : UInt8), (8 : UInt8), (8 : UInt8), (8 : UInt8), (8 : UInt8), (8 : UInt8), (8 : UInt8), (8 : UInt8), (8 : UInt8), (8 : UInt8), (8 : UInt8), (8 : UInt8), (8 : UInt8), (8 : UInt8), (8 : UInt8), (8 : UInt8), (8 : UInt8), (8 : UInt8), (8 : UInt8), (8 : UInt8), (8 : UInt8), (8 : UInt8), (8 : UInt8), (8 : UInt8), (8 : UInt8), (8 : UInt8), (8 : UInt8)].append [(8 : UInt8), (8 : UInt8), (8 : UInt8), (8 : UInt8), (8 : UInt8), (8 : UInt8), (8 : UInt8), (8 : UInt8), (8 : UInt8), (8 : UInt8), (8 : UInt8), (8 : UInt8), (8 : UInt8), (8 : UInt8), (8 : UInt8), (8 : UInt8), (8 : UInt8), (8 : UInt8), (8 : UInt8), (8 : UInt8), (8 : UInt8), (8 : UInt8), (8 : UInt8), (8 : UInt8), (8 : UInt8), (8 : UInt8), (8 : UInt8), (8 : UInt8), (8 : UInt8), (8 : UInt8), (8 : UInt8), (8 : UInt8), (8 : UInt8), (8 : UInt8), (8 : UInt8), (8 : UInt8), (8 : UInt8), (8 : UInt8), (8 : UInt8), (8 : UInt8), (8 : UInt8), (8 : UInt8), (8 : UInt8), (8 : UInt8), (8 : UInt8), (8 : UInt8), (8 : UInt8), (8 : UInt8), (8 : UInt8), (8 : UInt8), (8 : UInt8), (8 : UInt8), (8 : UInt8), (8 : UInt8), (8 : UInt8), (8 : UInt8), (8 : UInt8), (8 : UInt8), (8 : UInt8), (8 : UInt8), (8 : UInt8), (8 : UInt8), (8 : UInt8), (8 : UInt8)])).toArray).size : Int)) then
     k0 (Go.IntKind.i64.wrap (Go.IntKind.i64.wrap ((32 : Int) + (8 : Int)) + Go.IntKind.i64.wrap (↑((ByteArray.mk (([(0 : UInt8), (1 : UInt8), (2 : UInt8), (2 : UInt8), (3 : UInt8), (3 : UInt8), (3 : UInt8), (3 : UInt8), (4 : UInt8), (4 : UInt8), (4 : UInt8), (4 : UInt8), (4 : UInt8), (4 : UInt8), (4 : UInt8), (4 : UInt8), (5 : UInt8), (5 : UInt8), (5 : UInt8), (5 : UInt8), (5 : UInt8), (5 : UInt8), (5 : UInt8), (5 : UInt8), (5 : UInt8), (5 : UInt8), (5 : UInt8), (5 : UInt8), (5 : UInt8), (5 : UInt8), (5 : UInt8), (5 : UInt8), (6 : UInt8), (6 : UInt8), (6 : UInt8), (6 : UInt8), (6 : UInt8), (6 : UInt8), (6 : UInt8), (6 : UInt8), (6 : UInt8), (6 : UInt8), (6 : UInt8), (6 : UInt8), (6 : UInt8), (6 : UInt8), (6 : UInt8), (6 : UInt8), (6 : UInt8), (6 : UInt8), (6 : UInt8), (6 : UInt8), (6 : UInt8), (6 : UInt8), (6 : UInt8), (6 : UInt8), (6 : UInt8), (6 : UInt8), (6 : UInt8), (6 : UInt8), (6 : UInt8), (6 : UInt8), (6 : UInt8), (6 : UInt8)].append [(7 : UInt8), (7 : UInt8), (7 : UInt8), (7 : UInt8), (7 : UInt8), (7 : UInt8), (7 : UInt8), (7 : UInt8), (7 : UInt8), (7 : UInt8), (7 : UInt8), (7 : UInt8), (7 : UInt8), (7 : UInt8), (7 : UInt8), (7 : UInt8), (7 : UInt8), (7 : UInt8), (7 : UInt8), (7 : UInt8), (7 : UInt8), (7 : UInt8), (7 : UInt8), (7 : UInt8), (7 : UInt8), (7 : UInt8), (7 : UInt8), (7 : UInt8), (7 : UInt8), (7 : UInt8), (7 : UInt8), (7 : UInt8), (7 : UInt8), (7 : UInt8), (7 : UInt8), (7 : UInt8), (7 : UInt8), (7 : UInt8), (7 : UInt8), (7 : UInt8), (7 : UInt8), (7 : UInt8), (7 : UInt8), (7 : UInt8), (7 : UInt8), (7 : UInt8), (7 : UInt8), (7 : UInt8), (7 : UInt8), (7 : UInt8), (7 : UInt8), (7 : UInt8), (7 : UInt8), (7 : UInt8), (7 : UInt8), (7 : UInt8), (7 : UInt8), (7 : UInt8), (7 : UInt8), (7 : UInt8), (7 : UInt8), (7 : UInt8), (7 : UInt8), (7 : UInt8)]).append ([(8 : UInt8), (8 : UInt8), (8 : UInt8), (8 : UInt8), (8 : UInt8), (8 : UInt8), (8 : UInt8), (8 : UInt8), (8 : UInt8), (8 : UInt8), (8 : UInt8), (8 : UInt8), (8 : UInt8), (8 : UInt8), (8 : UInt8), (8 : UInt8), (8 : UInt8), (8 : UInt8), (8 : UInt8), (8 : UInt8), (8 : UInt8), (8 : UInt8), (8 : UInt8), (8 : UInt8), (8 : UInt8), (8 : UInt8), (8 : UInt8), (8 : UInt8), (8 : UInt8), (8 : UInt8), (8 : UInt8), (8 : UInt8), (8 : UInt8), (8 : UInt8), (8 : UInt8), (8 : UInt8), (8 : UInt8), (8 : UInt8), (8 : UInt8), (8 : UInt8), (8 : UInt8), (8 : UInt8), (8 : UInt8), (8 : UInt8), (8 : UInt8), (8 : UInt8), (8 : UInt8), (8 : UInt8), (8 : UInt8), (8 : UInt8), (8 : UInt8), (8 : UInt8), (8 : UInt8), (8 : UInt8), (8 : UInt8), (8 : UInt8), (8 : UInt8), (8 : UInt8), (8 : UInt8), (8 : UInt8), (8 : UInt8), (8 : UInt8), (8 : UInt8), (8 : UInt8)].append [(8 : UInt8), (8 : UInt8), (8 : UInt8), (8 : UInt8), (8 : UInt8), (8 : UInt8), (8 : UInt8), (8 : UInt8), (8 : UInt8), (8 : UInt8), (8 : UInt8), (8 : UInt8), (8 : UInt8), (8 : UInt8), (8 : UInt8), (8 : UInt8), (8 : UInt8), (8 : UInt8), (8 : UInt8), (8 : UInt8), (8 : UInt8), (8 : UInt8), (8 : UInt8), (8 : UInt8), (8 : UInt8), (8 : UInt8), (8 : UInt8), (8 : UInt8), (8 : UInt8), (8 : UInt8), (8 : UInt8), (8 : UInt8), (8 : UInt8), (8 : UInt8), (8 : UInt8), (8 : UInt8), (8 : UInt8), (8 : UInt8), (8 : UInt8), (8 : UInt8), (8 : UInt8), (8 : UInt8), (8 : UInt8), (8 : UInt8), (8 : UInt8), (8 : UInt8), (8 : UInt8), (8 : UInt8), (8 : UInt8), (8 : UInt8), (8 : UInt8), (8 : UInt8), (8 : UInt8), (8 : UInt8), (8 : UInt8), (8 : UInt8), (8 : UInt8), (8 : UInt8), (8 : UInt8), (8 : UInt8), (8 : UInt8), (8 : UInt8), (8 : UInt8), (8 : UInt8)])).toArray).data.toList.getD (Go.IntKind.u8.wrap (Ev.ishr Go.IntKind.u64 (Ev.ishr Go.IntKind.u64 x0 (32 : Int)) (8 : Int))).toNat (0 : UInt8)).toNat : Int)))
     else none
    else
     bif Decidable.decide ((0 : Int) ≤ Go.IntKind.u8.wrap (Ev.ishr Go.IntKind.u64 x0 (32 : Int)) ∧ Go.IntKind.u8.wrap (Ev.ishr Go.IntKind.u64 x0 (32 : Int)) < (↑(ByteArray.mk (([(0 : UInt8), (1 : UInt8), (2 : UInt8), (2 : UInt8), (3 : UInt8), (3 : UInt8), (3 : UInt8), (3 : UInt8), (4 : UInt8), (4 : UInt8), (4 : UInt8), (4 : UInt8), (4 : UInt8), (4 : UInt8), (4 : UInt8), (4 : UInt8), (5 : UInt8), (5 : UInt8), (5 : UInt8), (5 : UInt8), (5 : UInt8), (5 : UInt8), (5 : UInt8), (5 : UInt8), (5 : UInt8), (5 : UInt8), (5 : UInt8), (5 : UInt8), (5 : UInt8), (5 : UInt8), (5 : UInt8), (5 : UInt8), (6 : UInt8), (6 : UInt8), (6 : UInt8), (6 : UInt8), (6 : UInt8), (6 : UInt8), (6 : UInt8), (6 : UInt8), (6 : UInt8), (6 : UInt8), (6 : UInt8), (6 : UInt8), (6 : UInt8), (6 : UInt8), (6 : UInt8), (6 : UInt8), (6 : UInt8), (6 : UInt8), (6 : UInt8), (6 : UInt8), (6 : UInt8), (6 : UInt8), (6 : UInt8), (6 : UInt8), (6 : UInt8), (6 : UInt8), (6 : UInt8), (6 : UInt8), (6 : UInt8), (6 : UInt8), (6 : UInt8), (6 : UInt8)].append [(7 : UInt8), (7 : UInt8), (7 : UInt8), (7 : UInt8), (7 : UInt8), (7 : UInt8), (7 : UInt8), (7 : UInt8), (7 : UInt8), (7 : UInt8), (7 : UInt8), (7 : UInt8), (7 : UInt8), (7 : UInt8), (7 : UInt8), (7 : UInt8), (7 : UInt8), (7 : UInt8), (7 : UInt8), (7 : UInt8), (7 : UInt8), (7 : UInt8), (7 : UInt8), (7 : UInt8), (7 : UInt8), (7 : UInt8), (7 : UInt8), (7 : UInt8), (7 : UInt8), (7 : UInt8), (7 : UInt8), (7 : UInt8), (7 : UInt8), (7 : UInt8), (7 : UInt8), (7 : UInt8), (7 : UInt8), (7 : UInt8), (7 : UInt8), (7 : UInt8), (7 : UInt8), (7 : UInt8), (7 : UInt8), (7 : UInt8), (7 : UInt8), (7 : UInt8), (7 : UInt8), (7 : UInt8), (7 : UInt8), (7 : UInt8), (7 : UInt8), (7 : UInt8), (7 : UInt8), (7 : UInt8), (7 : UInt8), (7 : UInt8), (7 : UInt8), (7 : UInt8), (7 : UInt8), (7 : UInt8), (7 : UInt8), (7 : UInt8), (7 : UInt8), (7 : UInt8)]).append ([(8 : UInt8), (8 : UInt8), (8 : UInt8), (8 : UInt8), (8 : UInt8), (8 : UInt8), (8 : UInt8), (8 : UInt8), (8 : UInt8), (8 : UInt8), (8 : UInt8), (8 : UInt8), (8 : UInt8), (8 : UInt8), (8 : UInt8), (8 : UInt8), (8 : UInt8), (8 : UInt8), (8 : UInt8), (8 : UInt8), (8 : UInt8), (8 : UInt8), (8 : UInt8), (8 : UInt8), (8 : UInt8), (8 : UInt8), (8 : UInt8), (8 : UInt8), (8 : UInt8), (8 : UInt8), (8 : UInt8), (8 : UInt8), (8 : UInt8), (8 : UInt8), (8 : UInt8), (8 : UInt8), (8 : UInt8), (8 : UInt8), (8 : UInt8), (8 : UInt8), (8 : UInt8), (8 : UInt8), (8 : UInt8), (8 : UInt8), (8 : UInt8), (8 : UInt8), (8 : UInt8), (8 : UInt8), (8 : UInt8), (8 : UInt8), (8 : UInt8), (8 : UInt8), (8 : UInt8), (8 : UInt8), (8 : UInt8), (8 : UInt8), (8 : UInt8), (8 : UInt8), (8 : UInt8), (8 : UInt8), (8 : UInt8), (8 : UInt8), (8 : UInt8), (8 : UInt8)].append [(8 : UInt8), (8 : UInt8), (8 : UInt8), (8 : UInt8), (8 : UInt8), (8 : UInt8), (8 : UInt8), (8 : UInt8), (8 : UInt8), (8 : UInt8), (8 : UInt8), (8 : UInt8), (8 : UInt8), (8 : UInt8), (8 : UInt8), (8 : UInt8), (8 : UInt8), (8 : UInt8), (8 : UInt8), (8 : UInt8), (8 : UInt8), (8 : UInt8), (8 : UInt8), (8 : UInt8), (8 : UInt8), (8 : UInt8), (8 : UInt8), (8 : UInt8), (8 : UInt8), (8 : UInt8), (8 : UInt8), (8 : UInt8), (8 : UInt8), (8 : UInt8), (8 : UInt8), (8 : UInt8), (8 : UInt8), (8 : UInt8), (8 : UInt8), (8 : UInt8), (8 : UInt8), (8 : UInt8), (8 : UInt8), (8 : UInt8), (8 : UInt8), (8 : UInt8), (8 : UInt8), (8 : UInt8), (8 : UInt8), (8 : UInt8), (8 : UInt8), (8 : UInt8), (8 : UInt8), (8 : UInt8), (8 : UInt8), (8 : UInt8), (8 : UInt8), (8 : UInt8), (8 : UInt8), (8 : UInt8), (8 : UInt8), (8 : UInt8), (8 : UInt8), (8 : UInt8)])).toArray).size : Int)) then
     k0 (Go.IntKind.i64.wrap ((32 : Int) + Go.IntKind.i64.wrap (↑((ByteArray.mk (([(0 : UInt8), (1 : UInt8), (2 : UInt8), (2 : UInt8), (3 : UInt8), (3 : UInt8), (3 : UInt8), (3 : UInt8), (4 : UInt8), (4 : UInt8), (4 : UInt8), (4 : UInt8), (4 : UInt8), (4 : UInt8), (4 : UInt8), (4 : UInt8), (5 : UInt8), (5 : UInt8), (5 : UInt8), (5 : UInt8), (5 : UInt8), (5 : UInt8), (5 : UInt8), (5 : UInt8), (5 : UInt8), (5 : UInt8), (5 : UInt8), (5 : UInt8), (5 : UInt8), (5 : UInt8), (5 : UInt8), (5 : UInt8), (6 : UInt8), (6 : UInt8), (6 : UInt8), (6 : UInt8), (6 : UInt8), (6 : UInt8), (6 : UInt8), (6 : UInt8), (6 : UInt8), (6 : UInt8), (6 : UInt8), (6 : UInt8), (6 : UInt8), (6 : UInt8), (6 : UInt8), (6 : UInt8), (6 : UInt8), (6 : UInt8), (6 : UInt8), (6 : UInt8), (6 : UInt8), (6 : UInt8), (6 : UInt8), (6 : UInt8), (6 : UInt8), (6 : UInt8), (6 : UInt8), (6 : UInt8), (6 : UInt8), (6 : UInt8), (6 : UInt8), (6 : UInt8)].append [(7 : UInt8), (7 : UInt8), (7 : UInt8), (7 : UInt8), (7 : UInt8), (7 : UInt8), (7 : UInt8), (7 : UInt8), (7 : UInt8), (7 : UInt8), (7 : UInt8), (7 : UInt8), (7 : UInt8), (7 : UInt8), (7 : UInt8), (7 : UInt8), (7 : UInt8), (7 : UInt8), (7 : UInt8), (7 : UInt8), (7 : UInt8), (7 : UInt8), (7 : UInt8), (7 : UInt8), (7 : UInt8), (7 : UInt8), (7 : UInt8), (7 : UInt8), (7 : UInt8), (7 : UInt8), (7 : UInt8), (7 : UInt8), (7 : UInt8), (7 : UInt8), (7 : UInt8), (7 : UInt8), (7 : UInt8), (7 : UInt8), (7 : UInt8), (7 : UInt8), (7 : UInt8), (7 : UInt8), (7 : UInt8), (7 : UInt8), (7 : UInt8), (7 : UInt8), (7 : UInt8), (7 : UInt8), (7 : UInt8), (7 : UInt8), (7 : UInt8), (7 : UInt8), (7 : UInt8), (7 : UInt8), (7 : UInt8), (7 : UInt8), (7 : UInt8), (7 : UInt8), (7 : UInt8), (7 : UInt8), (7 : UInt8), (7 : UInt8), (7 : UInt8), (7 : UInt8)]).append ([(8 : UInt8), (8 : UInt8), (8 : UInt8), (8 : UInt8), (8 : UInt8), (8 : UInt8), (8 : UInt8), (8 : UInt8), (8 : UInt8), (8 : UInt8), (8 : UInt8), (8 : UInt8), (8 : UInt8), (8 : UInt8), (8 : UInt8), (8 : UInt8), (8 : UInt8), (8 : UInt8), (8 : UInt8), (8 : UInt8), (8 : UInt8), (8 : UInt8), (8 : UInt8), (8 : UInt8), (8 : UInt8), (8 : UInt8), (8 : UInt8), (8 : UInt8), (8 : UInt8), (8 : UInt8), (8 : UInt8), (8 : UInt8), (8 : UInt8), (8 : UInt8), (8 : UInt8), (8 : UInt8), (8 : UInt8), (8 : UInt8), (8 : UInt8), (8 : UInt8), (8 : UInt8), (8 : UInt8), (8 : UInt8), (8 : UInt8), (8 : UInt8), (8 : UInt8), (8 : UInt8), (8 : UInt8), (8 : UInt8), (8 : UInt8), (8 : UInt8), (8 : UInt8), (8 : UInt8), (8 : UInt8), (8 : UInt8), (8 : UInt8), (8 : UInt8), (8 : UInt8), (8 : UInt8), (8 : UInt8), (8 : UInt8), (8 : UInt8), (8 : UInt8), (8 : UInt8)].append [(8 : UInt8), (8 : UInt8), (8 : UInt8), (8 : UInt8), (8 : UInt8), (8 : UInt8), (8 : UInt8), (8 : UInt8), (8 : UInt8), (8 : UInt8), (8 : UInt8), (8 : UInt8), (8 : UInt8), (8 : UInt8), (8 : UInt8), (8 : UInt8), (8 : UInt8), (8 : UInt8), (8 : UInt8), (8 : UInt8), (8 : UInt8), (8 : UInt8), (8 : UInt8), (8 : UInt8), (8 : UInt8), (8 : UInt8), (8 : UInt8), (8 : UInt8), (8 : UInt8), (8 : UInt8), (8 : UInt8), (8 : UInt8), (8 : UInt8), (8 : UInt8), (8 : UInt8), (8 : UInt8), (8 : UInt8), (8 : UInt8), (8 : UInt8), (8 : UInt8), (8 : UInt8), (8 : UInt8), (8 : UInt8), (8 : UInt8), (8 : UInt8), (8 : UInt8), (8 : UInt8), (8 : UInt8), (8 : UInt8), (8 : UInt8), (8 : UInt8), (8 : UInt8), (8 : UInt8), (8 : UInt8), (8 : UInt8), (8 : UInt8), (8 : UInt8), (8 : UInt8), (8 : UInt8), (8 : UInt8), (8 : UInt8), (8 : UInt8), (8 : UInt8), (8 : UInt8)])).toArray).data.toList.getD (Go.IntKind.u8.wrap (Ev.ishr Go.IntKind.u64 x0 (32 : Int))).toNat (0 : UInt8)).toNat : Int)))
     else none
  else
   bif Decidable.decide (x0 ≥ (65536 : Int)) then
    bif Decidable.decide (Ev.ishr Go.IntKind.u64 x0 (16 : Int) ≥ (256 : Int)) then
     bif Decidable.decide ((0 : Int) ≤ Go.IntKind.u8.wrap (Ev.ishr Go.IntKind.u64 (Ev.ishr Go.IntKind.u64 x0 (16 : Int)) (8 : Int)) ∧ Go.IntKind.u8.wrap (Ev.ishr Go.IntKind.u64 (Ev.ishr Go.IntKind.u64 x0 (16 : Int)) (8 : Int)) < (↑(ByteArray.mk (([(0 : UInt8), (1 : UInt8), (2 : UInt8), (2 : UInt8), (3 : UInt8), (3 : UInt8), (3 : UInt8), (3 : UInt8), (4 : UInt8), (4 : UInt8), (4 : UInt8), (4 : UInt8), (4 : UInt8), (4 : UInt8), (4 : UInt8), (4 : UInt8), (5 : UInt8), (5 : UInt8), (5 : UInt8), (5 : UInt8), (5 : UInt8), (5 : UInt8), (5 : UInt8), (5 : UInt8), (5 : UInt8), (5 : UInt8), (5 : UInt8), (5 : UInt8), (5 : UInt8), (5 : UInt8), (5 : UInt8), (5 : UInt8), (6 : UInt8), (6 : UInt8), (6 : UInt8), (6 : UInt8), (6 : UInt8), (6 : UInt8), (6 : UInt8), (6 : UInt8), (6 : UInt8), (6 : UInt8), (6 : UInt8), (6 : UInt8), (6 : UInt8), (6 : UInt8), (6 : UInt8), (6 : UInt8), (6 : UInt8), (6 : UInt8), (6 : UInt8), (6 : UInt8), (6 : UInt8), (6 : UInt8), (6 : UInt8), (6 : UInt8), (6 : UInt8), (6 : UInt8), (6 : UInt8), (6 : UInt8), (6 : UInt8), (6 : UInt8), (6 : UInt8), (6 : UInt8)].append [(7 : UInt8), (7 : UInt8), (7 : UInt8), (7 : UInt8), (7 : UInt8), (7 : UInt8), (7 : UInt8), (7 : UInt8), (7 : UInt8), (7 : UInt8), (7 : UInt8), (7 : UInt8), (7 : UInt8), (7 : UInt8), (7 : UInt8), (7 : UInt8), (7 : UInt8), (7 : UInt8), (7 : UInt8), (7 : UInt8), (7 : UInt8), (7 : UInt8), (7 : UInt8), (7 : UInt8), (7 : UInt8), (7 : UInt8), (7 : UInt8), (7 : UInt8), (7 : UInt8), (7 : UInt8), (7 : UInt8), (7 : UInt8), (7 : UInt8), (7 : UInt8), (7 : UInt8), (7 : UInt8), (7 : UInt8), (7 : UInt8), (7 : UInt8), (7 : UInt8), (7 : UInt8), (7 : UInt8), (7 : UInt8), (7 : UInt8), (7 : UInt8), (7 : UInt8), (7 : UInt8), (7 : UInt8), (7 : UInt8), (7 : UInt8), (7 : UInt8), (7 : UInt8), (7 : UInt8), (7 : UInt8), (7 : UInt8), (7 : UInt8), (7 : UInt8), (7 : UInt8), (7 : UInt8), (7 : UInt8), (7 : UInt8), (7 : UInt8), (7 : UInt8), (7 : UInt8)]).append ([(8 : UInt8), (8 : UInt8), (8 : UInt8), (8 : UInt8), (8 : UInt8), (8 : UInt8), (8 : UInt8), (8 : UInt8), (8 : UInt8), (8 : UInt8), (8 : UInt8), (8 : UInt8), (8 : UInt8), (8 : UInt8), (8 : UInt8), (8 : UInt8), (8 : UInt8), (8 : UInt8), (8 : UInt8), (8 : UInt8), (8 : UInt8), (8 : UInt8), (8 : UInt8), (8 : UInt8), (8 : UInt8), (8 : UInt8), (8 : UInt8), (8 : UInt8), (8 : UInt8), (8 : UInt8), (8 : UInt8), (8 : UInt8), (8 : UInt8), (8 : UInt8), (8 : UInt8), (8 : UInt8), (8 : UInt8), (8 : UInt8), (8 : UInt8), (8 : UInt8), (8 : UInt8), (8 : UInt8), (8 : UInt8), (8 : UInt8), (8 : UInt8), (8 : UInt8), (8 : UInt8), (8 : UInt8), (8 : UInt8), (8 : UInt8), (8 : UInt8), (8 : UInt8), (8 : UInt8), (8 : UInt8), (8 : UInt8), (8 : UInt8), (8 : UInt8), (8 : UInt8), (8 : UInt8), (8 : UInt8), (8 : UInt8), (8 : UInt8), (8 : UInt8), (8 : UInt8)].append [(8 : UInt8), (8 : UInt8), (8 : UInt8), (8 : UInt8), (8 : UInt8), (8 : UInt8), (8 : UInt8), (8 : UInt8), (8 : UInt8), (8 : UInt8), (8 : UInt8), (8 : UInt8), (8 : UInt8), (8 : UInt8), (8 : UInt8), (8 : UInt8), (8 : UInt8), (8 : UInt8), (8 : UInt8), (8 : UInt8), (8 : UInt8), (8 : UInt8), (8 : UInt8), (8 : UInt8), (8 : UInt8), (8 : UInt8), (8 : UInt8), (8 : UInt8), (8 : UInt8), (8 : UInt8), (8 : UInt8), (8 : UInt8), (8 : UInt8), (8 : UInt8), (8 : UInt8), (8 : UInt8), (8 : UInt8), (8 : UInt8), (8 : UInt8), (8 : UInt8), (8 : UInt8), (8 : UInt8), (8 : UInt8), (8 : UInt8), (8 : UInt8), (8 : UInt8), (8 : UInt8), (8 : UInt8), (8 : UInt8), (8 : UInt8), (8 : UInt8), (8 : UInt8), (8 : UInt8), (8 : UInt8), (8 : UInt8), (8 : UInt8), (8 : UInt8), (8 : UInt8), (8 : UInt8), (8 : UInt8), (8 : UInt8), (8 : UInt8), (8 : UInt8), (8 : UInt8)])).toArray).size : Int)) then
     k0 (Go.IntKind.i64.wrap (Go.IntKind.i64.wrap (Go.IntKind.i64.wrap ((0 : Int) + (16 : Int)) + (8 : Int)) + Go.IntKind.i64.wrap (↑((ByteArray.mk (([(0 : UInt8), (1 : UInt8), (2 : UInt8), (2 : UInt8), (3 : UInt8), (3 : UInt8), (3 : UInt8), (3 : UInt8), (4 : UInt8), (4 : UInt8), (4 : UInt8), (4 : UInt8), (4 : UInt8), (4 : UInt8), (4 : UInt8), (4 : UInt8), (5 : UInt8), (5 : UInt8), (5 : UInt8), (5 : UInt8), (5 : UInt8), (5 : UInt8), (5 : UInt8), (5 : UInt8), (5 : UInt8), (5 : UInt8), (5 : UInt8), (5 : UInt8), (5 : UInt8), (5 : UInt8), (5 : UInt8), (5 : UInt8), (6 : UInt8), (6 : UInt8), (6 : UInt8), (6 : UInt8), (6 : UInt8), (6 : UInt8), (6 : UInt8), (6 : UInt8), (6 : UInt8), (6 : UInt8), (6 : UInt8), (6 : UInt8), (6 : UInt8), (6 : UInt8), (6 : UInt8), (6 : UInt8), (6 : UInt8), (6 : UInt8), (6 : UInt8), (6 : UInt8), (6 : UInt8), (6 : UInt8), (6 : UInt8), (6 : UInt8), (6 : UInt8), (6 : UInt8), (6 : UInt8), (6 : UInt8), (6 : UInt8), (6 : UInt8), (6 : UInt8), (6 : UInt8)].append [(7 : UInt8), (7 : UInt8), (7 : UInt8), (7 : UInt8), (7 : UInt8), (7 : UInt8), (7 : UInt8), (7 : UInt8), (7 : UInt8), (7 : UInt8), (7 : UInt8), (7 : UInt8), (7 : UInt8), (7 : UInt8), (7 : UInt8), (7 : UInt8), (7 : UInt8), (7 : UInt8), (7 : UInt8), (7 : UInt8), (7 : UInt8), (7 : UInt8), (7 : UInt8), (7 : UInt8), (7 : UInt8), (7 : UInt8), (7 : UInt8), (7 : UInt8), (7 : UInt8), (7 : UInt8), (7 : UInt8), (7 : UInt8), (7 : UInt8), (7 : UInt8), (7 : UInt8), (7 : UInt8), (7 : UInt8), (7 : UInt8), (7 : UInt8), (7 : UInt8), (7 : UInt8), (7 : UInt8), (7 : UInt8), (7 : UInt8), (7 : UInt8), (7 : UInt8), (7 : UInt8), (7 : UInt8), (7 : UInt8), (7 : UInt8), (7 : UInt8), (7 : UInt8), (7 : UInt8), (7 : UInt8), (7 : UInt8), (7 : UInt8), (7 : UInt8), (7 : UInt8), (7 : UInt8), (7 : UInt8), (7 : UInt8), (7 : UInt8), (7 : UInt8), (7 : UInt8)]).append ([(8 : UInt8), (8 : UInt8), (8 : UInt8), (8 : UInt8), (8 : UInt8), (8 : UInt8), (8 : UInt8), (8 : UInt8), (8 : UInt8), (8 : UInt8), (8 : UInt8), (8 : UInt8), (8 : UInt8), (8 : UInt8), (8 : UInt8), (8 : UInt8), (8 : UInt8), (8 : UInt8), (8 : UInt8), (8 : UInt8), (8 : UInt8), (8 : UInt8), (8 : UInt8), (8 : UInt8), (8 : UInt8), (8 : UInt8), (8 : UInt8), (8 : UInt8), (8 : UInt8), (8 : UInt8), (8 : UInt8), (8 : UInt8), (8 : UInt8), (8 : UInt8), (8 : UInt8), (8 : UInt8), (8 : UInt8), (8 : UInt8), (8 : UInt8), (8 : UInt8), (8 : UInt8), (8 : UInt8), (8 : UInt8), (8 : UInt8), (8 : UInt8), (8 : UInt8), (8 : UInt8), (8 : UInt8), (8 : UInt8), (8 : UInt8), (8 : UInt8), (8 : UInt8), (8 : UInt8), (8 : UInt8), (8 : UInt8), (8 : UInt8), (8 : UInt8), (8 : UInt8), (8 : UInt8), (8 : UInt8), (8 : UInt8), (8 : UInt8), (8 : UInt8), (8 : UInt8)].append [(8 : UInt8), (8 : UInt8), (8 : UInt8), (8 : UInt8), (8 : UInt8), (8 : UInt8), (8 : UInt8), (8 : UInt8), (8 : UInt8), (8 : UInt8), (8 : UInt8), (8 : UInt8), (8 : UInt8), (8 : UInt8), (8 : UInt8), (8 : UInt8), (8 : UInt8), (8 : UInt8), (8 : UInt8), (8 : UInt8), (8 : UInt8), (8 : UInt8), (8 : UInt8), (8 : UInt8), (8 : UInt8), (8 : UInt8), (8 : UInt8), (8 : UInt8), (8 : UInt8), (8 : UInt8), (8 : UInt8), (8 : UInt8), (8 : UInt8), (8 : UInt8), (8 : UInt8), (8 : UInt8), (8 : UInt8), (8 : UInt8), (8 : UInt8), (8 : UInt8), (8 : UInt8), (8 : UInt8), (8 : UInt8), (8 : UInt8), (8 : UInt8), (8 : UInt8), (8 : UInt8), (8 : UInt8), (8 : UInt8), (8 : UInt8), (8 : UInt8), (8 : UInt8), (8 : UInt8), (8 : UInt8), (8 : UInt8), (8 : UInt8), (8 : UInt8), (8 : UInt8), (8 : UInt8), (8 : UInt8), (8 : UInt8), (8 : UInt8), (8 : UInt8), (8 : UInt8)])).toArray).data.toList.getD (Go.IntKind.u8.wrap (Ev.ishr Go.IntKind.u64 (Ev.ishr Go.IntKind.u64 x0 (16 : Int)) (8 : Int))).toNat (0 : UInt8)).toNat : Int)))
     else none
    else
     bif Decidable.decide ((0 : Int) ≤ Go.IntKind.u8.wrap (Ev.ishr Go.IntKind.u64 x0 (16 : Int)) ∧ Go.IntKind.u8.wrap (Ev.ishr Go.IntKind.u64 x0 (16 : Int)) < (↑(ByteArray.mk (([(0 : UInt8), (1 : UInt8), (2 : UInt8), (2 : UInt8), (3 : UInt8), (3 : UInt8), (3 : UInt8), (3 : UInt8), (4 : UInt8), (4 : UInt8), (4 : UInt8), (4 : UInt8), (4 : UInt8), (4 : UInt8), (4 : UInt8), (4 : UInt8), (5 : UInt8), (5 : UInt8), (5 : UInt8), (5 : UInt8), (5 : UInt8), (5 : UInt8), (5 : UInt8), (5 : UInt8), (5 : UInt8), (5 : UInt8), (5 : UInt8), (5 : UInt8), (5 : UInt8), (5 : UInt8), (5 : UInt8), (5 : UInt8), (6 : UInt8), (6 : UInt8), (6 : UInt8), (6 : UInt8), (6 : UInt8), (6 : UInt8), (6 : UInt8), (6 : UInt8), (6 : UInt8), (6 : UInt8), (6 : UInt8), (6 : UInt8), (6 : UInt8), (6 : UInt8), (6 : UInt8), (6 : UInt8), (6 : UInt8), (6 : UInt8), (6 : UInt8), (6 : UInt8), (6 : UInt8), (6 : UInt8), (6 : UInt8), (6 : UInt8), (6 : UInt8), (6 : UInt8), (6 : UInt8), (6 : UInt8), (6 : UInt8), (6 : UInt8), (6 : UInt8), (6 : UInt8)].append [(7 : UInt8), (7 : UInt8), (7 : UInt8), (7 : UInt8), (7 : UInt8), (7 : UInt8), (7 : UInt8), (7 : UInt8), (7 : UInt8), (7 : UInt8), (7 : UInt8), (7 : UInt8), (7 : UInt8), (7 : UInt8), (7 : UInt8), (7 : UInt8), (7 : UInt8), (7 : UInt8), (7 : UInt8), (7 : UInt8), (7 : UInt8), (7 : UInt8), (7 : UInt8), (7 : UInt8), (7 : UInt8), (7 : UInt8), (7 : UInt8), (7 : UInt8), (7 : UInt8), (7 : UInt8), (7 : UInt8), (7 : UInt8), (7 : UInt8), (7 : UInt8), (7 : UInt8), (7 : UInt8), (7 : UInt8), (7 : UInt8), (7 : UInt8), (7 : UInt8), (7 : UInt8), (7 : UInt8), (7 : UInt8), (7 : UInt8), (7 : UInt8), (7 : UInt8), (7 : UInt8), (7 : UInt8), (7 : UInt8), (7 : UInt8), (7 : UInt8), (7 : UInt8), (7 : UInt8), (7 : UInt8), (7 : UInt8), (7 : UInt8), (7 : UInt8), (7 : UInt8), (7 : UInt8), (7 : UInt8), (7 : UInt8), (7 : UInt8), (7 : UInt8), (7 : UInt8)]).append ([(8 : UInt8), (8 : UInt8), (8 : UInt8), (8 : UInt8), (8 : UInt8), (8 : UInt8), (8 : UInt8), (8 : UInt8), (8 : UInt8), (8 : UInt8), (8 : UInt8), (8 : UInt8), (8 : UInt8), (8 : UInt8), (8 : UInt8), (8 : UInt8), (8 : UInt8), (8 : UInt8), (8 : UInt8), (8 : UInt8), (8 : UInt8), (8 : UInt8), (8 : UInt8), (8 : UInt8), (8 : UInt8), (8 : UInt8), (8 : UInt8), (8 : UInt8), (8 : UInt8), (8 : UInt8), (8 : UInt8), (8 : UInt8), (8 : UInt8), (8 : UInt8), (8 : UInt8), (8 : UInt8), (8 : UInt8), (8 : UInt8), (8 : UInt8), (8 : UInt8), (8 : UInt8), (8 : UInt8), (8 : UInt8), (8 : UInt8), (8 : UInt8), (8 : UInt8), (8 : UInt8), (8 : UInt8), (8 : UInt8), (8 : UInt8), (8 : UInt8), (8 : UInt8), (8 : UInt8), (8 : UInt8), (8 : UInt8), (8 : UInt8), (8 : UInt8), (8 : UInt8), (8 : UInt8), (8 : UInt8), (8 : UInt8), (8 : UInt8), (8 : UInt8), (8 : UInt8)].append [(8 : UInt8), (8 : UInt8), (8 : UInt8), (8 : UInt8), (8 : UInt8), (8 : UInt8), (8 : UInt8), (8 : UInt8), (8 : UInt8), (8 : UInt8), (8 : UInt8), (8 : UInt8), (8 : UInt8), (8 : UInt8), (8 : UInt8), (8 : UInt8), (8 : UInt8), (8 : UInt8), (8 : UInt8), (8 : UInt8), (8 : UInt8), (8 : UInt8), (8 : UInt8), (8 : UInt8), (8 : UInt8), (8 : UInt8), (8 : UInt8), (8 : UInt8), (8 : UInt8), (8 : UInt8), (8 : UInt8), (8 : UInt8), (8 : UInt8), (8 : UInt8), (8 : UInt8), (8 : UInt8), (8 : UInt8), (8 : UInt8), (8 : UInt8), (8 : UInt8), (8 : UInt8), (8 : UInt8), (8 : UInt8), (8 : UInt8), (8 : UInt8), (8 : UInt8), (8 : UInt8), (8 : UInt8), (8 : UInt8), (8 : UInt8), (8 : UInt8), (8 : UInt8), (8 : UInt8), (8 : UInt8), (8 : UInt8), (8 : UInt8), (8 : UInt8), (8 : UInt8), (8 : UInt8), (8 : UInt8), (8 : UInt8), (8 : UInt8), (8 : UInt8), (8 : UInt8)])).toArray).size : Int)) then
     k0 (Go.IntKind.i64.wrap (Go.IntKind.i64.wrap ((0 : Int) + (16 : Int)) + Go.IntKind.i64.wrap (↑((ByteArray.mk (([(0 : UInt8), (1 : UInt8), (2 : UInt8), (2 : UInt8), (3 : UInt8), (3 : UInt8), (3 : UInt8), (3 : UInt8), (4 : UInt8), (4 : UInt8), (4 : UInt8), (4 : UInt8), (4 : UInt8), (4 : UInt8), (4 : UInt8), (4 : UInt8), (5 : UInt8), (5 : UInt8), (5 : UInt8), (5 : UInt8), (5 : UInt8), (5 : UInt8), (5 : UInt8), (5 : UInt8), (5 : UInt8), (5 : UInt8), (5 : UInt8), (5 : UInt8), (5 : UInt8), (5 : UInt8), (5 : UInt8), (5 : UInt8), (6 : UInt8), (6 : UInt8), (6 : UInt8), (6 : UInt8), (6 : UInt8), (6 : UInt8), (6 : UInt8), (6 : UInt8), (6 : UInt8), (6 : UInt8), (6 : UInt8), (6 : UInt8), (6 : UInt8), (6 : UInt8), (6 : UInt8), (6 : UInt8), (6 : UInt8), (6 : UInt8), (6 : UInt8), (6 : UInt8), (6 : UInt8), (6 : UInt8), (6 : UInt8), (6 : UInt8), (6 : UInt8), (6 : UInt8), (6 : UInt8), (6 : UInt8), (6 : UInt8), (6 : UInt8), (6 : UInt8), (6 : UInt8)].append [(7 : UInt8), (7 : UInt8), (7 : UInt8), (7 : UInt8), (7 : UInt8), (7 : UInt8), (7 : UInt8), (7 : UInt8), (7 : UInt8), (7 : UInt8), (7 : UInt8), (7 : UInt8), (7 : UInt8), (7 : UInt8), (7 : UInt8), (7 : UInt8), (7 : UInt8), (7 : UInt8), (7 : UInt8), (7 : UInt8), (7 : UInt8), (7 : UInt8), (7 : UInt8), (7 : UInt8), (7 : UInt8), (7 : UInt8), (7 : UInt8), (7 : UInt8), (7 : UInt8), (7 : UInt8), (7 : UInt8), (7 : UInt8), (7 : UInt8), (7 : UInt8), (7 : UInt8), (7 : UInt8), (7 : UInt8), (7 : UInt8), (7 : UInt8), (7 : UInt8), (7 : UInt8), (7 : UInt8), (7 : UInt8), (7 : UInt8), (7 : UInt8), (7 : UInt8), (7 : UInt8), (7 : UInt8), (7 : UInt8), (7 : UInt8), (7 : UInt8), (7 : UInt8), (7 : UInt8), (7 : UInt8), (7 : UInt8), (7 : UInt8), (7 : UInt8), (7 : UInt8), (7 : UInt8), (7 : UInt8), (7 : UInt8), (7 : UInt8), (7 : UInt8), (7 : UInt8)]).append ([(8 : UInt8), (8 : UInt8), (8 : UInt8), (8 : UInt8), (8 : UInt8), (8 : UInt8), (8 : UInt8), (8 : UInt8), (8 : UInt8), (8 : UInt8), (8 : UInt8), (8 : UInt8), (8 : UInt8), (8 : UInt8), (8 : UInt8), (8 : UInt8), (8 : UInt8), (8 : UInt8), (8 : UInt8), (8 : UInt8), (8 : UInt8), (8 : UInt8), (8 : UInt8), (8 : UInt8), (8 : UInt8), (8 : UInt8), (8 : UInt8), (8 : UInt8), (8 : UInt8), (8 : UInt8), (8 : UInt8), (8 : UInt8), (8 : UInt8), (8 : UInt8), (8 : UInt8), (8 : UInt8), (8 : UInt8), (8 : UInt8), (8 : UInt8), (8 : UInt8), (8 : UInt8), (8 : UInt8), (8 : UInt8), (8 : UInt8), (8 : UInt8), (8 : UInt8), (8 : UInt8), (8 : UInt8), (8 : UInt8), (8 : UInt8), (8 : UInt8), (8 : UInt8), (8 : UInt8), (8 : UInt8), (8 : UInt8), (8 : UInt8), (8 : UInt8), (8 : UInt8), (8 : UInt8), (8 : UInt8), (8 : UInt8), (8 : UInt8), (8 : UInt8), (8 : UInt8)].append [(8 : UInt8), (8 : UInt8), (8 : UInt8), (8 : UInt8), (8 : UInt8), (8 : UInt8), (8 : UInt8), (8 : UInt8), (8 : UInt8), (8 : UInt8), (8 : UInt8), (8 : UInt8), (8 : UInt8), (8 : UInt8), (8 : UInt8), (8 : UInt8), (8 : UInt8), (8 : UInt8), (8 : UInt8), (8 : UInt8), (8 : UInt8), (8 : UInt8), (8 : UInt8), (8 : UInt8), (8 : UInt8), (8 : UInt8), (8 : UInt8), (8 : UInt8), (8 : UInt8), (8 : UInt8), (8 : UInt8), (8 : UInt8), (8 : UInt8), (8 : UInt8), (8 : UInt8), (8 : UInt8), (8 : UInt8), (8 : UInt8), (8 : UInt8), (8 : UInt8), (8 : UInt8), (8 : UInt8), (8 : UInt8), (8 : UInt8), (8 : UInt8), (8 : UInt8), (8 : UInt8), (8 : UInt8), (8 : UInt8), (8 : UInt8), (8 : UInt8), (8 : UInt8), (8 : UInt8), (8 : UInt8), (8 : UInt8), (8 : UInt8), (8 : UInt8), (8 : UInt8), (8 : UInt8), (8 : UInt8), (8 : UInt8), (8 : UInt8), (8 : UInt8), (8 : UInt8)])).toArray).data.toList.getD (Go.IntKind.u8.wrap (Ev.ishr Go.IntKind.u64 x0 (16 : Int))).toNat (0 : UInt8)).toNat : Int)))
     else none
   else
    bif Decidable.decide (x0 ≥ (256 : Int)) then
     bif Decidable.decide ((0 : Int) ≤ Go.IntKind.u8.wrap (Ev.ishr Go.IntKind.u64 x0 (8 : Int)) ∧ Go.IntKind.u8.wrap (Ev.ishr Go.IntKind.u64 x0 (8 : Int)) < (↑(ByteArray.mk (([(0 : UInt8), (1 : UInt8), (2 : UInt8), (2 : UInt8), (3 : UInt8), (3 : UInt8), (3 : UInt8), (3 : UInt8), (4 : UInt8), (4 : UInt8), (4 : UInt8), (4 : UInt8), (4 : UInt8), (4 : UInt8), (4 : UInt8), (4 : UInt8), (5 : UInt8), (5 : UInt8), (5 : UInt8), (5 : UInt8), (5 : UInt8), (5 : UInt8), (5 : UInt8), (5 : UInt8), (5 : UInt8), (5 : UInt8), (5 : UInt8), (5 : UInt8), (5 : UInt8), (5 : UInt8), (5 : UInt8), (5 : UInt8), (6 : UInt8), (6 : UInt8), (6 : UInt8), (6 : UInt8), (6 : UInt8), (6 : UInt8), (6 : UInt8), (6 : UInt8), (6 : UInt8), (6 : UInt8), (6 : UInt8), (6 : UInt8), (6 : UInt8), (6 : UInt8), (6 : UInt8), (6 : UInt8), (6 : UInt8), (6 : UInt8), (6 : UInt8), (6 : UInt8), (6 : UInt8), (6 : UInt8), (6 : UInt8), (6 : UInt8), (6 : UInt8), (6 : UInt8), (6 : UInt8), (6 : UInt8), (6 : UInt8), (6 : UInt8), (6 : UInt8), (6 : UInt8)].append [(7 : UInt8), (7 : UInt8), (7 : UInt8), (7 : UInt8), (7 : UInt8), (7 : UInt8), (7 : UInt8), (7 : UInt8), (7 : UInt8), (7 : UInt8), (7 : UInt8), (7 : UInt8), (7 : UInt8), (7 : UInt8), (7 : UInt8), (7 : UInt8), (7 : UInt8), (7 : UInt8), (7 : UInt8), (7 : UInt8), (7 : UInt8), (7 : UInt8), (7 : UInt8), (7 : UInt8), (7 : UInt8), (7 : UInt8), (7 : UInt8), (7 : UInt8), (7 : UInt8), (7 : UInt8), (7 : UInt8), (7 : UInt8), (7 : UInt8), (7 : UInt8), (7 : UInt8), (7 : UInt8), (7 : UInt8), (7 : UInt8), (7 : UInt8), (7 : UInt8), (7 : UInt8), (7 : UInt8), (7 : UInt8), (7 : UInt8), (7 : UInt8), (7 : UInt8), (7 : UInt8), (7 : UInt8), (7 : UInt8), (7 : UInt8), (7 : UInt8), (7 : UInt8), (7 : UInt8), (7 : UInt8), (7 : UInt8), (7 : UInt8), (7 : UInt8), (7 : UInt8), (7 : UInt8), (7 : UInt8), (7 : UInt8), (7 : UInt8), (7 : UInt8), (7 : UInt8)]).append ([(8 : UInt8), (8 : UInt8), (8 : UInt8), (8 : UInt8), (8 : UInt8), (8 : UInt8), (8 : UInt8), (8 : UInt8), (8 : UInt8), (8 : UInt8), (8 : UInt8), (8 : UInt8), (8 : UInt8), (8 : UInt8), (8 : UInt8), (8 : UInt8), (8 : UInt8), (8 : UInt8), (8 : UInt8), (8 : UInt8), (8 : UInt8), (8 : UInt8), (8 : UInt8), (8 : UInt8), (8 : UInt8), (8 : UInt8), (8 : UInt8), (8 : UInt8), (8 : UInt8), (8 : UInt8), (8 : UInt8), (8 : UInt8), (8 : UInt8), (8 : UInt8), (8 : UInt8), (8 : UInt8), (8 : UInt8), (8 : UInt8), (8 : UInt8), (8 : UInt8), (8 : UInt8), (8 : UInt8), (8 : UInt8), (8 : UInt8), (8 : UInt8), (8 : UInt8), (8 : UInt8), (8 : UInt8), (8 : UInt8), (8 : UInt8), (8 : UInt8), (8 : UInt8), (8 : UInt8), (8 : UInt8), (8 : UInt8), (8 : UInt8), (8 : UInt8), (8 : UInt8), (8 : UInt8), (8 : UInt8), (8 : UInt8), (8 : UInt8), (8 : UInt8), (8 : UInt8)].append [(8 : UInt8), (8 : UInt8), (8 : UInt8), (8 : UInt8), (8 : UInt8), (8 : UInt8), (8 : UInt8), (8 : UInt8), (8 : UInt8), (8 : UInt8), (8 : UInt8), (8 : UInt8), (8 : UInt8), (8 : UInt8), (8 : UInt8), (8 : UInt8), (8 : UInt8), (8 : UInt8), (8 : UInt8), (8 : UInt8), (8 : UInt8), (8 : UInt8), (8 : UInt8), (8 : UInt8), (8 : UInt8), (8 : UInt8), (8 : UInt8), (8 : UInt8), (8 : UInt8), (8 : UInt8), (8 : UInt8), (8 : UInt8), (8 : UInt8), (8 : UInt8), (8 : UInt8), (8 : UInt8), (8 : UInt8), (8 : UInt8), (8 : UInt8), (8 : UInt8), (8 : UInt8), (8 : UInt8), (8 : UInt8), (8 : UInt8), (8 : UInt8), (8 : UInt8), (8 : UInt8), (8 : UInt8), (8 : UInt8), (8 : UInt8), (8 : UInt8), (8 : UInt8), (8 : UInt8), (8 : UInt8), (8 : UInt8), (8 : UInt8), (8 : UInt8), (8 : UInt8), (8 : UInt8), (8 : UInt8), (8 : UInt8), (8 : UInt8), (8 : UInt8), (8 : UInt8)])).toArray).size : Int)) then
     k0 (Go.IntKind.i64.wrap (Go.IntKind.i64.wrap ((0 : Int) + (8 : Int)) + Go.IntKind.i64.wrap (↑((ByteArray.mk (([(0 : UInt8), (1 : UInt8), (2 : UInt8), (2 : UInt8), (3 : UInt8), (3 : UInt8), (3 : UInt8), (3 : UInt8), (4 : UInt8), (4 : UInt8), (4 : UInt8), (4 : UInt8), (4 : UInt8), (4 : UInt8), (4 : UInt8), (4 : UInt8), (5 : UInt8), (5 : UInt8), (5 : UInt8), (5 : UInt8), (5 : UInt8), (5 : UInt8), (5 : UInt8), (5 : UInt8), (5 : UInt8), (5 : UInt8), (5 : UInt8), (5 : UInt8), (5 : UInt8), (5 : UInt8), (5 : UInt8), (5 : UInt8), (6 : UInt8), (6 : UInt8), (6 : UInt8), (6 : UInt8), (6 : UInt8), (6 : UInt8), (6 : UInt8), (6 : UInt8), (6 : UInt8), (6 : UInt8), (6 : UInt8), (6 : UInt8), (6 : UInt8), (6 : UInt8), (6 : UInt8), (6 : UInt8), (6 : UInt8), (6 : UInt8), (6 : UInt8), (6 : UInt8), (6 : UInt8), (6 : UInt8), (6 : UInt8), (6 : UInt8), (6 : UInt8), (6 : UInt8), (6 : UInt8), (6 : UInt8), (6 : UInt8), (6 : UInt8), (6 : UInt8), (6 : UInt8)].append [(7 : UInt8), (7 : UInt8), (7 : UInt8), (7 : UInt8), (7 : UInt8), (7 : UInt8), (7 : UInt8), (7 : UInt8), (7 : UInt8), (7 : UInt8), (7 : UInt8), (7 : UInt8), (7 : UInt8), (7 : UInt8), (7 : UInt8), (7 : UInt8), (7 : UInt8), (7 : UInt8), (7 : UInt8), (7 : UInt8), (7 : UInt8), (7 : UInt8), (7 : UInt8), (7 : UInt8), (7 : UInt8), (7 : UInt8), (7 : UInt8), (7 : UInt8), (7 : UInt8), (7 : UInt8), (7 : UInt8), (7 : UInt8), (7 : UInt8), (7 : UInt8), (7 : UInt8), (7 : UInt8), (7 : UInt8), (7 : UInt8), (7 : UInt8), (7 : UInt8), (7 : UInt8), (7 : UInt8), (7 : UInt8), (7 : UInt8), (7 : UInt8), (7 : UInt8), (7 : UInt8), (7 : UInt8), (7 : UInt8), (7 : UInt8), (7 : UInt8), (7 : UInt8), (7 : UInt8), (7 : UInt8), (7 : UInt8), (7 : UInt8), (7 : UInt8), (7 : UInt8), (7 : UInt8), (7 : UInt8), (7 : UInt8), (7 : UInt8), (7 : UInt8), (7 : UInt8)]).append ([(8 : UInt8), (8 : UInt8), (8 : UInt8), (8 : UInt8), (8 : UInt8), (8 : UInt8), (8 : UInt8), (8 : UInt8), (8 : UInt8), (8 : UInt8), (8 : UInt8), (8 : UInt8), (8 : UInt8), (8 : UInt8), (8 : UInt8), (8 : UInt8), (8 : UInt8), (8 : UInt8), (8 : UInt8), (8 : UInt8), (8 : UInt8), (8 : UInt8), (8 : UInt8), (8 : UInt8), (8 : UInt8), (8 : UInt8), (8 : UInt8), (8 : UInt8), (8 : UInt8), (8 : UInt8), (8 : UInt8), (8 : UInt8), (8 : UInt8), (8 : UInt8), (8 : UInt8), (8 : UInt8), (8 : UInt8), (8 : UInt8), (8 : UInt8), (8 : UInt8), (8 : UInt8), (8 : UInt8), (8 : UInt8), (8 : UInt8), (8 : UInt8), (8 : UInt8), (8 : UInt8), (8 : UInt8), (8 : UInt8), (8 : UInt8), (8 : UInt8), (8 : UInt8), (8 : UInt8), (8 : UInt8), (8 : UInt8), (8 : UInt8), (8 : UInt8), (8 : UInt8), (8 : UInt8), (8 : UInt8), (8 : UInt8), (8 : UInt8), (8 : UInt8), (8 : UInt8)].append [(8 : UInt8), (8 : UInt8), (8 : UInt8), (8 : UInt8), (8 : UInt8), (8 : UInt8), (8 : UInt8), (8 : UInt8), (8 : UInt8), (8 : UInt8), (8 : UInt8), (8 : UInt8), (8 : UInt8), (8 : UInt8), (8 : UInt8), (8 : UInt8), (8 : UInt8), (8 : UInt8), (8 : UInt8), (8 : UInt8), (8 : UInt8), (8 : UInt8), (8 : UInt8), (8 : UInt8), (8 : UInt8), (8 : UInt8), (8 : UInt8), (8 : UInt8), (8 : UInt8), (8 : UInt8), (8 : UInt8), (8 : UInt8), (8 : UInt8), (8 : UInt8), (8 : UInt8), (8 : UInt8), (8 : UInt8), (8 : UInt8), (8 : UInt8), (8 : UInt8), (8 : UInt8), (8 : UInt8), (8 : UInt8), (8 : UInt8), (8 : UInt8), (8 : UInt8), (8 : UInt8), (8 : UInt8), (8 : UInt8), (8 : UInt8), (8 : UInt8), (8 : UInt8), (8 : UInt8), (8 : UInt8), (8 : UInt8), (8 : UInt8), (8 : UInt8), (8 : UInt8), (8 : UInt8), (8 : UInt8), (8 : UInt8), (8 : UInt8), (8 : UInt8), (8 : UInt8)])).toArray).data.toList.getD (Go.IntKind.u8.wrap (Ev.ishr Go.IntKind.u64 x0 (8 : Int))).toNat (0 : UInt8)).toNat : Int)))
     else none
    else
     bif Decidable.decide ((0 : Int) ≤ Go.IntKind.u8.wrap x0 ∧ Go.IntKind.u8.wrap x0 < (↑(ByteArray.mk (([(0 : UInt8), (1 : UInt8), (2 : UInt8), (2 : UInt8), (3 : UInt8), (3 : UInt8), (3 : UInt8), (3 : UInt8), (4 : UInt8), (4 : UInt8), (4 : UInt8), (4 : UInt8), (4 : UInt8), (4 : UInt8), (4 : UInt8), (4 : UInt8), (5 : UInt8), (5 : UInt8), (5 : UInt8), (5 : UInt8), (5 : UInt8), (5 : UInt8), (5 : UInt8), (5 : UInt8), (5 : UInt8), (5 : UInt8), (5 : UInt8), (5 : UInt8), (5 : UInt8), (5 : UInt8), (5 : UInt8), (5 : UInt8), (6 : UInt8), (6 : UInt8), (6 : UInt8), (6 : UInt8), (6 : UInt8), (6 : UInt8), (6 : UInt8), (6 : UInt8), (6 : UInt8), (6 : UInt8), (6 : UInt8), (6 : UInt8), (6 : UInt8), (6 : UInt8), (6 : UInt8), (6 : UInt8), (6 : UInt8), (6 : UInt8), (6 : UInt8), (6 : UInt8), (6 : UInt8), (6 : UInt8), (6 : UInt8), (6 : UInt8), (6 : UInt8), (6 : UInt8), (6 : UInt8), (6 : UInt8), (6 : UInt8), (6 : UInt8), (6 : UInt8), (6 : UInt8)].append [(7 : UInt8), (7 : UInt8), (7 : UInt8), (7 : UInt8), (7 : UInt8), (7 : UInt8), (7 : UInt8), (7 : UInt8), (7 : UInt8), (7 : UInt8), (7 : UInt8), (7 : UInt8), (7 : UInt8), (7 : UInt8), (7 : UInt8), (7 : UInt8), (7 : UInt8), (7 : UInt8), (7 : UInt8), (7 : UInt8), (7 : UInt8), (7 : UInt8), (7 : UInt8), (7 : UInt8), (7 : UInt8), (7 : UInt8), (7 : UInt8), (7 : UInt8), (7 : UInt8), (7 : UInt8), (7 : UInt8), (7 : UInt8), (7 : UInt8), (7 : UInt8), (7 : UInt8), (7 : UInt8), (7 : UInt8), (7 : UInt8), (7 : UInt8), (7 : UInt8), (7 : UInt8), (7 : UInt8), (7 : UInt8), (7 : UInt8), (7 : UInt8), (7 : UInt8), (7 : UInt8), (7 : UInt8), (7 : UInt8), (7 : UInt8), (7 : UInt8), (7 : UInt8), (7 : UInt8), (7 : UInt8), (7 : UInt8), (7 : UInt8), (7 : UInt8), (7 : UInt8), (7 : UInt8), (7 : UInt8), (7 : UInt8), (7 : UInt8), (7 : UInt8), (7 : UInt8)]).append ([(8 : UInt8), (8 : UInt8), (8 : UInt8), (8 : UInt8), (8 : UInt8), (8 : UInt8), (8 : UInt8), (8 : UInt8), (8 : UInt8), (8 : UInt8), (8 : UInt8), (8 : UInt8), (8 : UInt8), (8 : UInt8), (8 : UInt8), (8 : UInt8), (8 : UInt8), (8 : UInt8), (8 : UInt8), (8 : UInt8), (8 : UInt8), (8 : UInt8), (8 : UInt8), (8 : UInt8), (8 : UInt8), (8 : UInt8), (8 : UInt8), (8 : UInt8), (8 : UInt8), (8 : UInt8), (8 : UInt8), (8 : UInt8), (8 : UInt8), (8 : UInt8), (8 : UInt8), (8 : UInt8), (8 : UInt8), (8 : UInt8), (8 : UInt8), (8 : UInt8), (8 : UInt8), (8 : UInt8), (8 : UInt8), (8 : UInt8), (8 : UInt8), (8 : UInt8), (8 : UInt8), (8 : UInt8), (8 : UInt8), (8 : UInt8), (8 : UInt8), (8 : UInt8), (8 : UInt8), (8 : UInt8), (8 : UInt8), (8 : UInt8), (8 : UInt8), (8 : UInt8), (8 : UInt8), (8 : UInt8), (8 : UInt8), (8 : UInt8), (8 : UInt8), (8 : UInt8)].append [(8 : UInt8), (8 : UInt8), (8 : UInt8), (8 : UInt8), (8 : UInt8), (8 : UInt8), (8 : UInt8), (8 : UInt8), (8 : UInt8), (8 : UInt8), (8 : UInt8), (8 : UInt8), (8 : UInt8), (8 : UInt8), (8 : UInt8), (8 : UInt8), (8 : UInt8), (8 : UInt8), (8 : UInt8), (8 : UInt8), (8 : UInt8), (8 : UInt8), (8 : UInt8), (8 : UInt8), (8 : UInt8), (8 : UInt8), (8 : UInt8), (8 : UInt8), (8 : UInt8), (8 : UInt8), (8 : UInt8), (8 : UInt8), (8 : UInt8), (8 : UInt8), (8 : UInt8), (8 : UInt8), (8 : UInt8), (8 : UInt8), (8 : UInt8), (8 : UInt8), (8 : UInt8), (8 : UInt8), (8 : UInt8), (8 : UInt8), (8 : UInt8), (8 : UInt8), (8 : UInt8), (8 : UInt8), (8 : UInt8), (8 : UInt8), (8 : UInt8), (8 : UInt8), (8 : UInt8), (8 : UInt8), (8 : UInt8), (8 : UInt8), (8 : UInt8), (8 : UInt8), (8 : UInt8), (8 : UInt8), (8 : UInt8), (8 : UInt8), (8 : UInt8), (8 : UInt8)])).toArray).size : Int)) then
     k0 (Go.IntKind.i64.wrap ((0 : Int) + Go.IntKind.i64.wrap (↑((ByteArray.mk (([(0 : UInt8), (1 : UInt8), (2 : UInt8), (2 : UInt8), (3 : UInt8), (3 : UInt8), (3 : UInt8), (3 : UInt8), (4 : UInt8), (4 : UInt8), (4 : UInt8), (4 : UInt8), (4 : UInt8), (4 : UInt8), (4 : UInt8), (4 : UInt8), (5 : UInt8), (5 : UInt8), (5 : UInt8), (5 : UInt8), (5 : UInt8), (5 : UInt8), (5 : UInt8), (5 : UInt8), (5 : UInt8), (5 : UInt8), (5 : UInt8), (5 : UInt8), (5 : UInt8), (5 : UInt8), (5 : UInt8), (5 : UInt8), (6 : UInt8), (6 : UInt8), (6 : UInt8), (6 : UInt8), (6 : UInt8), (6 : UInt8), (6 : UInt8), (6 : UInt8), (6 : UInt8), (6 : UInt8), (6 : UInt8), (6 : UInt8), (6 : UInt8), (6 : UInt8), (6 : UInt8), (6 : UInt8), (6 : UInt8), (6 : UInt8), (6 : UInt8), (6 : UInt8), (6 : UInt8), (6 : UInt8), (6 : UInt8), (6 : UInt8), (6 : UInt8), (6 : UInt8), (6 : UInt8), (6 : UInt8), (6 : UInt8), (6 : UInt8), (6 : UInt8), (6 : UInt8)].append [(7 : UInt8), (7 : UInt8), (7 : UInt8), (7 : UInt8), (7 : UInt8), (7 : UInt8), (7 : UInt8), (7 : UInt8), (7 : UInt8), (7 : UInt8), (7 : UInt8), (7 : UInt8), (7 : UInt8), (7 : UInt8), (7 : UInt8), (7 : UInt8), (7 : UInt8), (7 : UInt8), (7 : UInt8), (7 : UInt8), (7 : UInt8), (7 : UInt8), (7 : UInt8), (7 : UInt8), (7 : UInt8), (7 : UInt8), (7 : UInt8), (7 : UInt8), (7 : UInt8), (7 : UInt8), (7 : UInt8), (7 : UInt8), (7 : UInt8), (7 : UInt8), (7 : UInt8), (7 : UInt8), (7 : UInt8), (7 : UInt8), (7 : UInt8), (7 : UInt8), (7 : UInt8), (7 : UInt8), (7 : UInt8), (7 : UInt8), (7 : UInt8), (7 : UInt8), (7 : UInt8), (7 : UInt8), (7 : UInt8), (7 : UInt8), (7 : UInt8), (7 : UInt8), (7 : UInt8), (7 : UInt8), (7 : UInt8), (7 : UInt8), (7 : UInt8), (7 : UInt8), (7 : UInt8), (7 : UInt8), (7 : UInt8), (7 : UInt8), (7 : UInt8), (7 : UInt8)]).append ([(8 : UInt8), (8 : UInt8), (8 : UInt8), (8 : UInt8), (8 : UInt8), (8 : UInt8), (8 : UInt8), (8 : UInt8), (8 : UInt8), (8 : UInt8), (8 : UInt8), (8 : UInt8), (8 : UInt8), (8 : UInt8), (8 : UInt8), (8 : UInt8), (8 : UInt8), (8 : UInt8), (8 : UInt8), (8 : UInt8), (8 : UInt8), (8 : UInt8), (8 : UInt8), (8 : UInt8), (8 : UInt8), (8 : UInt8), (8 : UInt8), (8 : UInt8), (8 : UInt8), (8 : UInt8), (8 : UInt8), (8 : UInt8), (8 : UInt8), (8 : UInt8), (8 : UInt8), (8 : UInt8), (8 : UInt8), (8 : UInt8), (8 : UInt8), (8 : UInt8), (8 : UInt8), (8 : UInt8), (8 : UInt8), (8 : UInt8), (8 : UInt8), (8 : UInt8), (8 : UInt8), (8 : UInt8), (8 : UInt8), (8 : UInt8), (8 : UInt8), (8 : UInt8), (8 : UInt8), (8 : UInt8), (8 : UInt8), (8 : UInt8), (8 : UInt8), (8 : UInt8), (8 : UInt8), (8 : UInt8), (8 : UInt8), (8 : UInt8), (8 : UInt8), (8 : UInt8)].append [(8 : UInt8), (8 : UInt8), (8 : UInt8), (8 : UInt8), (8 : UInt8), (8 : UInt8), (8 : UInt8), (8 : UInt8), (8 : UInt8), (8 : UInt8), (8 : UInt8), (8 : UInt8), (8 : UInt8), (8 : UInt8), (8 : UInt8), (8 : UInt8), (8 : UInt8), (8 : UInt8), (8 : UInt8), (8 : UInt8), (8 : UInt8), (8 : UInt8), (8 : UInt8), (8 : UInt8), (8 : UInt8), (8 : UInt8), (8 : UInt8), (8 : UInt8), (8 : UInt8), (8 : UInt8), (8 : UInt8), (8 : UInt8), (8 : UInt8), (8 : UInt8), (8 : UInt8), (8 : UInt8), (8 : UInt8), (8 : UInt8), (8 : UInt8), (8 : UInt8), (8 : UInt8), (8 : UInt8), (8 : UInt8), (8 : UInt8), (8 : UInt8), (8 : UInt8), (8 : UInt8), (8 : UInt8), (8 : UInt8), (8 : UInt8), (8 : UInt8), (8 : UInt8), (8 : UInt8), (8 : UInt8), (8 : UInt8), (8 : UInt8), (8 : UInt8), (8 : UInt8), (8 : UInt8), (8 : UInt8), (8 : UInt8), (8 : UInt8), (8 : UInt8), (8 : UInt8)])).toArray).data.toList.getD (Go.IntKind.u8.wrap x0).toNat (0 : UInt8)).toNat : Int)))
     else none
abbrev YF148 : Type := (Int) → ((Int) → Option Ans) → Option Ans
theorem F148_eq (fuel : Nat) (x0 : Int) (k : Ev.Cont) : evalFn tab (G148 fuel) (J148 fuel) kp148 fuel Tryz.f148 [.c (.int .u64 x0)] [] k = F_math_bits_Len64 fuel x0 (fun r => match r with | r0 => k (.c (.int .i64 r0), [])) := by
  kernel_rfl
theorem hG148 (fuel : Nat) : GOK Tryz.prog (G148 fuel) :=
  gok_nil
theorem fok148 (fuel : Nat) : FnOK Tryz.prog 148 (evalFn tab (G148 fuel) (J148 fuel) kp148 fuel Tryz.f148) :=
  fn_ok tab_ok (hG148 fuel) mixed Tryz.func148 (c := (Tryz.f148.body).getD .skip) rfl (fun q hq => by
    rw [(by kernel_rfl : obl (J148 fuel) ((Tryz.f148.body).getD .skip) = [])] at hq
    cases hq)
noncomputable def mt148 : List Ev.SV → List Ev.Ob → Bool := fun args objs => match args, objs with
  | [.c (.int .u64 _)], [] => true
  | _, _ => false
noncomputable def spg148 (F : YF148) : Ev.Spec := fun args objs k => match args, objs with
  | [.c (.int .u64 x0)], [] => bif true then F x0 (fun r => match r with | r0 => k (.c (.int .i64 r0), [])) else none
  | _, _ => none
noncomputable def spec148 (fuel : Nat) : Ev.Spec := spg148 (F_math_bits_Len64 fuel)
theorem ok148 (fuel : Nat) : FnOK Tryz.prog 148 (spec148 fuel) := by
  intro args objs kk r h
  unfold spec148 spg148 at h
  split at h
  · skip
    obtain ⟨hb, h⟩ := cond_some' h
    simp only [Bool.and_eq_true, Nat.beq_eq, decide_eq_true_eq] at hb
    clear hb
    exact fok148 fuel _ _ kk r ((F148_eq fuel _ kk).trans h)
  · cases h
end Go.Proofs.YtmjeeaemmbkioaaGreat

set_option linter.unusedVariables false
set_option linter.unusedSimpArgs false
set_option maxRecDepth 100000
set_option maxHeartbeats 2000000
namespace Go.Proofs.YtmjeeaemmbkioaaGreat
open Go Ev
def kp107 (i : Nat) : Option (List Nat) := Ev.look i []
noncomputable def Gg107 (f148 : YF148) (f : Nat) : Option Ev.Spec := Ev.look f [(148, spg148 f148)]
noncomputable def G107 (fuel : Nat) : Nat → Option Ev.Spec := Gg107 (F_math_bits_Len64 fuel)
noncomputable def J107 (fuel : Nat) (i : Nat) : Option Ev.Blk := Ev.look i []
noncomputable def F_math_bits_Len (fuel : Nat) (x0 : Int) (k0 : (Int) → Option Ans) : Option Ans :=
  (F_math_bits_Len64 fuel (x0)
    (fun y2 =>
      k0 y2))
abbrev YF107 : Type := (Int) → ((Int) → Option Ans) → Option Ans
theorem F107_eqg (fuel : Nat) (f148 : YF148) (x0 : Int) (k : Ev.Cont) : evalFn tab (Gg107 f148) (J107 fuel) kp107 fuel Tryz.f107 [.c (.int .u64 x0)] [] k = (fun  (k0 : (Int) → Option Ans) =>
  (f148 (x0)
    (fun y2 =>
      k0 y2))) (fun r => match r with | r0 => k (.c (.int .i64 r0), [])) := by
  kernel_rfl
theorem F107_eq (fuel : Nat) (x0 : Int) (k : Ev.Cont) : evalFn tab (G107 fuel) (J107 fuel) kp107 fuel Tryz.f107 [.c (.int .u64 x0)] [] k = F_math_bits_Len fuel x0 (fun r => match r with | r0 => k (.c (.int .i64 r0), [])) :=
  F107_eqg fuel (F_math_bits_Len64 fuel) x0 k
theorem hG107 (fuel : Nat) : GOK Tryz.prog (G107 fuel) :=
  gok_cons ⟨ok148 fuel, enters_of Tryz.func148 (by kernel_rfl) rfl⟩ <|
  gok_nil
theorem fok107 (fuel : Nat) : FnOK Tryz.prog 107 (evalFn tab (G107 fuel) (J107 fuel) kp107 fuel Tryz.f107) :=
  fn_ok tab_ok (hG107 fuel) mixed Tryz.func107 (c := (Tryz.f107.body).getD .skip) rfl (fun q hq => by
    rw [(by kernel_rfl : obl (J107 fuel) ((Tryz.f107.body).getD .skip) = [])] at hq
    cases hq)
noncomputable def mt107 : List Ev.SV → List Ev.Ob → Bool := fun args objs => match args, objs with
  | [.c (.int .u64 _)], [] => true
  | _, _ => false
noncomputable def spg107 (F : YF107) : Ev.Spec := fun args objs k => match args, objs with
  | [.c (.int .u64 x0)], [] => bif true then F x0 (fun r => match r with | r0 => k (.c (.int .i64 r0), [])) else none
  | _, _ => none
noncomputable def spec107 (fuel : Nat) : Ev.Spec := spg107 (F_math_bits_Len fuel)
theorem ok107 (fuel : Nat) : FnOK Tryz.prog 107 (spec107 fuel) := by
  intro args objs kk r h
  unfold spec107 spg107 at h
  split at h
  · skip
    obtain ⟨hb, h⟩ := cond_some' h
    simp only [Bool.and_eq_true, Nat.beq_eq, decide_eq_true_eq] at hb
    clear hb
    exact fok107 fuel _ _ kk r ((F107_eq fuel _ kk).trans h)
  · cases h
end Go.Proofs.YtmjeeaemmbkioaaGreat

set_option linter.unusedVariables false
set_option linter.unusedSimpArgs false
set_option maxRecDepth 100000
set_option maxHeartbeats 2000000
namespace Go.Proofs.YtmjeeaemmbkioaaGreat
open Go Ev
def kp59 (i : Nat) : Option (List Nat) := Ev.look i []
noncomputable def Gg59 (f107 : YF107) (f : Nat) : Option Ev.Spec := Ev.look f [(107, spg107 f107)]
noncomputable def G59 (fuel : Nat) : Nat → Option Ev.Spec := Gg59 (F_math_bits_Len fuel)
noncomputable def J59 (fuel : Nat) (i : Nat) : Option Ev.Blk := Ev.look i []
noncomputable def F_number_Width (fuel : Nat) (x0 : Int) (k0 : (Int) → Option Ans) : Option Ans :=
  bif Decidable.decide (x0 < (1 : Int)) then
   k0 ((0 : Int))
  else
   (F_math_bits_Len fuel (Go.IntKind.u64.wrap (Go.IntKind.i64.wrap (x0 - (1 : Int))))
     (fun y3 =>
       k0 y3))
abbrev YF59 : Type := (Int) → ((Int) → Option Ans) → Option Ans
theorem F59_eqg (fuel : Nat) (f107 : YF107) (x0 : Int) (k : Ev.Cont) : evalFn tab (Gg59 f107) (J59 fuel) kp59 fuel Tryz.f59 [.c (.int .i64 x0)] [] k = (fun  (k0 : (Int) → Option Ans) =>
  bif Decidable.decide (x0 < (1 : Int)) then
   k0 ((0 : Int))
  else
   (f107 (Go.IntKind.u64.wrap (Go.IntKind.i64.wrap (x0 - (1 : Int))))
     (fun y3 =>
       k0 y3))) (fun r => match r with | r0 => k (.c (.int .i64 r0), [])) := by
  kernel_rfl
theorem F59_eq (fuel : Nat) (x0 : Int) (k : Ev.Cont) : evalFn tab (G59 fuel) (J59 fuel) kp59 fuel Tryz.f59 [.c (.int .i64 x0)] [] k = F_number_Width fuel x0 (fun r => match r with | r0 => k (.c (.int .i64 r0), [])) :=
  F59_eqg fuel (F_math_bits_Len fuel) x0 k
theorem hG59 (fuel : Nat) : GOK Tryz.prog (G59 fuel) :=
  gok_cons ⟨ok107 fuel, enters_of Tryz.func107 (by kernel_rfl) rfl⟩ <|
  gok_nil
theorem fok59 (fuel : Nat) : FnOK Tryz.prog 59 (evalFn tab (G59 fuel) (J59 fuel) kp59 fuel Tryz.f59) :=
  fn_ok tab_ok (hG59 fuel) mixed Tryz.func59 (c := (Tryz.f59.body).getD .skip) rfl (fun q hq => by
    rw [(by kernel_rfl : obl (J59 fuel) ((Tryz.f59.body).getD .skip) = [])] at hq
    cases hq)
noncomputable def mt59 : List Ev.SV → List Ev.Ob → Bool := fun args objs => match args, objs with
  | [.c (.int .i64 _)], [] => true
  | _, _ => false
noncomputable def spg59 (F : YF59) : Ev.Spec := fun args objs k => match args, objs with
  | [.c (.int .i64 x0)], [] => bif true then F x0 (fun r => match r with | r0 => k (.c (.int .i64 r0), [])) else none
  | _, _ => none
noncomputable def spec59 (fuel : Nat) : Ev.Spec := spg59 (F_number_Width fuel)
theorem ok59 (fuel : Nat) : FnOK Tryz.prog 59 (spec59 fuel) := by
  intro args objs kk r h
  unfold spec59 spg59 at h
  split at h
  · skip
    obtain ⟨hb, h⟩ := cond_some' h
    simp only [Bool.and_eq_true, Nat.beq_eq, decide_eq_true_eq] at hb
    clear hb
    exact fok59 fuel _ _ kk r ((F59_eq fuel _ kk).trans h)
  · cases h
end Go.Proofs.YtmjeeaemmbkioaaGreat

set_option linter.unusedVariables false
set_option linter.unusedSimpArgs false
set_option maxRecDepth 100000
set_option maxHeartbeats 2000000
namespace Go.Proofs.YtmjeeaemmbkioaaGreat
open Go Ev
def kp117_975 (i : Nat) : Option (List Nat) := Ev.look i []
noncomputable def Gg117_975 (f : Nat) : Option Ev.Spec := Ev.look f []
noncomputable def G117_975 (fuel : Nat) : Nat → Option Ev.Spec := Gg117_975
noncomputable def J117_975 (fuel : Nat) (i : Nat) : Option Ev.Blk := Ev.look i []
noncomputable def F_coder_Encoder_none_975 (fuel : Nat)  (k0 : (Bool) → Option Ans) : Option Ans :=
  k0 Bool.true
abbrev YF117_975 : Type := ((Bool) → Option Ans) → Option Ans
theorem F117_975_eq (fuel : Nat)  (k : Ev.Cont) : evalFn tab (G117_975 fuel) (J117_975 fuel) kp117_975 fuel Tryz.f117 [.c (.nilptr)] [] k = F_coder_Encoder_none_975 fuel  (fun r => match r with | r0 => k (.c (.bool r0), [])) := by
  kernel_rfl
theorem hG117_975 (fuel : Nat) : GOK Tryz.prog (G117_975 fuel) :=
  gok_nil
theorem fok117_975 (fuel : Nat) : FnOK Tryz.prog 117 (evalFn tab (G117_975 fuel) (J117_975 fuel) kp117_975 fuel Tryz.f117) :=
  fn_ok tab_ok (hG117_975 fuel) mixed Tryz.func117 (c := (Tryz.f117.body).getD .skip) rfl (fun q hq => by
    rw [(by kernel_rfl : obl (J117_975 fuel) ((Tryz.f117.body).getD .skip) = [])] at hq
    cases hq)
noncomputable def mt117_975 : List Ev.SV → List Ev.Ob → Bool := fun args objs => match args, objs with
  | [.c (.nilptr)], [] => true
  | _, _ => false
noncomputable def spg117_975 (F : YF117_975) : Ev.Spec := fun args objs k => match args, objs with
  | [.c (.nilptr)], [] => bif true then F  (fun r => match r with | r0 => k (.c (.bool r0), [])) else none
  | _, _ => none
noncomputable def spec117_975 (fuel : Nat) : Ev.Spec := spg117_975 (F_coder_Encoder_none_975 fuel)
theorem ok117_975 (fuel : Nat) : FnOK Tryz.prog 117 (spec117_975 fuel) := by
  intro args objs kk r h
  unfold spec117_975 spg117_975 at h
  split at h
  · skip
    obtain ⟨hb, h⟩ := cond_some' h
    simp only [Bool.and_eq_true, Nat.beq_eq, decide_eq_true_eq] at hb
    clear hb
    exact fok117_975 fuel _ _ kk r ((F117_975_eq fuel kk).trans h)
  · cases h
end Go.Proofs.YtmjeeaemmbkioaaGreat

set_option linter.unusedVariables false
set_option linter.unusedSimpArgs false
set_option maxRecDepth 100000
set_option maxHeartbeats 2000000
namespace Go.Proofs.YtmjeeaemmbkioaaGreat
open Go Ev
def kp69_975 (i : Nat) : Option (List Nat) := Ev.look i [(5, [0, 3, 15]), (10, [0, 3, 37, 38]), (100000, [3]), (100002, [3]), (200008, [0]), (400000, [2]), (400002, [2])]
noncomputable def Gg69_975 (f117_975 : YF117_975) (f : Nat) : Option Ev.Spec := Ev.look f [(117, spg117_975 f117_975)]
noncomputable def G69_975 (fuel : Nat) : Nat → Option Ev.Spec := Gg69_975 (F_coder_Encoder_none_975 fuel)
noncomputable def J69_975 (fuel : Nat) (i : Nat) : Option Ev.Blk := Ev.look i []
noncomputable def F_coder_Encoder_End_975 (fuel : Nat)  (k0 : ((List Int)) → Option Ans) : Option Ans :=
  (F_coder_Encoder_none_975 fuel
    (fun y2 =>
      bif y2 then
      k0 []
      else none))
abbrev YF69_975 : Type := (((List Int)) → Option Ans) → Option Ans
theorem F69_975_eqg (fuel : Nat) (f117_975 : YF117_975)  (k : Ev.Cont) : evalFn tab (Gg69_975 f117_975) (J69_975 fuel) kp69_975 fuel Tryz.f69 [.c (.nilptr)] [] k = (fun  (k0 : ((List Int)) → Option Ans) =>
  (f117_975
    (fun y2 =>
      bif y2 then
      k0 []
      else none))) (fun r => match r with | r0 => k (.c (.own 0), [.vec 5 (.int .u8) r0 true])) := by
  kernel_rfl
theorem F69_975_eq (fuel : Nat)  (k : Ev.Cont) : evalFn tab (G69_975 fuel) (J69_975 fuel) kp69_975 fuel Tryz.f69 [.c (.nilptr)] [] k = F_coder_Encoder_End_975 fuel  (fun r => match r with | r0 => k (.c (.own 0), [.vec 5 (.int .u8) r0 true])) :=
  F69_975_eqg fuel (F_coder_Encoder_none_975 fuel)  k
theorem hG69_975 (fuel : Nat) : GOK Tryz.prog (G69_975 fuel) :=
  gok_cons ⟨ok117_975 fuel, enters_of Tryz.func117 (by kernel_rfl) rfl⟩ <|
  gok_nil
theorem fok69_975 (fuel : Nat) : FnOK Tryz.prog 69 (evalFn tab (G69_975 fuel) (J69_975 fuel) kp69_975 fuel Tryz.f69) :=
  fn_ok tab_ok (hG69_975 fuel) mixed Tryz.func69 (c := (Tryz.f69.body).getD .skip) rfl (fun q hq => by
    rw [(by kernel_rfl : obl (J69_975 fuel) ((Tryz.f69.body).getD .skip) = [])] at hq
    cases hq)
noncomputable def mt69_975 : List Ev.SV → List Ev.Ob → Bool := fun args objs => match args, objs with
  | [.c (.nilptr)], [] => true
  | _, _ => false
noncomputable def spg69_975 (F : YF69_975) : Ev.Spec := fun args objs k => match args, objs with
  | [.c (.nilptr)], [] => bif true then F  (fun r => match r with | r0 => k (.c (.own 0), [.vec 5 (.int .u8) r0 true])) else none
  | _, _ => none
noncomputable def spec69_975 (fuel : Nat) : Ev.Spec := spg69_975 (F_coder_Encoder_End_975 fuel)
theorem ok69_975 (fuel : Nat) : FnOK Tryz.prog 69 (spec69_975 fuel) := by
  intro args objs kk r h
  unfold spec69_975 spg69_975 at h
  split at h
  · skip
    obtain ⟨hb, h⟩ := cond_some' h
    simp only [Bool.and_eq_true, Nat.beq_eq, decide_eq_true_eq] at hb
    clear hb
    exact fok69_975 fuel _ _ kk r ((F69_975_eq fuel kk).trans h)
  · cases h
end Go.Proofs.YtmjeeaemmbkioaaGreat

set_option linter.unusedVariables false
set_option linter.unusedSimpArgs false
set_option maxRecDepth 100000
set_option maxHeartbeats 2000000
namespace Go.Proofs.YtmjeeaemmbkioaaGreat
open Go Ev
def kp117_a20 (i : Nat) : Option (List Nat) := Ev.look i []
noncomputable def Gg117_a20 (f : Nat) : Option Ev.Spec := Ev.look f []
noncomputable def G117_a20 (fuel : Nat) : Nat → Option Ev.Spec := Gg117_a20
noncomputable def J117_a20 (fuel : Nat) (i : Nat) : Option Ev.Blk := Ev.look i []
noncomputable def F_coder_Encoder_none_a20 (fuel : Nat) (x0 : Int) (x1 : Int) (x2 : Int) (x3 : Bool) (x4 : (List Int)) (x5 : (List Int)) (k0 : (Bool × Int × Int × Int × Bool × (List Int) × (List Int)) → Option Ans) : Option Ans :=
  k0 (!x3, x0, x1, x2, x3, x4, x5)
abbrev YF117_a20 : Type := (Int) → (Int) → (Int) → (Bool) → ((List Int)) → ((List Int)) → ((Bool × Int × Int × Int × Bool × (List Int) × (List Int)) → Option Ans) → Option Ans
theorem F117_a20_eq (fuel : Nat) (x0 : Int) (x1 : Int) (x2 : Int) (x3 : Bool) (x4 : (List Int)) (x5 : (List Int)) (k : Ev.Cont) : evalFn tab (G117_a20 fuel) (J117_a20 fuel) kp117_a20 fuel Tryz.f117 [.c (.ptr 0 0)] [.cells 164 (.int .i64 x0 :: .own 1 :: .int .i64 2048 :: .int .i64 1792 :: .int .i64 1568 :: .int .i64 1372 :: .int .i64 1201 :: .int .i64 1051 :: .int .i64 920 :: .int .i64 805 :: .int .i64 705 :: .int .i64 617 :: .int .i64 540 :: .int .i64 473 :: .int .i64 414 :: .int .i64 363 :: .int .i64 318 :: .int .i64 279 :: .int .i64 245 :: .int .i64 215 :: .int .i64 189 :: .int .i64 166 :: .int .i64 146 :: .int .i64 128 :: .int .i64 112 :: .int .i64 98 :: .int .i64 86 :: .int .i64 76 :: .int .i64 67 :: .int .i64 59 :: .int .i64 52 :: .int .i64 46 :: .int .i64 41 :: .int .i64 36 :: .int .u64 x1 :: .int .u64 x2 :: .own 2 :: .bool x3 :: []), .vec 3 (.int .i64) x4 false, .vec 5 (.int .u8) x5 false] k = F_coder_Encoder_none_a20 fuel x0 x1 x2 x3 x4 x5 (fun r => match r with | (r0, r1, r2, r3, r4, r5, r6) => k (.c (.bool r0), [.cells 164 (.int .i64 r1 :: .own 1 :: .int .i64 2048 :: .int .i64 1792 :: .int .i64 1568 :: .int .i64 1372 :: .int .i64 1201 :: .int .i64 1051 :: .int .i64 920 :: .int .i64 805 :: .int .i64 705 :: .int .i64 617 :: .int .i64 540 :: .int .i64 473 :: .int .i64 414 :: .int .i64 363 :: .int .i64 318 :: .int .i64 279 :: .int .i64 245 :: .int .i64 215 :: .int .i64 189 :: .int .i64 166 :: .int .i64 146 :: .int .i64 128 :: .int .i64 112 :: .int .i64 98 :: .int .i64 86 :: .int .i64 76 :: .int .i64 67 :: .int .i64 59 :: .int .i64 52 :: .int .i64 46 :: .int .i64 41 :: .int .i64 36 :: .int .u64 r2 :: .int .u64 r3 :: .own 2 :: .bool r4 :: []), .vec 3 (.int .i64) r5 false, .vec 5 (.int .u8) r6 false])) := by
  kernel_rfl
theorem hG117_a20 (fuel : Nat) : GOK Tryz.prog (G117_a20 fuel) :=
  gok_nil
theorem fok117_a20 (fuel : Nat) : FnOK Tryz.prog 117 (evalFn tab (G117_a20 fuel) (J117_a20 fuel) kp117_a20 fuel Tryz.f117) :=
  fn_ok tab_ok (hG117_a20 fuel) mixed Tryz.func117 (c := (Tryz.f117.body).getD .skip) rfl (fun q hq => by
    rw [(by kernel_rfl : obl (J117_a20 fuel) ((Tryz.f117.body).getD .skip) = [])] at hq
    cases hq)
noncomputable def mt117_a20 : List Ev.SV → List Ev.Ob → Bool := fun args objs => match args, objs with
  | [.c (.ptr q0 q1)], [.cells q2 cs0, .vec q3 (.int .i64) _ false, .vec q4 (.int .u8) _ false] => (match splitRun 2 [(.i64, 2048), (.i64, 1792), (.i64, 1568), (.i64, 1372), (.i64, 1201), (.i64, 1051), (.i64, 920), (.i64, 805), (.i64, 705), (.i64, 617), (.i64, 540), (.i64, 473), (.i64, 414), (.i64, 363), (.i64, 318), (.i64, 279), (.i64, 245), (.i64, 215), (.i64, 189), (.i64, 166), (.i64, 146), (.i64, 128), (.i64, 112), (.i64, 98), (.i64, 86), (.i64, 76), (.i64, 67), (.i64, 59), (.i64, 52), (.i64, 46), (.i64, 41), (.i64, 36)] cs0 with | some ([.int .i64 _, .own q5], [.int .u64 _, .int .u64 _, .own q6, .bool _]) => Nat.beq q0 0 && Nat.beq q1 0 && Nat.beq q2 164 && Nat.beq q3 3 && Nat.beq q4 5 && Nat.beq q5 1 && Nat.beq q6 2 | _ => false)
  | _, _ => false
noncomputable def spg117_a20 (F : YF117_a20) : Ev.Spec := fun args objs k => match args, objs with
  | [.c (.ptr q0 q1)], [.cells q2 cs0, .vec q3 (.int .i64) x4 false, .vec q4 (.int .u8) x5 false] => (match splitRun 2 [(.i64, 2048), (.i64, 1792), (.i64, 1568), (.i64, 1372), (.i64, 1201), (.i64, 1051), (.i64, 920), (.i64, 805), (.i64, 705), (.i64, 617), (.i64, 540), (.i64, 473), (.i64, 414), (.i64, 363), (.i64, 318), (.i64, 279), (.i64, 245), (.i64, 215), (.i64, 189), (.i64, 166), (.i64, 146), (.i64, 128), (.i64, 112), (.i64, 98), (.i64, 86), (.i64, 76), (.i64, 67), (.i64, 59), (.i64, 52), (.i64, 46), (.i64, 41), (.i64, 36)] cs0 with | some ([.int .i64 x0, .own q5], [.int .u64 x1, .int .u64 x2, .own q6, .bool x3]) => bif Nat.beq q0 0 && Nat.beq q1 0 && Nat.beq q2 164 && Nat.beq q3 3 && Nat.beq q4 5 && Nat.beq q5 1 && Nat.beq q6 2 then F x0 x1 x2 x3 x4 x5 (fun r => match r with | (r0, r1, r2, r3, r4, r5, r6) => k (.c (.bool r0), [.cells 164 (.int .i64 r1 :: .own 1 :: .int .i64 2048 :: .int .i64 1792 :: .int .i64 1568 :: .int .i64 1372 :: .int .i64 1201 :: .int .i64 1051 :: .int .i64 920 :: .int .i64 805 :: .int .i64 705 :: .int .i64 617 :: .int .i64 540 :: .int .i64 473 :: .int .i64 414 :: .int .i64 363 :: .int .i64 318 :: .int .i64 279 :: .int .i64 245 :: .int .i64 215 :: .int .i64 189 :: .int .i64 166 :: .int .i64 146 :: .int .i64 128 :: .int .i64 112 :: .int .i64 98 :: .int .i64 86 :: .int .i64 76 :: .int .i64 67 :: .int .i64 59 :: .int .i64 52 :: .int .i64 46 :: .int .i64 41 :: .int .i64 36 :: .int .u64 r2 :: .int .u64 r3 :: .own 2 :: .bool r4 :: []), .vec 3 (.int .i64) r5 false, .vec 5 (.int .u8) r6 false])) else none | _ => none)
  | _, _ => none
noncomputable def spec117_a20 (fuel : Nat) : Ev.Spec := spg117_a20 (F_coder_Encoder_none_a20 fuel)
theorem ok117_a20 (fuel : Nat) : FnOK Tryz.prog 117 (spec117_a20 fuel) := by
  intro args objs kk r h
  unfold spec117_a20 spg117_a20 at h
  split at h
  · skip
    split at h
    rotate_left 1
    · cases h
    rename_i hsp
    have esp := splitRun_eq hsp
    subst esp
    obtain ⟨hb, h⟩ := cond_some' h
    simp only [Bool.and_eq_true, Nat.beq_eq, decide_eq_true_eq] at hb
    obtain ⟨⟨⟨⟨⟨⟨rfl, rfl⟩, rfl⟩, rfl⟩, rfl⟩, rfl⟩, rfl⟩ := hb
    exact fok117_a20 fuel _ _ kk r ((F117_a20_eq fuel _ _ _ _ _ _ kk).trans h)
  · cases h
end Go.Proofs.YtmjeeaemmbkioaaGreat

set_option linter.unusedVariables false
set_option linter.unusedSimpArgs false
set_option maxRecDepth 100000
set_option maxHeartbeats 2000000
namespace Go.Proofs.YtmjeeaemmbkioaaGreat
open Go Ev
def kp69_a20 (i : Nat) : Option (List Nat) := Ev.look i [(5, [0, 3, 15]), (10, [0, 3, 37, 38]), (100000, [3]), (100002, [3]), (200008, [0]), (400000, [2]), (400002, [2])]
noncomputable def Gg69_a20 (f117_a20 : YF117_a20) (f : Nat) : Option Ev.Spec := Ev.look f [(117, spg117_a20 f117_a20)]
noncomputable def G69_a20 (fuel : Nat) : Nat → Option Ev.Spec := Gg69_a20 (F_coder_Encoder_none_a20 fuel)
noncomputable def S_coder_Encoder_End_a20_2 (fuel : Nat) (v : Int × Int × Int × Int × Int × Bool × (List Int) × (List Int) × (List Int)) (c : (Int × Int × Int × Int × Int × Bool × (List Int) × (List Int) × (List Int)) → Option Ans) (B : (Int × Int × Int × Bool × (List Int) × (List Int) × (List Int) → Option Ans)) : Option Ans := match v, B with
  | (x0, x1, x2, x3, x4, x5, x6, x7, x8), b =>
   bif Decidable.decide (x1 < x0) then
      bif Decidable.decide (Go.IntKind.i64.wrap ((24 : Int) - Go.IntKind.i64.wrap ((8 : Int) * x1)) < (0 : Int)) then
       none
      else
       bif Decidable.decide ((x8.length + [Go.IntKind.u8.wrap (Ev.ishr Go.IntKind.u64 x4 (Go.IntKind.i64.wrap ((24 : Int) - Go.IntKind.i64.wrap ((8 : Int) * x1))))].length) * (1 : Nat) ≤ (140737488355328 : Nat) ∧ x8.length + [Go.IntKind.u8.wrap (Ev.ishr Go.IntKind.u64 x4 (Go.IntKind.i64.wrap ((24 : Int) - Go.IntKind.i64.wrap ((8 : Int) * x1))))].length ≤ (140737488355328 : Nat)) then
       c (x0, Go.IntKind.i64.wrap (x1 + (1 : Int)), x2, x3, x4, x5, x6, x7, x8 ++ [Go.IntKind.u8.wrap (Ev.ishr Go.IntKind.u64 x4 (Go.IntKind.i64.wrap ((24 : Int) - Go.IntKind.i64.wrap ((8 : Int) * x1))))])
       else none
     else
      b (x2, x3, x4, x5, x6, x7, x8)
noncomputable def L_coder_Encoder_End_a20_2 (fuel : Nat) (v : Int × Int × Int × Int × Int × Bool × (List Int) × (List Int) × (List Int)) (b : (Int × Int × Int × Bool × (List Int) × (List Int) × (List Int) → Option Ans)) : Option Ans := iter (S_coder_Encoder_End_a20_2 fuel) fuel v b
noncomputable def J69_a20_2 (fuel : Nat) (i : Nat) : Option Ev.Blk := Ev.look i []
noncomputable def T69_a20_2 (v : Int × Int × Int × Int × Int × Bool × (List Int) × (List Int) × (List Int)) : Ev.St := match v with | (x0, x1, x2, x3, x4, x5, x6, x7, x8) => ⟨[(0, .c (.ptr 0 0)), (3, .c (.own 3)), (37, .c (.int .i64 x0)), (38, .c (.int .i64 x1))], [(0, .cells 164 (.int .i64 x2 :: .own 1 :: .int .i64 2048 :: .int .i64 1792 :: .int .i64 1568 :: .int .i64 1372 :: .int .i64 1201 :: .int .i64 1051 :: .int .i64 920 :: .int .i64 805 :: .int .i64 705 :: .int .i64 617 :: .int .i64 540 :: .int .i64 473 :: .int .i64 414 :: .int .i64 363 :: .int .i64 318 :: .int .i64 279 :: .int .i64 245 :: .int .i64 215 :: .int .i64 189 :: .int .i64 166 :: .int .i64 146 :: .int .i64 128 :: .int .i64 112 :: .int .i64 98 :: .int .i64 86 :: .int .i64 76 :: .int .i64 67 :: .int .i64 59 :: .int .i64 52 :: .int .i64 46 :: .int .i64 41 :: .int .i64 36 :: .int .u64 x3 :: .int .u64 x4 :: .own 2 :: .bool x5 :: [])), (1, .vec 3 (.int .i64) x6 false), (2, .vec 5 (.int .u8) x7 false), (3, .vec 5 (.int .u8) x8 true)], 4, 3⟩
noncomputable def E69_a20_2 (K : Ev.Ex → Ev.St → Option Ans) : (Int × Int × Int × Bool × (List Int) × (List Int) × (List Int) → Option Ans) := (fun v => match v with | (x0, x1, x2, x3, x4, x5, x6) => K .normal ⟨[(3, .c (.own 3))], [(0, .cells 164 (.int .i64 x0 :: .own 1 :: .int .i64 2048 :: .int .i64 1792 :: .int .i64 1568 :: .int .i64 1372 :: .int .i64 1201 :: .int .i64 1051 :: .int .i64 920 :: .int .i64 805 :: .int .i64 705 :: .int .i64 617 :: .int .i64 540 :: .int .i64 473 :: .int .i64 414 :: .int .i64 363 :: .int .i64 318 :: .int .i64 279 :: .int .i64 245 :: .int .i64 215 :: .int .i64 189 :: .int .i64 166 :: .int .i64 146 :: .int .i64 128 :: .int .i64 112 :: .int .i64 98 :: .int .i64 86 :: .int .i64 76 :: .int .i64 67 :: .int .i64 59 :: .int .i64 52 :: .int .i64 46 :: .int .i64 41 :: .int .i64 36 :: .int .u64 x1 :: .int .u64 x2 :: .own 2 :: .bool x3 :: [])), (1, .vec 3 (.int .i64) x4 false), (2, .vec 5 (.int .u8) x5 false), (3, .vec 5 (.int .u8) x6 true)], 4, 3⟩)
theorem S69_a20_2_okg (fuel : Nat) (f117_a20 : YF117_a20) (R : Ev.St → Option Ans) (K : Ev.Ex → Ev.St → Option Ans) (x0 : Int) (x1 : Int) (x2 : Int) (x3 : Int) (x4 : Int) (x5 : Bool) (x6 : (List Int)) (x7 : (List Int)) (x8 : (List Int)) : evalCode tab (Gg69_a20 f117_a20) (J69_a20_2 fuel) kp69_a20 fuel (bodyOf 2 Tryz.f69) (T69_a20_2 (x0, x1, x2, x3, x4, x5, x6, x7, x8)) (lc kp69_a20 10 2 R K) = (fun (c : (Int × Int × Int × Int × Int × Bool × (List Int) × (List Int) × (List Int)) → Option Ans) (B : (Int × Int × Int × Bool × (List Int) × (List Int) × (List Int) → Option Ans)) => match B with
  | b =>
   bif Decidable.decide (x1 < x0) then
      bif Decidable.decide (Go.IntKind.i64.wrap ((24 : Int) - Go.IntKind.i64.wrap ((8 : Int) * x1)) < (0 : Int)) then
       none
      else
       bif Decidable.decide ((x8.length + [Go.IntKind.u8.wrap (Ev.ishr Go.IntKind.u64 x4 (Go.IntKind.i64.wrap ((24 : Int) - Go.IntKind.i64.wrap ((8 : Int) * x1))))].length) * (1 : Nat) ≤ (140737488355328 : Nat) ∧ x8.length + [Go.IntKind.u8.wrap (Ev.ishr Go.IntKind.u64 x4 (Go.IntKind.i64.wrap ((24 : Int) - Go.IntKind.i64.wrap ((8 : Int) * x1))))].length ≤ (140737488355328 : Nat)) then
       c (x0, Go.IntKind.i64.wrap (x1 + (1 : Int)), x2, x3, x4, x5, x6, x7, x8 ++ [Go.IntKind.u8.wrap (Ev.ishr Go.IntKind.u64 x4 (Go.IntKind.i64.wrap ((24 : Int) - Go.IntKind.i64.wrap ((8 : Int) * x1))))])
       else none
     else
      b (x2, x3, x4, x5, x6, x7, x8)) (fun v => R (T69_a20_2 v)) (E69_a20_2 K) := by
  kernel_rfl
theorem S69_a20_2_ok (fuel : Nat) (R : Ev.St → Option Ans) (K : Ev.Ex → Ev.St → Option Ans) (x0 : Int) (x1 : Int) (x2 : Int) (x3 : Int) (x4 : Int) (x5 : Bool) (x6 : (List Int)) (x7 : (List Int)) (x8 : (List Int)) : evalCode tab (G69_a20 fuel) (J69_a20_2 fuel) kp69_a20 fuel (bodyOf 2 Tryz.f69) (T69_a20_2 (x0, x1, x2, x3, x4, x5, x6, x7, x8)) (lc kp69_a20 10 2 R K) = S_coder_Encoder_End_a20_2 fuel (x0, x1, x2, x3, x4, x5, x6, x7, x8) (fun v => R (T69_a20_2 v)) (E69_a20_2 K) :=
  S69_a20_2_okg fuel (F_coder_Encoder_none_a20 fuel) R K x0 x1 x2 x3 x4 x5 x6 x7 x8
noncomputable def B69_a20_2 (fuel : Nat) : Ev.Blk := fun st K => match canonO (kp69_a20 10) st with
  | some s => (match s with
    | ⟨[(q0, .c (.ptr q1 q2)), (q3, .c (.own q4)), (q5, .c (.int .i64 x0)), (q6, .c (.int .i64 x1))], [(q7, .cells q8 cs0), (q9, .vec q10 (.int .i64) x6 false), (q11, .vec q12 (.int .u8) x7 false), (q13, .vec q14 (.int .u8) x8 true)], q15, q16⟩ => (match splitRun 2 [(.i64, 2048), (.i64, 1792), (.i64, 1568), (.i64, 1372), (.i64, 1201), (.i64, 1051), (.i64, 920), (.i64, 805), (.i64, 705), (.i64, 617), (.i64, 540), (.i64, 473), (.i64, 414), (.i64, 363), (.i64, 318), (.i64, 279), (.i64, 245), (.i64, 215), (.i64, 189), (.i64, 166), (.i64, 146), (.i64, 128), (.i64, 112), (.i64, 98), (.i64, 86), (.i64, 76), (.i64, 67), (.i64, 59), (.i64, 52), (.i64, 46), (.i64, 41), (.i64, 36)] cs0 with | some ([.int .i64 x2, .own q17], [.int .u64 x3, .int .u64 x4, .own q18, .bool x5]) => bif Nat.beq q0 0 && Nat.beq q1 0 && Nat.beq q2 0 && Nat.beq q3 3 && Nat.beq q4 3 && Nat.beq q5 37 && Nat.beq q6 38 && Nat.beq q7 0 && Nat.beq q8 164 && Nat.beq q9 1 && Nat.beq q10 3 && Nat.beq q11 2 && Nat.beq q12 5 && Nat.beq q13 3 && Nat.beq q14 5 && Nat.beq q15 4 && Nat.beq q16 3 && Nat.beq q17 1 && Nat.beq q18 2 then iter (S_coder_Encoder_End_a20_2 fuel) fuel (x0, x1, x2, x3, x4, x5, x6, x7, x8) (E69_a20_2 K) else none | _ => none)
    | _ => none)
  | none => none
theorem B69_a20_2_ok (fuel : Nat) (st : Ev.St) (K : Ev.Ex → Ev.St → Option Ans) (r : Ans) (h : B69_a20_2 fuel st K = some r) : evalCode tab (G69_a20 fuel) (J69_a20_2 fuel) kp69_a20 fuel (.block 2 (.loop (bodyOf 2 Tryz.f69))) st K = some r := by
  unfold B69_a20_2 at h
  split at h
  · rename_i s hs
    split at h
    · skip
      split at h
      rotate_left 1
      · cases h
      rename_i hsp
      have esp := splitRun_eq hsp
      subst esp
      obtain ⟨hb, h⟩ := cond_some' h
      simp only [Bool.and_eq_true, Nat.beq_eq, decide_eq_true_eq] at hb
      obtain ⟨⟨⟨⟨⟨⟨⟨⟨⟨⟨⟨⟨⟨⟨⟨⟨⟨⟨rfl, rfl⟩, rfl⟩, rfl⟩, rfl⟩, rfl⟩, rfl⟩, rfl⟩, rfl⟩, rfl⟩, rfl⟩, rfl⟩, rfl⟩, rfl⟩, rfl⟩, rfl⟩, rfl⟩, rfl⟩, rfl⟩ := hb
      exact blk_loop (S := T69_a20_2) (ks := E69_a20_2) (step := S_coder_Encoder_End_a20_2 fuel) (v := (_, _, _, _, _, _, _, _, _)) (by kernel_rfl) (by kernel_rfl) (fun R K v => by obtain ⟨x0, x1, x2, x3, x4, x5, x6, x7, x8⟩ := v; exact S69_a20_2_ok fuel R K x0 x1 x2 x3 x4 x5 x6 x7 x8) hs h
    · cases h
  · cases h
noncomputable def S_coder_Encoder_End_a20_0 (fuel : Nat) (v : Int × Int × Int × Int × Bool × (List Int) × (List Int) × (List Int)) (c : (Int × Int × Int × Int × Bool × (List Int) × (List Int) × (List Int)) → Option Ans) (B : (Int × Int × Int × Bool × (List Int) × (List Int) × (List Int) → Option Ans) × (Int × Int × Int × Bool × (List Int) × (List Int) × (List Int) → Option Ans)) : Option Ans := match v, B with
  | (x0, x1, x2, x3, x4, x5, x6, x7), (ret, b) =>
   bif Decidable.decide (x0 < (5 : Int)) then
      bif Decidable.decide (Go.IntKind.u64.wrap (Go.IntKind.i64.wrap ((32 : Int) - Go.IntKind.i64.wrap ((8 : Int) * x0))) < (0 : Int)) then
       none
      else
       bif Decidable.decide (Go.IntKind.u64.wrap (Go.IntKind.i64.wrap ((32 : Int) - Go.IntKind.i64.wrap ((8 : Int) * x0))) < (0 : Int)) then
        none
       else
        bif Decidable.decide (Ev.ishl Go.IntKind.u64 (Ev.ishr Go.IntKind.u64 x3 (Go.IntKind.u64.wrap (Go.IntKind.i64.wrap ((32 : Int) - Go.IntKind.i64.wrap ((8 : Int) * x0))))) (Go.IntKind.u64.wrap (Go.IntKind.i64.wrap ((32 : Int) - Go.IntKind.i64.wrap ((8 : Int) * x0)))) ≥ x2) then
         (L_coder_Encoder_End_a20_2 fuel (x0, (0 : Int), x1, x2, x3, x4, x5, x6, x7)
           (fun (b2_0, b2_1, b2_2, b2_3, b2_4, b2_5, b2_6) =>
             ret (b2_0, b2_1, b2_2, b2_3, b2_4, b2_5, b2_6)))
        else
         c (Go.IntKind.i64.wrap (x0 + (1 : Int)), x1, x2, x3, x4, x5, x6, x7)
     else
      b (x1, x2, x3, x4, x5, x6, x7)
noncomputable def L_coder_Encoder_End_a20_0 (fuel : Nat) (v : Int × Int × Int × Int × Bool × (List Int) × (List Int) × (List Int)) (ret : (Int × Int × Int × Bool × (List Int) × (List Int) × (List Int) → Option Ans)) (b : (Int × Int × Int × Bool × (List Int) × (List Int) × (List Int) → Option Ans)) : Option Ans := iter (S_coder_Encoder_End_a20_0 fuel) fuel v (ret, b)
noncomputable def J69_a20_0 (fuel : Nat) (i : Nat) : Option Ev.Blk := Ev.look i [(100002, B69_a20_2 fuel)]
noncomputable def T69_a20_0 (v : Int × Int × Int × Int × Bool × (List Int) × (List Int) × (List Int)) : Ev.St := match v with | (x0, x1, x2, x3, x4, x5, x6, x7) => ⟨[(0, .c (.ptr 0 0)), (3, .c (.own 3)), (15, .c (.int .i64 x0))], [(0, .cells 164 (.int .i64 x1 :: .own 1 :: .int .i64 2048 :: .int .i64 1792 :: .int .i64 1568 :: .int .i64 1372 :: .int .i64 1201 :: .int .i64 1051 :: .int .i64 920 :: .int .i64 805 :: .int .i64 705 :: .int .i64 617 :: .int .i64 540 :: .int .i64 473 :: .int .i64 414 :: .int .i64 363 :: .int .i64 318 :: .int .i64 279 :: .int .i64 245 :: .int .i64 215 :: .int .i64 189 :: .int .i64 166 :: .int .i64 146 :: .int .i64 128 :: .int .i64 112 :: .int .i64 98 :: .int .i64 86 :: .int .i64 76 :: .int .i64 67 :: .int .i64 59 :: .int .i64 52 :: .int .i64 46 :: .int .i64 41 :: .int .i64 36 :: .int .u64 x2 :: .int .u64 x3 :: .own 2 :: .bool x4 :: [])), (1, .vec 3 (.int .i64) x5 false), (2, .vec 5 (.int .u8) x6 false), (3, .vec 5 (.int .u8) x7 true)], 4, 3⟩
noncomputable def E69_a20_0 (K : Ev.Ex → Ev.St → Option Ans) : (Int × Int × Int × Bool × (List Int) × (List Int) × (List Int) → Option Ans) × (Int × Int × Int × Bool × (List Int) × (List Int) × (List Int) → Option Ans) := ((fun v => match v with | (x0, x1, x2, x3, x4, x5, x6) => K .ret ⟨[(2, .c (.own 3))], [(0, .cells 164 (.int .i64 x0 :: .own 1 :: .int .i64 2048 :: .int .i64 1792 :: .int .i64 1568 :: .int .i64 1372 :: .int .i64 1201 :: .int .i64 1051 :: .int .i64 920 :: .int .i64 805 :: .int .i64 705 :: .int .i64 617 :: .int .i64 540 :: .int .i64 473 :: .int .i64 414 :: .int .i64 363 :: .int .i64 318 :: .int .i64 279 :: .int .i64 245 :: .int .i64 215 :: .int .i64 189 :: .int .i64 166 :: .int .i64 146 :: .int .i64 128 :: .int .i64 112 :: .int .i64 98 :: .int .i64 86 :: .int .i64 76 :: .int .i64 67 :: .int .i64 59 :: .int .i64 52 :: .int .i64 46 :: .int .i64 41 :: .int .i64 36 :: .int .u64 x1 :: .int .u64 x2 :: .own 2 :: .bool x3 :: [])), (1, .vec 3 (.int .i64) x4 false), (2, .vec 5 (.int .u8) x5 false), (3, .vec 5 (.int .u8) x6 true)], 4, 3⟩), (fun v => match v with | (x0, x1, x2, x3, x4, x5, x6) => K .normal ⟨[(3, .c (.own 3))], [(0, .cells 164 (.int .i64 x0 :: .own 1 :: .int .i64 2048 :: .int .i64 1792 :: .int .i64 1568 :: .int .i64 1372 :: .int .i64 1201 :: .int .i64 1051 :: .int .i64 920 :: .int .i64 805 :: .int .i64 705 :: .int .i64 617 :: .int .i64 540 :: .int .i64 473 :: .int .i64 414 :: .int .i64 363 :: .int .i64 318 :: .int .i64 279 :: .int .i64 245 :: .int .i64 215 :: .int .i64 189 :: .int .i64 166 :: .int .i64 146 :: .int .i64 128 :: .int .i64 112 :: .int .i64 98 :: .int .i64 86 :: .int .i64 76 :: .int .i64 67 :: .int .i64 59 :: .int .i64 52 :: .int .i64 46 :: .int .i64 41 :: .int .i64 36 :: .int .u64 x1 :: .int .u64 x2 :: .own 2 :: .bool x3 :: [])), (1, .vec 3 (.int .i64) x4 false), (2, .vec 5 (.int .u8) x5 false), (3, .vec 5 (.int .u8) x6 true)], 4, 3⟩))
theorem S69_a20_0_okg (fuel : Nat) (f117_a20 : YF117_a20) (R : Ev.St → Option Ans) (K : Ev.Ex → Ev.St → Option Ans) (x0 : Int) (x1 : Int) (x2 : Int) (x3 : Int) (x4 : Bool) (x5 : (List Int)) (x6 : (List Int)) (x7 : (List Int)) : evalCode tab (Gg69_a20 f117_a20) (J69_a20_0 fuel) kp69_a20 fuel (bodyOf 0 Tryz.f69) (T69_a20_0 (x0, x1, x2, x3, x4, x5, x6, x7)) (lc kp69_a20 5 0 R K) = (fun (c : (Int × Int × Int × Int × Bool × (List Int) × (List Int) × (List Int)) → Option Ans) (B : (Int × Int × Int × Bool × (List Int) × (List Int) × (List Int) → Option Ans) × (Int × Int × Int × Bool × (List Int) × (List Int) × (List Int) → Option Ans)) => match B with
  | (ret, b) =>
   bif Decidable.decide (x0 < (5 : Int)) then
      bif Decidable.decide (Go.IntKind.u64.wrap (Go.IntKind.i64.wrap ((32 : Int) - Go.IntKind.i64.wrap ((8 : Int) * x0))) < (0 : Int)) then
       none
      else
       bif Decidable.decide (Go.IntKind.u64.wrap (Go.IntKind.i64.wrap ((32 : Int) - Go.IntKind.i64.wrap ((8 : Int) * x0))) < (0 : Int)) then
        none
       else
        bif Decidable.decide (Ev.ishl Go.IntKind.u64 (Ev.ishr Go.IntKind.u64 x3 (Go.IntKind.u64.wrap (Go.IntKind.i64.wrap ((32 : Int) - Go.IntKind.i64.wrap ((8 : Int) * x0))))) (Go.IntKind.u64.wrap (Go.IntKind.i64.wrap ((32 : Int) - Go.IntKind.i64.wrap ((8 : Int) * x0)))) ≥ x2) then
         (L_coder_Encoder_End_a20_2 fuel (x0, (0 : Int), x1, x2, x3, x4, x5, x6, x7)
           (fun (b2_0, b2_1, b2_2, b2_3, b2_4, b2_5, b2_6) =>
             ret (b2_0, b2_1, b2_2, b2_3, b2_4, b2_5, b2_6)))
        else
         c (Go.IntKind.i64.wrap (x0 + (1 : Int)), x1, x2, x3, x4, x5, x6, x7)
     else
      b (x1, x2, x3, x4, x5, x6, x7)) (fun v => R (T69_a20_0 v)) (E69_a20_0 K) := by
  kernel_rfl
theorem S69_a20_0_ok (fuel : Nat) (R : Ev.St → Option Ans) (K : Ev.Ex → Ev.St → Option Ans) (x0 : Int) (x1 : Int) (x2 : Int) (x3 : Int) (x4 : Bool) (x5 : (List Int)) (x6 : (List Int)) (x7 : (List Int)) : evalCode tab (G69_a20 fuel) (J69_a20_0 fuel) kp69_a20 fuel (bodyOf 0 Tryz.f69) (T69_a20_0 (x0, x1, x2, x3, x4, x5, x6, x7)) (lc kp69_a20 5 0 R K) = S_coder_Encoder_End_a20_0 fuel (x0, x1, x2, x3, x4, x5, x6, x7) (fun v => R (T69_a20_0 v)) (E69_a20_0 K) :=
  S69_a20_0_okg fuel (F_coder_Encoder_none_a20 fuel) R K x0 x1 x2 x3 x4 x5 x6 x7
noncomputable def B69_a20_0 (fuel : Nat) : Ev.Blk := fun st K => match canonO (kp69_a20 5) st with
  | some s => (match s with
    | ⟨[(q0, .c (.ptr q1 q2)), (q3, .c (.own q4)), (q5, .c (.int .i64 x0))], [(q6, .cells q7 cs0), (q8, .vec q9 (.int .i64) x5 false), (q10, .vec q11 (.int .u8) x6 false), (q12, .vec q13 (.int .u8) x7 true)], q14, q15⟩ => (match splitRun 2 [(.i64, 2048), (.i64, 1792), (.i64, 1568), (.i64, 1372), (.i64, 1201), (.i64, 1051), (.i64, 920), (.i64, 805), (.i64, 705), (.i64, 617), (.i64, 540), (.i64, 473), (.i64, 414), (.i64, 363), (.i64, 318), (.i64, 279), (.i64, 245), (.i64, 215), (.i64, 189), (.i64, 166), (.i64, 146), (.i64, 128), (.i64, 112), (.i64, 98), (.i64, 86), (.i64, 76), (.i64, 67), (.i64, 59), (.i64, 52), (.i64, 46), (.i64, 41), (.i64, 36)] cs0 with | some ([.int .i64 x1, .own q16], [.int .u64 x2, .int .u64 x3, .own q17, .bool x4]) => bif Nat.beq q0 0 && Nat.beq q1 0 && Nat.beq q2 0 && Nat.beq q3 3 && Nat.beq q4 3 && Nat.beq q5 15 && Nat.beq q6 0 && Nat.beq q7 164 && Nat.beq q8 1 && Nat.beq q9 3 && Nat.beq q10 2 && Nat.beq q11 5 && Nat.beq q12 3 && Nat.beq q13 5 && Nat.beq q14 4 && Nat.beq q15 3 && Nat.beq q16 1 && Nat.beq q17 2 then iter (S_coder_Encoder_End_a20_0 fuel) fuel (x0, x1, x2, x3, x4, x5, x6, x7) (E69_a20_0 K) else none | _ => none)
    | _ => none)
  | none => none
theorem B69_a20_0_ok (fuel : Nat) (st : Ev.St) (K : Ev.Ex → Ev.St → Option Ans) (r : Ans) (h : B69_a20_0 fuel st K = some r) : evalCode tab (G69_a20 fuel) (J69_a20_0 fuel) kp69_a20 fuel (.block 0 (.loop (bodyOf 0 Tryz.f69))) st K = some r := by
  unfold B69_a20_0 at h
  split at h
  · rename_i s hs
    split at h
    · skip
      split at h
      rotate_left 1
      · cases h
      rename_i hsp
      have esp := splitRun_eq hsp
      subst esp
      obtain ⟨hb, h⟩ := cond_some' h
      simp only [Bool.and_eq_true, Nat.beq_eq, decide_eq_true_eq] at hb
      obtain ⟨⟨⟨⟨⟨⟨⟨⟨⟨⟨⟨⟨⟨⟨⟨⟨⟨rfl, rfl⟩, rfl⟩, rfl⟩, rfl⟩, rfl⟩, rfl⟩, rfl⟩, rfl⟩, rfl⟩, rfl⟩, rfl⟩, rfl⟩, rfl⟩, rfl⟩, rfl⟩, rfl⟩, rfl⟩ := hb
      exact blk_loop (S := T69_a20_0) (ks := E69_a20_0) (step := S_coder_Encoder_End_a20_0 fuel) (v := (_, _, _, _, _, _, _, _)) (by kernel_rfl) (by kernel_rfl) (fun R K v => by obtain ⟨x0, x1, x2, x3, x4, x5, x6, x7⟩ := v; exact S69_a20_0_ok fuel R K x0 x1 x2 x3 x4 x5 x6 x7) hs h
    · cases h
  · cases h
noncomputable def J69_a20 (fuel : Nat) (i : Nat) : Option Ev.Blk := Ev.look i [(100002, B69_a20_2 fuel), (100000, B69_a20_0 fuel)]
noncomputable def F_coder_Encoder_End_a20 (fuel : Nat) (x0 : Int) (x1 : Int) (x2 : Int) (x3 : Bool) (x4 : (List Int)) (x5 : (List Int)) (k0 : (Int × Int × Int × Bool × (List Int) × (List Int) × (List Int)) → Option Ans) : Option Ans :=
  (F_coder_Encoder_none_a20 fuel (x0) (x1) (x2) (x3) (x4) (x5)
    (fun (y2_0, y2_1, y2_2, y2_3, y2_4, y2_5, y2_6) =>
      bif y2_0 then
       k0 (y2_1, y2_2, y2_3, y2_4, y2_5, y2_6, [])
      else
       bif Decidable.decide (((0 : Nat) + y2_6.length) * (1 : Nat) ≤ (140737488355328 : Nat) ∧ (0 : Nat) + y2_6.length ≤ (140737488355328 : Nat)) then
       (L_coder_Encoder_End_a20_0 fuel ((0 : Int), y2_1, y2_2, y2_3, y2_4, y2_5, y2_6, [] ++ y2_6)
          (fun (ret0_0, ret0_1, ret0_2, ret0_3, ret0_4, ret0_5, ret0_6) =>
            k0 (ret0_0, ret0_1, ret0_2, ret0_3, ret0_4, ret0_5, ret0_6))
          (fun (b0_0, b0_1, b0_2, b0_3, b0_4, b0_5, b0_6) =>
            k0 (b0_0, b0_1, b0_2, b0_3, b0_4, b0_5, b0_6)))
       else none))
abbrev YF69_a20 : Type := (Int) → (Int) → (Int) → (Bool) → ((List Int)) → ((List Int)) → ((Int × Int × Int × Bool × (List Int) × (List Int) × (List Int)) → Option Ans) → Option Ans
theorem F69_a20_eqg (fuel : Nat) (f117_a20 : YF117_a20) (x0 : Int) (x1 : Int) (x2 : Int) (x3 : Bool) (x4 : (List Int)) (x5 : (List Int)) (k : Ev.Cont) : evalFn tab (Gg69_a20 f117_a20) (J69_a20 fuel) kp69_a20 fuel Tryz.f69 [.c (.ptr 0 0)] [.cells 164 (.int .i64 x0 :: .own 1 :: .int .i64 2048 :: .int .i64 1792 :: .int .i64 1568 :: .int .i64 1372 :: .int .i64 1201 :: .int .i64 1051 :: .int .i64 920 :: .int .i64 805 :: .int .i64 705 :: .int .i64 617 :: .int .i64 540 :: .int .i64 473 :: .int .i64 414 :: .int .i64 363 :: .int .i64 318 :: .int .i64 279 :: .int .i64 245 :: .int .i64 215 :: .int .i64 189 :: .int .i64 166 :: .int .i64 146 :: .int .i64 128 :: .int .i64 112 :: .int .i64 98 :: .int .i64 86 :: .int .i64 76 :: .int .i64 67 :: .int .i64 59 :: .int .i64 52 :: .int .i64 46 :: .int .i64 41 :: .int .i64 36 :: .int .u64 x1 :: .int .u64 x2 :: .own 2 :: .bool x3 :: []), .vec 3 (.int .i64) x4 false, .vec 5 (.int .u8) x5 false] k = (fun  (k0 : (Int × Int × Int × Bool × (List Int) × (List Int) × (List Int)) → Option Ans) =>
  (f117_a20 (x0) (x1) (x2) (x3) (x4) (x5)
    (fun (y2_0, y2_1, y2_2, y2_3, y2_4, y2_5, y2_6) =>
      bif y2_0 then
       k0 (y2_1, y2_2, y2_3, y2_4, y2_5, y2_6, [])
      else
       bif Decidable.decide (((0 : Nat) + y2_6.length) * (1 : Nat) ≤ (140737488355328 : Nat) ∧ (0 : Nat) + y2_6.length ≤ (140737488355328 : Nat)) then
       (L_coder_Encoder_End_a20_0 fuel ((0 : Int), y2_1, y2_2, y2_3, y2_4, y2_5, y2_6, [] ++ y2_6)
          (fun (ret0_0, ret0_1, ret0_2, ret0_3, ret0_4, ret0_5, ret0_6) =>
            k0 (ret0_0, ret0_1, ret0_2, ret0_3, ret0_4, ret0_5, ret0_6))
          (fun (b0_0, b0_1, b0_2, b0_3, b0_4, b0_5, b0_6) =>
            k0 (b0_0, b0_1, b0_2, b0_3, b0_4, b0_5, b0_6)))
       else none))) (fun r => match r with | (r0, r1, r2, r3, r4, r5, r6) => k (.c (.own 3), [.cells 164 (.int .i64 r0 :: .own 1 :: .int .i64 2048 :: .int .i64 1792 :: .int .i64 1568 :: .int .i64 1372 :: .int .i64 1201 :: .int .i64 1051 :: .int .i64 920 :: .int .i64 805 :: .int .i64 705 :: .int .i64 617 :: .int .i64 540 :: .int .i64 473 :: .int .i64 414 :: .int .i64 363 :: .int .i64 318 :: .int .i64 279 :: .int .i64 245 :: .int .i64 215 :: .int .i64 189 :: .int .i64 166 :: .int .i64 146 :: .int .i64 128 :: .int .i64 112 :: .int .i64 98 :: .int .i64 86 :: .int .i64 76 :: .int .i64 67 :: .int .i64 59 :: .int .i64 52 :: .int .i64 46 :: .int .i64 41 :: .int .i64 36 :: .int .u64 r1 :: .int .u64 r2 :: .own 2 :: .bool r3 :: []), .vec 3 (.int .i64) r4 false, .vec 5 (.int .u8) r5 false, .vec 5 (.int .u8) r6 true])) := by
  kernel_rfl
theorem F69_a20_eq (fuel : Nat) (x0 : Int) (x1 : Int) (x2 : Int) (x3 : Bool) (x4 : (List Int)) (x5 : (List Int)) (k : Ev.Cont) : evalFn tab (G69_a20 fuel) (J69_a20 fuel) kp69_a20 fuel Tryz.f69 [.c (.ptr 0 0)] [.cells 164 (.int .i64 x0 :: .own 1 :: .int .i64 2048 :: .int .i64 1792 :: .int .i64 1568 :: .int .i64 1372 :: .int .i64 1201 :: .int .i64 1051 :: .int .i64 920 :: .int .i64 805 :: .int .i64 705 :: .int .i64 617 :: .int .i64 540 :: .int .i64 473 :: .int .i64 414 :: .int .i64 363 :: .int .i64 318 :: .int .i64 279 :: .int .i64 245 :: .int .i64 215 :: .int .i64 189 :: .int .i64 166 :: .int .i64 146 :: .int .i64 128 :: .int .i64 112 :: .int .i64 98 :: .int .i64 86 :: .int .i64 76 :: .int .i64 67 :: .int .i64 59 :: .int .i64 52 :: .int .i64 46 :: .int .i64 41 :: .int .i64 36 :: .int .u64 x1 :: .int .u64 x2 :: .own 2 :: .bool x3 :: []), .vec 3 (.int .i64) x4 false, .vec 5 (.int .u8) x5 false] k = F_coder_Encoder_End_a20 fuel x0 x1 x2 x3 x4 x5 (fun r => match r with | (r0, r1, r2, r3, r4, r5, r6) => k (.c (.own 3), [.cells 164 (.int .i64 r0 :: .own 1 :: .int .i64 2048 :: .int .i64 1792 :: .int .i64 1568 :: .int .i64 1372 :: .int .i64 1201 :: .int .i64 1051 :: .int .i64 920 :: .int .i64 805 :: .int .i64 705 :: .int .i64 617 :: .int .i64 540 :: .int .i64 473 :: .int .i64 414 :: .int .i64 363 :: .int .i64 318 :: .int .i64 279 :: .int .i64 245 :: .int .i64 215 :: .int .i64 189 :: .int .i64 166 :: .int .i64 146 :: .int .i64 128 :: .int .i64 112 :: .int .i64 98 :: .int .i64 86 :: .int .i64 76 :: .int .i64 67 :: .int .i64 59 :: .int .i64 52 :: .int .i64 46 :: .int .i64 41 :: .int .i64 36 :: .int .u64 r1 :: .int .u64 r2 :: .own 2 :: .bool r3 :: []), .vec 3 (.int .i64) r4 false, .vec 5 (.int .u8) r5 false, .vec 5 (.int .u8) r6 true])) :=
  F69_a20_eqg fuel (F_coder_Encoder_none_a20 fuel) x0 x1 x2 x3 x4 x5 k
theorem hG69_a20 (fuel : Nat) : GOK Tryz.prog (G69_a20 fuel) :=
  gok_cons ⟨ok117_a20 fuel, enters_of Tryz.func117 (by kernel_rfl) rfl⟩ <|
  gok_nil
theorem B69_a20_2_blk (fuel : Nat) : BlkOK Tryz.prog Tryz.f69.ntmps (.block 2 (.loop (bodyOf 2 Tryz.f69))) (B69_a20_2 fuel) :=
  blk_of (blk_of_code tab_ok (hG69_a20 fuel) mixed (J := J69_a20_2 fuel) (kp := kp69_a20) (fuel := fuel) (by kernel_rfl) (fun q hq => by
    rw [(by kernel_rfl : obl (J69_a20_2 fuel) (.block 2 (.loop (bodyOf 2 Tryz.f69))) = [])] at hq
    cases hq)) (B69_a20_2_ok fuel)
theorem B69_a20_0_blk (fuel : Nat) : BlkOK Tryz.prog Tryz.f69.ntmps (.block 0 (.loop (bodyOf 0 Tryz.f69))) (B69_a20_0 fuel) :=
  blk_of (blk_of_code tab_ok (hG69_a20 fuel) mixed (J := J69_a20_0 fuel) (kp := kp69_a20) (fuel := fuel) (by kernel_rfl) (fun q hq => by
    rw [(by kernel_rfl : obl (J69_a20_0 fuel) (.block 0 (.loop (bodyOf 0 Tryz.f69))) = [(.block 2 (.loop (bodyOf 2 Tryz.f69)), B69_a20_2 fuel)])] at hq
    simp only [List.mem_cons, List.not_mem_nil, or_false] at hq
    subst hq
    · exact B69_a20_2_blk fuel)) (B69_a20_0_ok fuel)
theorem fok69_a20 (fuel : Nat) : FnOK Tryz.prog 69 (evalFn tab (G69_a20 fuel) (J69_a20 fuel) kp69_a20 fuel Tryz.f69) :=
  fn_ok tab_ok (hG69_a20 fuel) mixed Tryz.func69 (c := (Tryz.f69.body).getD .skip) rfl (fun q hq => by
    rw [(by kernel_rfl : obl (J69_a20 fuel) ((Tryz.f69.body).getD .skip) = [(.block 0 (.loop (bodyOf 0 Tryz.f69)), B69_a20_0 fuel)])] at hq
    simp only [List.mem_cons, List.not_mem_nil, or_false] at hq
    subst hq
    · exact B69_a20_0_blk fuel)
noncomputable def mt69_a20 : List Ev.SV → List Ev.Ob → Bool := fun args objs => match args, objs with
  | [.c (.ptr q0 q1)], [.cells q2 cs0, .vec q3 (.int .i64) _ false, .vec q4 (.int .u8) _ false] => (match splitRun 2 [(.i64, 2048), (.i64, 1792), (.i64, 1568), (.i64, 1372), (.i64, 1201), (.i64, 1051), (.i64, 920), (.i64, 805), (.i64, 705), (.i64, 617), (.i64, 540), (.i64, 473), (.i64, 414), (.i64, 363), (.i64, 318), (.i64, 279), (.i64, 245), (.i64, 215), (.i64, 189), (.i64, 166), (.i64, 146), (.i64, 128), (.i64, 112), (.i64, 98), (.i64, 86), (.i64, 76), (.i64, 67), (.i64, 59), (.i64, 52), (.i64, 46), (.i64, 41), (.i64, 36)] cs0 with | some ([.int .i64 _, .own q5], [.int .u64 _, .int .u64 _, .own q6, .bool _]) => Nat.beq q0 0 && Nat.beq q1 0 && Nat.beq q2 164 && Nat.beq q3 3 && Nat.beq q4 5 && Nat.beq q5 1 && Nat.beq q6 2 | _ => false)
  | _, _ => false
noncomputable def spg69_a20 (F : YF69_a20) : Ev.Spec := fun args objs k => match args, objs with
  | [.c (.ptr q0 q1)], [.cells q2 cs0, .vec q3 (.int .i64) x4 false, .vec q4 (.int .u8) x5 false] => (match splitRun 2 [(.i64, 2048), (.i64, 1792), (.i64, 1568), (.i64, 1372), (.i64, 1201), (.i64, 1051), (.i64, 920), (.i64, 805), (.i64, 705), (.i64, 617), (.i64, 540), (.i64, 473), (.i64, 414), (.i64, 363), (.i64, 318), (.i64, 279), (.i64, 245), (.i64, 215), (.i64, 189), (.i64, 166), (.i64, 146), (.i64, 128), (.i64, 112), (.i64, 98), (.i64, 86), (.i64, 76), (.i64, 67), (.i64, 59), (.i64, 52), (.i64, 46), (.i64, 41), (.i64, 36)] cs0 with | some ([.int .i64 x0, .own q5], [.int .u64 x1, .int .u64 x2, .own q6, .bool x3]) => bif Nat.beq q0 0 && Nat.beq q1 0 && Nat.beq q2 164 && Nat.beq q3 3 && Nat.beq q4 5 && Nat.beq q5 1 && Nat.beq q6 2 then F x0 x1 x2 x3 x4 x5 (fun r => match r with | (r0, r1, r2, r3, r4, r5, r6) => k (.c (.own 3), [.cells 164 (.int .i64 r0 :: .own 1 :: .int .i64 2048 :: .int .i64 1792 :: .int .i64 1568 :: .int .i64 1372 :: .int .i64 1201 :: .int .i64 1051 :: .int .i64 920 :: .int .i64 805 :: .int .i64 705 :: .int .i64 617 :: .int .i64 540 :: .int .i64 473 :: .int .i64 414 :: .int .i64 363 :: .int .i64 318 :: .int .i64 279 :: .int .i64 245 :: .int .i64 215 :: .int .i64 189 :: .int .i64 166 :: .int .i64 146 :: .int .i64 128 :: .int .i64 112 :: .int .i64 98 :: .int .i64 86 :: .int .i64 76 :: .int .i64 67 :: .int .i64 59 :: .int .i64 52 :: .int .i64 46 :: .int .i64 41 :: .int .i64 36 :: .int .u64 r1 :: .int .u64 r2 :: .own 2 :: .bool r3 :: []), .vec 3 (.int .i64) r4 false, .vec 5 (.int .u8) r5 false, .vec 5 (.int .u8) r6 true])) else none | _ => none)
  | _, _ => none
noncomputable def spec69_a20 (fuel : Nat) : Ev.Spec := spg69_a20 (F_coder_Encoder_End_a20 fuel)
theorem ok69_a20 (fuel : Nat) : FnOK Tryz.prog 69 (spec69_a20 fuel) := by
  intro args objs kk r h
  unfold spec69_a20 spg69_a20 at h
  split at h
  · skip
    split at h
    rotate_left 1
    · cases h
    rename_i hsp
    have esp := splitRun_eq hsp
    subst esp
    obtain ⟨hb, h⟩ := cond_some' h
    simp only [Bool.and_eq_true, Nat.beq_eq, decide_eq_true_eq] at hb
    obtain ⟨⟨⟨⟨⟨⟨rfl, rfl⟩, rfl⟩, rfl⟩, rfl⟩, rfl⟩, rfl⟩ := hb
    exact fok69_a20 fuel _ _ kk r ((F69_a20_eq fuel _ _ _ _ _ _ kk).trans h)
  · cases h
end Go.Proofs.YtmjeeaemmbkioaaGreat

set_option linter.unusedVariables false
set_option linter.unusedSimpArgs false
set_option maxRecDepth 100000
set_option maxHeartbeats 2000000
namespace Go.Proofs.YtmjeeaemmbkioaaGreat
open Go Ev
def kp71_975 (i : Nat) : Option (List Nat) := Ev.look i []
noncomputable def Gg71_975 (f117_975 : YF117_975) (f : Nat) : Option Ev.Spec := Ev.look f [(117, spg117_975 f117_975)]
noncomputable def G71_975 (fuel : Nat) : Nat → Option Ev.Spec := Gg71_975 (F_coder_Encoder_none_975 fuel)
noncomputable def J71_975 (fuel : Nat) (i : Nat) : Option Ev.Blk := Ev.look i []
noncomputable def F_coder_Encoder_Model_975 (fuel : Nat)  (k0 : (Int × (List Int)) → Option Ans) : Option Ans :=
  (F_coder_Encoder_none_975 fuel
    (fun y2 =>
      bif y2 then
      k0 ((0 : Int), [])
      else none))
abbrev YF71_975 : Type := ((Int × (List Int)) → Option Ans) → Option Ans
theorem F71_975_eqg (fuel : Nat) (f117_975 : YF117_975)  (k : Ev.Cont) : evalFn tab (Gg71_975 f117_975) (J71_975 fuel) kp71_975 fuel Tryz.f71 [.c (.nilptr)] [] k = (fun  (k0 : (Int × (List Int)) → Option Ans) =>
  (f117_975
    (fun y2 =>
      bif y2 then
      k0 ((0 : Int), [])
      else none))) (fun r => match r with | (r0, r1) => k (.agg [.int .i64 r0, .own 0], [.vec 3 (.int .i64) r1 true])) := by
  kernel_rfl
theorem F71_975_eq (fuel : Nat)  (k : Ev.Cont) : evalFn tab (G71_975 fuel) (J71_975 fuel) kp71_975 fuel Tryz.f71 [.c (.nilptr)] [] k = F_coder_Encoder_Model_975 fuel  (fun r => match r with | (r0, r1) => k (.agg [.int .i64 r0, .own 0], [.vec 3 (.int .i64) r1 true])) :=
  F71_975_eqg fuel (F_coder_Encoder_none_975 fuel)  k
theorem hG71_975 (fuel : Nat) : GOK Tryz.prog (G71_975 fuel) :=
  gok_cons ⟨ok117_975 fuel, enters_of Tryz.func117 (by kernel_rfl) rfl⟩ <|
  gok_nil
theorem fok71_975 (fuel : Nat) : FnOK Tryz.prog 71 (evalFn tab (G71_975 fuel) (J71_975 fuel) kp71_975 fuel Tryz.f71) :=
  fn_ok tab_ok (hG71_975 fuel) mixed Tryz.func71 (c := (Tryz.f71.body).getD .skip) rfl (fun q hq => by
    rw [(by kernel_rfl : obl (J71_975 fuel) ((Tryz.f71.body).getD .skip) = [])] at hq
    cases hq)
noncomputable def mt71_975 : List Ev.SV → List Ev.Ob → Bool := fun args objs => match args, objs with
  | [.c (.nilptr)], [] => true
  | _, _ => false
noncomputable def spg71_975 (F : YF71_975) : Ev.Spec := fun args objs k => match args, objs with
  | [.c (.nilptr)], [] => bif true then F  (fun r => match r with | (r0, r1) => k (.agg [.int .i64 r0, .own 0], [.vec 3 (.int .i64) r1 true])) else none
  | _, _ => none
noncomputable def spec71_975 (fuel : Nat) : Ev.Spec := spg71_975 (F_coder_Encoder_Model_975 fuel)
theorem ok71_975 (fuel : Nat) : FnOK Tryz.prog 71 (spec71_975 fuel) := by
  intro args objs kk r h
  unfold spec71_975 spg71_975 at h
  split at h
  · skip
    obtain ⟨hb, h⟩ := cond_some' h
    simp only [Bool.and_eq_true, Nat.beq_eq, decide_eq_true_eq] at hb
    clear hb
    exact fok71_975 fuel _ _ kk r ((F71_975_eq fuel kk).trans h)
  · cases h
end Go.Proofs.YtmjeeaemmbkioaaGreat

set_option linter.unusedVariables false
set_option linter.unusedSimpArgs false
set_option maxRecDepth 100000
set_option maxHeartbeats 2000000
namespace Go.Proofs.YtmjeeaemmbkioaaGreat
open Go Ev
def kp119 (i : Nat) : Option (List Nat) := Ev.look i [(200001, [1])]
noncomputable def Gg119 (f : Nat) : Option Ev.Spec := Ev.look f []
noncomputable def G119 (fuel : Nat) : Nat → Option Ev.Spec := Gg119
noncomputable def J119 (fuel : Nat) (i : Nat) : Option Ev.Blk := Ev.look i []
noncomputable def F_coder_clone (fuel : Nat) (x0 : Int) (x1 : (List Int)) (k0 : (Int × (List Int)) → Option Ans) : Option Ans :=
  bif Decidable.decide (((0 : Nat) + x1.length) * (8 : Nat) ≤ (140737488355328 : Nat) ∧ (0 : Nat) + x1.length ≤ (140737488355328 : Nat)) then
  k0 (x0, [] ++ x1)
  else none
abbrev YF119 : Type := (Int) → ((List Int)) → ((Int × (List Int)) → Option Ans) → Option Ans
theorem F119_eq (fuel : Nat) (x0 : Int) (x1 : (List Int)) (k : Ev.Cont) : evalFn tab (G119 fuel) (J119 fuel) kp119 fuel Tryz.f119 [.agg [.int .i64 x0, .sl (.int .i64) x1]] [] k = F_coder_clone fuel x0 x1 (fun r => match r with | (r0, r1) => k (.agg [.int .i64 r0, .own 0], [.vec 3 (.int .i64) r1 true])) := by
  kernel_rfl
theorem hG119 (fuel : Nat) : GOK Tryz.prog (G119 fuel) :=
  gok_nil
theorem fok119 (fuel : Nat) : FnOK Tryz.prog 119 (evalFn tab (G119 fuel) (J119 fuel) kp119 fuel Tryz.f119) :=
  fn_ok tab_ok (hG119 fuel) mixed Tryz.func119 (c := (Tryz.f119.body).getD .skip) rfl (fun q hq => by
    rw [(by kernel_rfl : obl (J119 fuel) ((Tryz.f119.body).getD .skip) = [])] at hq
    cases hq)
noncomputable def mt119 : List Ev.SV → List Ev.Ob → Bool := fun args objs => match args, objs with
  | [.agg [.int .i64 _, .sl (.int .i64) _]], [] => true
  | _, _ => false
noncomputable def spg119 (F : YF119) : Ev.Spec := fun args objs k => match args, objs with
  | [.agg [.int .i64 x0, .sl (.int .i64) x1]], [] => bif true then F x0 x1 (fun r => match r with | (r0, r1) => k (.agg [.int .i64 r0, .own 0], [.vec 3 (.int .i64) r1 true])) else none
  | _, _ => none
noncomputable def spec119 (fuel : Nat) : Ev.Spec := spg119 (F_coder_clone fuel)
theorem ok119 (fuel : Nat) : FnOK Tryz.prog 119 (spec119 fuel) := by
  intro args objs kk r h
  unfold spec119 spg119 at h
  split at h
  · skip
    obtain ⟨hb, h⟩ := cond_some' h
    simp only [Bool.and_eq_true, Nat.beq_eq, decide_eq_true_eq] at hb
    clear hb
    exact fok119 fuel _ _ kk r ((F119_eq fuel _ _ kk).trans h)
  · cases h
end Go.Proofs.YtmjeeaemmbkioaaGreat

set_option linter.unusedVariables false
set_option linter.unusedSimpArgs false
set_option maxRecDepth 100000
set_option maxHeartbeats 2000000
namespace Go.Proofs.YtmjeeaemmbkioaaGreat
open Go Ev
def kp71_a20 (i : Nat) : Option (List Nat) := Ev.look i []
noncomputable def Gg71_a20 (f117_a20 : YF117_a20) (f119 : YF119) (f : Nat) : Option Ev.Spec := Ev.look f [(117, spg117_a20 f117_a20), (119, spg119 f119)]
noncomputable def G71_a20 (fuel : Nat) : Nat → Option Ev.Spec := Gg71_a20 (F_coder_Encoder_none_a20 fuel) (F_coder_clone fuel)
noncomputable def J71_a20 (fuel : Nat) (i : Nat) : Option Ev.Blk := Ev.look i []
noncomputable def F_coder_Encoder_Model_a20 (fuel : Nat) (x0 : Int) (x1 : Int) (x2 : Int) (x3 : Bool) (x4 : (List Int)) (x5 : (List Int)) (k0 : (Int × Int × Int × Int × Bool × (List Int) × (List Int) × (List Int)) → Option Ans) : Option Ans :=
  (F_coder_Encoder_none_a20 fuel (x0) (x1) (x2) (x3) (x4) (x5)
    (fun (y2_0, y2_1, y2_2, y2_3, y2_4, y2_5, y2_6) =>
      bif y2_0 then
       k0 ((0 : Int), y2_1, y2_2, y2_3, y2_4, y2_5, y2_6, [])
      else
       (F_coder_clone fuel (y2_1) (y2_5)
         (fun (y7_0, y7_1) =>
           k0 (y7_0, y2_1, y2_2, y2_3, y2_4, y2_5, y2_6, y7_1)))))
abbrev YF71_a20 : Type := (Int) → (Int) → (Int) → (Bool) → ((List Int)) → ((List Int)) → ((Int × Int × Int × Int × Bool × (List Int) × (List Int) × (List Int)) → Option Ans) → Option Ans
theorem F71_a20_eqg (fuel : Nat) (f117_a20 : YF117_a20) (f119 : YF119) (x0 : Int) (x1 : Int) (x2 : Int) (x3 : Bool) (x4 : (List Int)) (x5 : (List Int)) (k : Ev.Cont) : evalFn tab (Gg71_a20 f117_a20 f119) (J71_a20 fuel) kp71_a20 fuel Tryz.f71 [.c (.ptr 0 0)] [.cells 164 (.int .i64 x0 :: .own 1 :: .int .i64 2048 :: .int .i64 1792 :: .int .i64 1568 :: .int .i64 1372 :: .int .i64 1201 :: .int .i64 1051 :: .int .i64 920 :: .int .i64 805 :: .int .i64 705 :: .int .i64 617 :: .int .i64 540 :: .int .i64 473 :: .int .i64 414 :: .int .i64 363 :: .int .i64 318 :: .int .i64 279 :: .int .i64 245 :: .int .i64 215 :: .int .i64 189 :: .int .i64 166 :: .int .i64 146 :: .int .i64 128 :: .int .i64 112 :: .int .i64 98 :: .int .i64 86 :: .int .i64 76 :: .int .i64 67 :: .int .i64 59 :: .int .i64 52 :: .int .i64 46 :: .int .i64 41 :: .int .i64 36 :: .int .u64 x1 :: .int .u64 x2 :: .own 2 :: .bool x3 :: []), .vec 3 (.int .i64) x4 false, .vec 5 (.int .u8) x5 false] k = (fun  (k0 : (Int × Int × Int × Int × Bool × (List Int) × (List Int) × (List Int)) → Option Ans) =>
  (f117_a20 (x0) (x1) (x2) (x3) (x4) (x5)
    (fun (y2_0, y2_1, y2_2, y2_3, y2_4, y2_5, y2_6) =>
      bif y2_0 then
       k0 ((0 : Int), y2_1, y2_2, y2_3, y2_4, y2_5, y2_6, [])
      else
       (f119 (y2_1) (y2_5)
         (fun (y7_0, y7_1) =>
           k0 (y7_0, y2_1, y2_2, y2_3, y2_4, y2_5, y2_6, y7_1)))))) (fun r => match r with | (r0, r1, r2, r3, r4, r5, r6, r7) => k (.agg [.int .i64 r0, .own 3], [.cells 164 (.int .i64 r1 :: .own 1 :: .int .i64 2048 :: .int .i64 1792 :: .int .i64 1568 :: .int .i64 1372 :: .int .i64 1201 :: .int .i64 1051 :: .int .i64 920 :: .int .i64 805 :: .int .i64 705 :: .int .i64 617 :: .int .i64 540 :: .int .i64 473 :: .int .i64 414 :: .int .i64 363 :: .int .i64 318 :: .int .i64 279 :: .int .i64 245 :: .int .i64 215 :: .int .i64 189 :: .int .i64 166 :: .int .i64 146 :: .int .i64 128 :: .int .i64 112 :: .int .i64 98 :: .int .i64 86 :: .int .i64 76 :: .int .i64 67 :: .int .i64 59 :: .int .i64 52 :: .int .i64 46 :: .int .i64 41 :: .int .i64 36 :: .int .u64 r2 :: .int .u64 r3 :: .own 2 :: .bool r4 :: []), .vec 3 (.int .i64) r5 false, .vec 5 (.int .u8) r6 false, .vec 3 (.int .i64) r7 true])) := by
  kernel_rfl
theorem F71_a20_eq (fuel : Nat) (x0 : Int) (x1 : Int) (x2 : Int) (x3 : Bool) (x4 : (List Int)) (x5 : (List Int)) (k : Ev.Cont) : evalFn tab (G71_a20 fuel) (J71_a20 fuel) kp71_a20 fuel Tryz.f71 [.c (.ptr 0 0)] [.cells 164 (.int .i64 x0 :: .own 1 :: .int .i64 2048 :: .int .i64 1792 :: .int .i64 1568 :: .int .i64 1372 :: .int .i64 1201 :: .int .i64 1051 :: .int .i64 920 :: .int .i64 805 :: .int .i64 705 :: .int .i64 617 :: .int .i64 540 :: .int .i64 473 :: .int .i64 414 :: .int .i64 363 :: .int .i64 318 :: .int .i64 279 :: .int .i64 245 :: .int .i64 215 :: .int .i64 189 :: .int .i64 166 :: .int .i64 146 :: .int .i64 128 :: .int .i64 112 :: .int .i64 98 :: .int .i64 86 :: .int .i64 76 :: .int .i64 67 :: .int .i64 59 :: .int .i64 52 :: .int .i64 46 :: .int .i64 41 :: .int .i64 36 :: .int .u64 x1 :: .int .u64 x2 :: .own 2 :: .bool x3 :: []), .vec 3 (.int .i64) x4 false, .vec 5 (.int .u8) x5 false] k = F_coder_Encoder_Model_a20 fuel x0 x1 x2 x3 x4 x5 (fun r => match r with | (r0, r1, r2, r3, r4, r5, r6, r7) => k (.agg [.int .i64 r0, .own 3], [.cells 164 (.int .i64 r1 :: .own 1 :: .int .i64 2048 :: .int .i64 1792 :: .int .i64 1568 :: .int .i64 1372 :: .int .i64 1201 :: .int .i64 1051 :: .int .i64 920 :: .int .i64 805 :: .int .i64 705 :: .int .i64 617 :: .int .i64 540 :: .int .i64 473 :: .int .i64 414 :: .int .i64 363 :: .int .i64 318 :: .int .i64 279 :: .int .i64 245 :: .int .i64 215 :: .int .i64 189 :: .int .i64 166 :: .int .i64 146 :: .int .i64 128 :: .int .i64 112 :: .int .i64 98 :: .int .i64 86 :: .int .i64 76 :: .int .i64 67 :: .int .i64 59 :: .int .i64 52 :: .int .i64 46 :: .int .i64 41 :: .int .i64 36 :: .int .u64 r2 :: .int .u64 r3 :: .own 2 :: .bool r4 :: []), .vec 3 (.int .i64) r5 false, .vec 5 (.int .u8) r6 false, .vec 3 (.int .i64) r7 true])) :=
  F71_a20_eqg fuel (F_coder_Encoder_none_a20 fuel) (F_coder_clone fuel) x0 x1 x2 x3 x4 x5 k
theorem hG71_a20 (fuel : Nat) : GOK Tryz.prog (G71_a20 fuel) :=
  gok_cons ⟨ok117_a20 fuel, enters_of Tryz.func117 (by kernel_rfl) rfl⟩ <|
  gok_cons ⟨ok119 fuel, enters_of Tryz.func119 (by kernel_rfl) rfl⟩ <|
  gok_nil
theorem fok71_a20 (fuel : Nat) : FnOK Tryz.prog 71 (evalFn tab (G71_a20 fuel) (J71_a20 fuel) kp71_a20 fuel Tryz.f71) :=
  fn_ok tab_ok (hG71_a20 fuel) mixed Tryz.func71 (c := (Tryz.f71.body).getD .skip) rfl (fun q hq => by
    rw [(by kernel_rfl : obl (J71_a20 fuel) ((Tryz.f71.body).getD .skip) = [])] at hq
    cases hq)
noncomputable def mt71_a20 : List Ev.SV → List Ev.Ob → Bool := fun args objs => match args, objs with
  | [.c (.ptr q0 q1)], [.cells q2 cs0, .vec q3 (.int .i64) _ false, .vec q4 (.int .u8) _ false] => (match splitRun 2 [(.i64, 2048), (.i64, 1792), (.i64, 1568), (.i64, 1372), (.i64, 1201), (.i64, 1051), (.i64, 920), (.i64, 805), (.i64, 705), (.i64, 617), (.i64, 540), (.i64, 473), (.i64, 414), (.i64, 363), (.i64, 318), (.i64, 279), (.i64, 245), (.i64, 215), (.i64, 189), (.i64, 166), (.i64, 146), (.i64, 128), (.i64, 112), (.i64, 98), (.i64, 86), (.i64, 76), (.i64, 67), (.i64, 59), (.i64, 52), (.i64, 46), (.i64, 41), (.i64, 36)] cs0 with | some ([.int .i64 _, .own q5], [.int .u64 _, .int .u64 _, .own q6, .bool _]) => Nat.beq q0 0 && Nat.beq q1 0 && Nat.beq q2 164 && Nat.beq q3 3 && Nat.beq q4 5 && Nat.beq q5 1 && Nat.beq q6 2 | _ => false)
  | _, _ => false
noncomputable def spg71_a20 (F : YF71_a20) : Ev.Spec := fun args objs k => match args, objs with
  | [.c (.ptr q0 q1)], [.cells q2 cs0, .vec q3 (.int .i64) x4 false, .vec q4 (.int .u8) x5 false] => (match splitRun 2 [(.i64, 2048), (.i64, 1792), (.i64, 1568), (.i64, 1372), (.i64, 1201), (.i64, 1051), (.i64, 920), (.i64, 805), (.i64, 705), (.i64, 617), (.i64, 540), (.i64, 473), (.i64, 414), (.i64, 363), (.i64, 318), (.i64, 279), (.i64, 245), (.i64, 215), (.i64, 189), (.i64, 166), (.i64, 146), (.i64, 128), (.i64, 112), (.i64, 98), (.i64, 86), (.i64, 76), (.i64, 67), (.i64, 59), (.i64, 52), (.i64, 46), (.i64, 41), (.i64, 36)] cs0 with | some ([.int .i64 x0, .own q5], [.int .u64 x1, .int .u64 x2, .own q6, .bool x3]) => bif Nat.beq q0 0 && Nat.beq q1 0 && Nat.beq q2 164 && Nat.beq q3 3 && Nat.beq q4 5 && Nat.beq q5 1 && Nat.beq q6 2 then F x0 x1 x2 x3 x4 x5 (fun r => match r with | (r0, r1, r2, r3, r4, r5, r6, r7) => k (.agg [.int .i64 r0, .own 3], [.cells 164 (.int .i64 r1 :: .own 1 :: .int .i64 2048 :: .int .i64 1792 :: .int .i64 1568 :: .int .i64 1372 :: .int .i64 1201 :: .int .i64 1051 :: .int .i64 920 :: .int .i64 805 :: .int .i64 705 :: .int .i64 617 :: .int .i64 540 :: .int .i64 473 :: .int .i64 414 :: .int .i64 363 :: .int .i64 318 :: .int .i64 279 :: .int .i64 245 :: .int .i64 215 :: .int .i64 189 :: .int .i64 166 :: .int .i64 146 :: .int .i64 128 :: .int .i64 112 :: .int .i64 98 :: .int .i64 86 :: .int .i64 76 :: .int .i64 67 :: .int .i64 59 :: .int .i64 52 :: .int .i64 46 :: .int .i64 41 :: .int .i64 36 :: .int .u64 r2 :: .int .u64 r3 :: .own 2 :: .bool r4 :: []), .vec 3 (.int .i64) r5 false, .vec 5 (.int .u8) r6 false, .vec 3 (.int .i64) r7 true])) else none | _ => none)
  | _, _ => none
noncomputable def spec71_a20 (fuel : Nat) : Ev.Spec := spg71_a20 (F_coder_Encoder_Model_a20 fuel)
theorem ok71_a20 (fuel : Nat) : FnOK Tryz.prog 71 (spec71_a20 fuel) := by
  intro args objs kk r h
  unfold spec71_a20 spg71_a20 at h
  split at h
  · skip
    split at h
    rotate_left 1
    · cases h
    rename_i hsp
    have esp := splitRun_eq hsp
    subst esp
    obtain ⟨hb, h⟩ := cond_some' h
    simp only [Bool.and_eq_true, Nat.beq_eq, decide_eq_true_eq] at hb
    obtain ⟨⟨⟨⟨⟨⟨rfl, rfl⟩, rfl⟩, rfl⟩, rfl⟩, rfl⟩, rfl⟩ := hb
    exact fok71_a20 fuel _ _ kk r ((F71_a20_eq fuel _ _ _ _ _ _ kk).trans h)
  · cases h
end Go.Proofs.YtmjeeaemmbkioaaGreat

set_option linter.unusedVariables false
set_option linter.unusedSimpArgs false
set_option maxRecDepth 100000
set_option maxHeartbeats 2000000
namespace Go.Proofs.YtmjeeaemmbkioaaGreat
open Go Ev
def kp124_40a (i : Nat) : Option (List Nat) := Ev.look i []
noncomputable def Gg124_40a (f : Nat) : Option Ev.Spec := Ev.look f []
noncomputable def G124_40a (fuel : Nat) : Nat → Option Ev.Spec := Gg124_40a
noncomputable def J124_40a (fuel : Nat) (i : Nat) : Option Ev.Blk := Ev.look i []
noncomputable def F_coder_Decoder_none_40a (fuel : Nat) (x0 : Int) (x1 : Int) (x2 : Int) (x3 : Int) (x4 : Int) (x5 : Int) (x6 : Bool) (x7 : Bool) (x8 : (List Int)) (x9 : (List Int)) (k0 : (Bool × Int × Int × Int × Int × Int × Int × Bool × Bool × (List Int) × (List Int)) → Option Ans) : Option Ans :=
  k0 (!x7, x0, x1, x2, x3, x4, x5, x6, x7, x8, x9)
abbrev YF124_40a : Type := (Int) → (Int) → (Int) → (Int) → (Int) → (Int) → (Bool) → (Bool) → ((List Int)) → ((List Int)) → ((Bool × Int × Int × Int × Int × Int × Int × Bool × Bool × (List Int) × (List Int)) → Option Ans) → Option Ans
theorem F124_40a_eq (fuel : Nat) (x0 : Int) (x1 : Int) (x2 : Int) (x3 : Int) (x4 : Int) (x5 : Int) (x6 : Bool) (x7 : Bool) (x8 : (List Int)) (x9 : (List Int)) (k : Ev.Cont) : evalFn tab (G124_40a fuel) (J124_40a fuel) kp124_40a fuel Tryz.f124 [.c (.ptr 0 0)] [.cells 168 (.int .i64 x0 :: .own 1 :: .int .i64 2048 :: .int .i64 1792 :: .int .i64 1568 :: .int .i64 1372 :: .int .i64 1201 :: .int .i64 1051 :: .int .i64 920 :: .int .i64 805 :: .int .i64 705 :: .int .i64 617 :: .int .i64 540 :: .int .i64 473 :: .int .i64 414 :: .int .i64 363 :: .int .i64 318 :: .int .i64 279 :: .int .i64 245 :: .int .i64 215 :: .int .i64 189 :: .int .i64 166 :: .int .i64 146 :: .int .i64 128 :: .int .i64 112 :: .int .i64 98 :: .int .i64 86 :: .int .i64 76 :: .int .i64 67 :: .int .i64 59 :: .int .i64 52 :: .int .i64 46 :: .int .i64 41 :: .int .i64 36 :: .int .u64 x1 :: .int .u64 x2 :: .own 2 :: .int .i64 x3 :: .int .u64 x4 :: .int .i64 x5 :: .bool x6 :: .bool x7 :: []), .vec 3 (.int .i64) x8 false, .vec 5 (.int .u8) x9 false] k = F_coder_Decoder_none_40a fuel x0 x1 x2 x3 x4 x5 x6 x7 x8 x9 (fun r => match r with | (r0, r1, r2, r3, r4, r5, r6, r7, r8, r9, r10) => k (.c (.bool r0), [.cells 168 (.int .i64 r1 :: .own 1 :: .int .i64 2048 :: .int .i64 1792 :: .int .i64 1568 :: .int .i64 1372 :: .int .i64 1201 :: .int .i64 1051 :: .int .i64 920 :: .int .i64 805 :: .int .i64 705 :: .int .i64 617 :: .int .i64 540 :: .int .i64 473 :: .int .i64 414 :: .int .i64 363 :: .int .i64 318 :: .int .i64 279 :: .int .i64 245 :: .int .i64 215 :: .int .i64 189 :: .int .i64 166 :: .int .i64 146 :: .int .i64 128 :: .int .i64 112 :: .int .i64 98 :: .int .i64 86 :: .int .i64 76 :: .int .i64 67 :: .int .i64 59 :: .int .i64 52 :: .int .i64 46 :: .int .i64 41 :: .int .i64 36 :: .int .u64 r2 :: .int .u64 r3 :: .own 2 :: .int .i64 r4 :: .int .u64 r5 :: .int .i64 r6 :: .bool r7 :: .bool r8 :: []), .vec 3 (.int .i64) r9 false, .vec 5 (.int .u8) r10 false])) := by
  kernel_rfl
theorem hG124_40a (fuel : Nat) : GOK Tryz.prog (G124_40a fuel) :=
  gok_nil
theorem fok124_40a (fuel : Nat) : FnOK Tryz.prog 124 (evalFn tab (G124_40a fuel) (J124_40a fuel) kp124_40a fuel Tryz.f124) :=
  fn_ok tab_ok (hG124_40a fuel) mixed Tryz.func124 (c := (Tryz.f124.body).getD .skip) rfl (fun q hq => by
    rw [(by kernel_rfl : obl (J124_40a fuel) ((Tryz.f124.body).getD .skip) = [])] at hq
    cases hq)
noncomputable def mt124_40a : List Ev.SV → List Ev.Ob → Bool := fun args objs => match args, objs with
  | [.c (.ptr q0 q1)], [.cells q2 cs0, .vec q3 (.int .i64) _ false, .vec q4 (.int .u8) _ false] => (match splitRun 2 [(.i64, 2048), (.i64, 1792), (.i64, 1568), (.i64, 1372), (.i64, 1201), (.i64, 1051), (.i64, 920), (.i64, 805), (.i64, 705), (.i64, 617), (.i64, 540), (.i64, 473), (.i64, 414), (.i64, 363), (.i64, 318), (.i64, 279), (.i64, 245), (.i64, 215), (.i64, 189), (.i64, 166), (.i64, 146), (.i64, 128), (.i64, 112), (.i64, 98), (.i64, 86), (.i64, 76), (.i64, 67), (.i64, 59), (.i64, 52), (.i64, 46), (.i64, 41), (.i64, 36)] cs0 with | some ([.int .i64 _, .own q5], [.int .u64 _, .int .u64 _, .own q6, .int .i64 _, .int .u64 _, .int .i64 _, .bool _, .bool _]) => Nat.beq q0 0 && Nat.beq q1 0 && Nat.beq q2 168 && Nat.beq q3 3 && Nat.beq q4 5 && Nat.beq q5 1 && Nat.beq q6 2 | _ => false)
  | _, _ => false
noncomputable def spg124_40a (F : YF124_40a) : Ev.Spec := fun args objs k => match args, objs with
  | [.c (.ptr q0 q1)], [.cells q2 cs0, .vec q3 (.int .i64) x8 false, .vec q4 (.int .u8) x9 false] => (match splitRun 2 [(.i64, 2048), (.i64, 1792), (.i64, 1568), (.i64, 1372), (.i64, 1201), (.i64, 1051), (.i64, 920), (.i64, 805), (.i64, 705), (.i64, 617), (.i64, 540), (.i64, 473), (.i64, 414), (.i64, 363), (.i64, 318), (.i64, 279), (.i64, 245), (.i64, 215), (.i64, 189), (.i64, 166), (.i64, 146), (.i64, 128), (.i64, 112), (.i64, 98), (.i64, 86), (.i64, 76), (.i64, 67), (.i64, 59), (.i64, 52), (.i64, 46), (.i64, 41), (.i64, 36)] cs0 with | some ([.int .i64 x0, .own q5], [.int .u64 x1, .int .u64 x2, .own q6, .int .i64 x3, .int .u64 x4, .int .i64 x5, .bool x6, .bool x7]) => bif Nat.beq q0 0 && Nat.beq q1 0 && Nat.beq q2 168 && Nat.beq q3 3 && Nat.beq q4 5 && Nat.beq q5 1 && Nat.beq q6 2 then F x0 x1 x2 x3 x4 x5 x6 x7 x8 x9 (fun r => match r with | (r0, r1, r2, r3, r4, r5, r6, r7, r8, r9, r10) => k (.c (.bool r0), [.cells 168 (.int .i64 r1 :: .own 1 :: .int .i64 2048 :: .int .i64 1792 :: .int .i64 1568 :: .int .i64 1372 :: .int .i64 1201 :: .int .i64 1051 :: .int .i64 920 :: .int .i64 805 :: .int .i64 705 :: .int .i64 617 :: .int .i64 540 :: .int .i64 473 :: .int .i64 414 :: .int .i64 363 :: .int .i64 318 :: .int .i64 279 :: .int .i64 245 :: .int .i64 215 :: .int .i64 189 :: .int .i64 166 :: .int .i64 146 :: .int .i64 128 :: .int .i64 112 :: .int .i64 98 :: .int .i64 86 :: .int .i64 76 :: .int .i64 67 :: .int .i64 59 :: .int .i64 52 :: .int .i64 46 :: .int .i64 41 :: .int .i64 36 :: .int .u64 r2 :: .int .u64 r3 :: .own 2 :: .int .i64 r4 :: .int .u64 r5 :: .int .i64 r6 :: .bool r7 :: .bool r8 :: []), .vec 3 (.int .i64) r9 false, .vec 5 (.int .u8) r10 false])) else none | _ => none)
  | _, _ => none
noncomputable def spec124_40a (fuel : Nat) : Ev.Spec := spg124_40a (F_coder_Decoder_none_40a fuel)
theorem ok124_40a (fuel : Nat) : FnOK Tryz.prog 124 (spec124_40a fuel) := by
  intro args objs kk r h
  unfold spec124_40a spg124_40a at h
  split at h
  · skip
    split at h
    rotate_left 1
    · cases h
    rename_i hsp
    have esp := splitRun_eq hsp
    subst esp
    obtain ⟨hb, h⟩ := cond_some' h
    simp only [Bool.and_eq_true, Nat.beq_eq, decide_eq_true_eq] at hb
    obtain ⟨⟨⟨⟨⟨⟨rfl, rfl⟩, rfl⟩, rfl⟩, rfl⟩, rfl⟩, rfl⟩ := hb
    exact fok124_40a fuel _ _ kk r ((F124_40a_eq fuel _ _ _ _ _ _ _ _ _ _ kk).trans h)
  · cases h
end Go.Proofs.YtmjeeaemmbkioaaGreat

set_option linter.unusedVariables false
set_option linter.unusedSimpArgs false
set_option maxRecDepth 100000
set_option maxHeartbeats 2000000
namespace Go.Proofs.YtmjeeaemmbkioaaGreat
open Go Ev
def kp76_40a (i : Nat) : Option (List Nat) := Ev.look i []
noncomputable def Gg76_40a (f119 : YF119) (f124_40a : YF124_40a) (f : Nat) : Option Ev.Spec := Ev.look f [(119, spg119 f119), (124, spg124_40a f124_40a)]
noncomputable def G76_40a (fuel : Nat) : Nat → Option Ev.Spec := Gg76_40a (F_coder_clone fuel) (F_coder_Decoder_none_40a fuel)
noncomputable def J76_40a (fuel : Nat) (i : Nat) : Option Ev.Blk := Ev.look i []
noncomputable def F_coder_Decoder_Model_40a (fuel : Nat) (x0 : Int) (x1 : Int) (x2 : Int) (x3 : Int) (x4 : Int) (x5 : Int) (x6 : Bool) (x7 : Bool) (x8 : (List Int)) (x9 : (List Int)) (k0 : (Int × Int × Int × Int × Int × Int × Int × Bool × Bool × (List Int) × (List Int) × (List Int)) → Option Ans) : Option Ans :=
  (F_coder_Decoder_none_40a fuel (x0) (x1) (x2) (x3) (x4) (x5) (x6) (x7) (x8) (x9)
    (fun (y2_0, y2_1, y2_2, y2_3, y2_4, y2_5, y2_6, y2_7, y2_8, y2_9, y2_10) =>
      bif y2_0 then
       k0 ((0 : Int), y2_1, y2_2, y2_3, y2_4, y2_5, y2_6, y2_7, y2_8, y2_9, y2_10, [])
      else
       (F_coder_clone fuel (y2_1) (y2_9)
         (fun (y7_0, y7_1) =>
           k0 (y7_0, y2_1, y2_2, y2_3, y2_4, y2_5, y2_6, y2_7, y2_8, y2_9, y2_10, y7_1)))))
abbrev YF76_40a : Type := (Int) → (Int) → (Int) → (Int) → (Int) → (Int) → (Bool) → (Bool) → ((List Int)) → ((List Int)) → ((Int × Int × Int × Int × Int × Int × Int × Bool × Bool × (List Int) × (List Int) × (List Int)) → Option Ans) → Option Ans
theorem F76_40a_eqg (fuel : Nat) (f119 : YF119) (f124_40a : YF124_40a) (x0 : Int) (x1 : Int) (x2 : Int) (x3 : Int) (x4 : Int) (x5 : Int) (x6 : Bool) (x7 : Bool) (x8 : (List Int)) (x9 : (List Int)) (k : Ev.Cont) : evalFn tab (Gg76_40a f119 f124_40a) (J76_40a fuel) kp76_40a fuel Tryz.f76 [.c (.ptr 0 0)] [.cells 168 (.int .i64 x0 :: .own 1 :: .int .i64 2048 :: .int .i64 1792 :: .int .i64 1568 :: .int .i64 1372 :: .int .i64 1201 :: .int .i64 1051 :: .int .i64 920 :: .int .i64 805 :: .int .i64 705 :: .int .i64 617 :: .int .i64 540 :: .int .i64 473 :: .int .i64 414 :: .int .i64 363 :: .int .i64 318 :: .int .i64 279 :: .int .i64 245 :: .int .i64 215 :: .int .i64 189 :: .int .i64 166 :: .int .i64 146 :: .int .i64 128 :: .int .i64 112 :: .int .i64 98 :: .int .i64 86 :: .int .i64 76 :: .int .i64 67 :: .int .i64 59 :: .int .i64 52 :: .int .i64 46 :: .int .i64 41 :: .int .i64 36 :: .int .u64 x1 :: .int .u64 x2 :: .own 2 :: .int .i64 x3 :: .int .u64 x4 :: .int .i64 x5 :: .bool x6 :: .bool x7 :: []), .vec 3 (.int .i64) x8 false, .vec 5 (.int .u8) x9 false] k = (fun  (k0 : (Int × Int × Int × Int × Int × Int × Int × Bool × Bool × (List Int) × (List Int) × (List Int)) → Option Ans) =>
  (f124_40a (x0) (x1) (x2) (x3) (x4) (x5) (x6) (x7) (x8) (x9)
    (fun (y2_0, y2_1, y2_2, y2_3, y2_4, y2_5, y2_6, y2_7, y2_8, y2_9, y2_10) =>
      bif y2_0 then
       k0 ((0 : Int), y2_1, y2_2, y2_3, y2_4, y2_5, y2_6, y2_7, y2_8, y2_9, y2_10, [])
      else
       (f119 (y2_1) (y2_9)
         (fun (y7_0, y7_1) =>
           k0 (y7_0, y2_1, y2_2, y2_3, y2_4, y2_5, y2_6, y2_7, y2_8, y2_9, y2_10, y7_1)))))) (fun r => match r with | (r0, r1, r2, r3, r4, r5, r6, r7, r8, r9, r10, r11) => k (.agg [.int .i64 r0, .own 3], [.cells 168 (.int .i64 r1 :: .own 1 :: .int .i64 2048 :: .int .i64 1792 :: .int .i64 1568 :: .int .i64 1372 :: .int .i64 1201 :: .int .i64 1051 :: .int .i64 920 :: .int .i64 805 :: .int .i64 705 :: .int .i64 617 :: .int .i64 540 :: .int .i64 473 :: .int .i64 414 :: .int .i64 363 :: .int .i64 318 :: .int .i64 279 :: .int .i64 245 :: .int .i64 215 :: .int .i64 189 :: .int .i64 166 :: .int .i64 146 :: .int .i64 128 :: .int .i64 112 :: .int .i64 98 :: .int .i64 86 :: .int .i64 76 :: .int .i64 67 :: .int .i64 59 :: .int .i64 52 :: .int .i64 46 :: .int .i64 41 :: .int .i64 36 :: .int .u64 r2 :: .int .u64 r3 :: .own 2 :: .int .i64 r4 :: .int .u64 r5 :: .int .i64 r6 :: .bool r7 :: .bool r8 :: []), .vec 3 (.int .i64) r9 false, .vec 5 (.int .u8) r10 false, .vec 3 (.int .i64) r11 true])) := by
  kernel_rfl
theorem F76_40a_eq (fuel : Nat) (x0 : Int) (x1 : Int) (x2 : Int) (x3 : Int) (x4 : Int) (x5 : Int) (x6 : Bool) (x7 : Bool) (x8 : (List Int)) (x9 : (List Int)) (k : Ev.Cont) : evalFn tab (G76_40a fuel) (J76_40a fuel) kp76_40a fuel Tryz.f76 [.c (.ptr 0 0)] [.cells 168 (.int .i64 x0 :: .own 1 :: .int .i64 2048 :: .int .i64 1792 :: .int .i64 1568 :: .int .i64 1372 :: .int .i64 1201 :: .int .i64 1051 :: .int .i64 920 :: .int .i64 805 :: .int .i64 705 :: .int .i64 617 :: .int .i64 540 :: .int .i64 473 :: .int .i64 414 :: .int .i64 363 :: .int .i64 318 :: .int .i64 279 :: .int .i64 245 :: .int .i64 215 :: .int .i64 189 :: .int .i64 166 :: .int .i64 146 :: .int .i64 128 :: .int .i64 112 :: .int .i64 98 :: .int .i64 86 :: .int .i64 76 :: .int .i64 67 :: .int .i64 59 :: .int .i64 52 :: .int .i64 46 :: .int .i64 41 :: .int .i64 36 :: .int .u64 x1 :: .int .u64 x2 :: .own 2 :: .int .i64 x3 :: .int .u64 x4 :: .int .i64 x5 :: .bool x6 :: .bool x7 :: []), .vec 3 (.int .i64) x8 false, .vec 5 (.int .u8) x9 false] k = F_coder_Decoder_Model_40a fuel x0 x1 x2 x3 x4 x5 x6 x7 x8 x9 (fun r => match r with | (r0, r1, r2, r3, r4, r5, r6, r7, r8, r9, r10, r11) => k (.agg [.int .i64 r0, .own 3], [.cells 168 (.int .i64 r1 :: .own 1 :: .int .i64 2048 :: .int .i64 1792 :: .int .i64 1568 :: .int .i64 1372 :: .int .i64 1201 :: .int .i64 1051 :: .int .i64 920 :: .int .i64 805 :: .int .i64 705 :: .int .i64 617 :: .int .i64 540 :: .int .i64 473 :: .int .i64 414 :: .int .i64 363 :: .int .i64 318 :: .int .i64 279 :: .int .i64 245 :: .int .i64 215 :: .int .i64 189 :: .int .i64 166 :: .int .i64 146 :: .int .i64 128 :: .int .i64 112 :: .int .i64 98 :: .int .i64 86 :: .int .i64 76 :: .int .i64 67 :: .int .i64 59 :: .int .i64 52 :: .int .i64 46 :: .int .i64 41 :: .int .i64 36 :: .int .u64 r2 :: .int .u64 r3 :: .own 2 :: .int .i64 r4 :: .int .u64 r5 :: .int .i64 r6 :: .bool r7 :: .bool r8 :: []), .vec 3 (.int .i64) r9 false, .vec 5 (.int .u8) r10 false, .vec 3 (.int .i64) r11 true])) :=
  F76_40a_eqg fuel (F_coder_clone fuel) (F_coder_Decoder_none_40a fuel) x0 x1 x2 x3 x4 x5 x6 x7 x8 x9 k
theorem hG76_40a (fuel : Nat) : GOK Tryz.prog (G76_40a fuel) :=
  gok_cons ⟨ok119 fuel, enters_of Tryz.func119 (by kernel_rfl) rfl⟩ <|
  gok_cons ⟨ok124_40a fuel, enters_of Tryz.func124 (by kernel_rfl) rfl⟩ <|
  gok_nil
theorem fok76_40a (fuel : Nat) : FnOK Tryz.prog 76 (evalFn tab (G76_40a fuel) (J76_40a fuel) kp76_40a fuel Tryz.f76) :=
  fn_ok tab_ok (hG76_40a fuel) mixed Tryz.func76 (c := (Tryz.f76.body).getD .skip) rfl (fun q hq => by
    rw [(by kernel_rfl : obl (J76_40a fuel) ((Tryz.f76.body).getD .skip) = [])] at hq
    cases hq)
noncomputable def mt76_40a : List Ev.SV → List Ev.Ob → Bool := fun args objs => match args, objs with
  | [.c (.ptr q0 q1)], [.cells q2 cs0, .vec q3 (.int .i64) _ false, .vec q4 (.int .u8) _ false] => (match splitRun 2 [(.i64, 2048), (.i64, 1792), (.i64, 1568), (.i64, 1372), (.i64, 1201), (.i64, 1051), (.i64, 920), (.i64, 805), (.i64, 705), (.i64, 617), (.i64, 540), (.i64, 473), (.i64, 414), (.i64, 363), (.i64, 318), (.i64, 279), (.i64, 245), (.i64, 215), (.i64, 189), (.i64, 166), (.i64, 146), (.i64, 128), (.i64, 112), (.i64, 98), (.i64, 86), (.i64, 76), (.i64, 67), (.i64, 59), (.i64, 52), (.i64, 46), (.i64, 41), (.i64, 36)] cs0 with | some ([.int .i64 _, .own q5], [.int .u64 _, .int .u64 _, .own q6, .int .i64 _, .int .u64 _, .int .i64 _, .bool _, .bool _]) => Nat.beq q0 0 && Nat.beq q1 0 && Nat.beq q2 168 && Nat.beq q3 3 && Nat.beq q4 5 && Nat.beq q5 1 && Nat.beq q6 2 | _ => false)
  | _, _ => false
noncomputable def spg76_40a (F : YF76_40a) : Ev.Spec := fun args objs k => match args, objs with
  | [.c (.ptr q0 q1)], [.cells q2 cs0, .vec q3 (.int .i64) x8 false, .vec q4 (.int .u8) x9 false] => (match splitRun 2 [(.i64, 2048), (.i64, 1792), (.i64, 1568), (.i64, 1372), (.i64, 1201), (.i64, 1051), (.i64, 920), (.i64, 805), (.i64, 705), (.i64, 617), (.i64, 540), (.i64, 473), (.i64, 414), (.i64, 363), (.i64, 318), (.i64, 279), (.i64, 245), (.i64, 215), (.i64, 189), (.i64, 166), (.i64, 146), (.i64, 128), (.i64, 112), (.i64, 98), (.i64, 86), (.i64, 76), (.i64, 67), (.i64, 59), (.i64, 52), (.i64, 46), (.i64, 41), (.i64, 36)] cs0 with | some ([.int .i64 x0, .own q5], [.int .u64 x1, .int .u64 x2, .own q6, .int .i64 x3, .int .u64 x4, .int .i64 x5, .bool x6, .bool x7]) => bif Nat.beq q0 0 && Nat.beq q1 0 && Nat.beq q2 168 && Nat.beq q3 3 && Nat.beq q4 5 && Nat.beq q5 1 && Nat.beq q6 2 then F x0 x1 x2 x3 x4 x5 x6 x7 x8 x9 (fun r => match r with | (r0, r1, r2, r3, r4, r5, r6, r7, r8, r9, r10, r11) => k (.agg [.int .i64 r0, .own 3], [.cells 168 (.int .i64 r1 :: .own 1 :: .int .i64 2048 :: .int .i64 1792 :: .int .i64 1568 :: .int .i64 1372 :: .int .i64 1201 :: .int .i64 1051 :: .int .i64 920 :: .int .i64 805 :: .int .i64 705 :: .int .i64 617 :: .int .i64 540 :: .int .i64 473 :: .int .i64 414 :: .int .i64 363 :: .int .i64 318 :: .int .i64 279 :: .int .i64 245 :: .int .i64 215 :: .int .i64 189 :: .int .i64 166 :: .int .i64 146 :: .int .i64 128 :: .int .i64 112 :: .int .i64 98 :: .int .i64 86 :: .int .i64 76 :: .int .i64 67 :: .int .i64 59 :: .int .i64 52 :: .int .i64 46 :: .int .i64 41 :: .int .i64 36 :: .int .u64 r2 :: .int .u64 r3 :: .own 2 :: .int .i64 r4 :: .int .u64 r5 :: .int .i64 r6 :: .bool r7 :: .bool r8 :: []), .vec 3 (.int .i64) r9 false, .vec 5 (.int .u8) r10 false, .vec 3 (.int .i64) r11 true])) else none | _ => none)
  | _, _ => none
noncomputable def spec76_40a (fuel : Nat) : Ev.Spec := spg76_40a (F_coder_Decoder_Model_40a fuel)
theorem ok76_40a (fuel : Nat) : FnOK Tryz.prog 76 (spec76_40a fuel) := by
  intro args objs kk r h
  unfold spec76_40a spg76_40a at h
  split at h
  · skip
    split at h
    rotate_left 1
    · cases h
    rename_i hsp
    have esp := splitRun_eq hsp
    subst esp
    obtain ⟨hb, h⟩ := cond_some' h
    simp only [Bool.and_eq_true, Nat.beq_eq, decide_eq_true_eq] at hb
    obtain ⟨⟨⟨⟨⟨⟨rfl, rfl⟩, rfl⟩, rfl⟩, rfl⟩, rfl⟩, rfl⟩ := hb
    exact fok76_40a fuel _ _ kk r ((F76_40a_eq fuel _ _ _ _ _ _ _ _ _ _ kk).trans h)
  · cases h
end Go.Proofs.YtmjeeaemmbkioaaGreat

set_option linter.unusedVariables false
set_option linter.unusedSimpArgs false
set_option maxRecDepth 100000
set_option maxHeartbeats 2000000
namespace Go.Proofs.YtmjeeaemmbkioaaGreat
open Go Ev
def kp124_975 (i : Nat) : Option (List Nat) := Ev.look i []
noncomputable def Gg124_975 (f : Nat) : Option Ev.Spec := Ev.look f []
noncomputable def G124_975 (fuel : Nat) : Nat → Option Ev.Spec := Gg124_975
noncomputable def J124_975 (fuel : Nat) (i : Nat) : Option Ev.Blk := Ev.look i []
noncomputable def F_coder_Decoder_none_975 (fuel : Nat)  (k0 : (Bool) → Option Ans) : Option Ans :=
  k0 Bool.true
abbrev YF124_975 : Type := ((Bool) → Option Ans) → Option Ans
theorem F124_975_eq (fuel : Nat)  (k : Ev.Cont) : evalFn tab (G124_975 fuel) (J124_975 fuel) kp124_975 fuel Tryz.f124 [.c (.nilptr)] [] k = F_coder_Decoder_none_975 fuel  (fun r => match r with | r0 => k (.c (.bool r0), [])) := by
  kernel_rfl
theorem hG124_975 (fuel : Nat) : GOK Tryz.prog (G124_975 fuel) :=
  gok_nil
theorem fok124_975 (fuel : Nat) : FnOK Tryz.prog 124 (evalFn tab (G124_975 fuel) (J124_975 fuel) kp124_975 fuel Tryz.f124) :=
  fn_ok tab_ok (hG124_975 fuel) mixed Tryz.func124 (c := (Tryz.f124.body).getD .skip) rfl (fun q hq => by
    rw [(by kernel_rfl : obl (J124_975 fuel) ((Tryz.f124.body).getD .skip) = [])] at hq
    cases hq)
noncomputable def mt124_975 : List Ev.SV → List Ev.Ob → Bool := fun args objs => match args, objs with
  | [.c (.nilptr)], [] => true
  | _, _ => false
noncomputable def spg124_975 (F : YF124_975) : Ev.Spec := fun args objs k => match args, objs with
  | [.c (.nilptr)], [] => bif true then F  (fun r => match r with | r0 => k (.c (.bool r0), [])) else none
  | _, _ => none
noncomputable def spec124_975 (fuel : Nat) : Ev.Spec := spg124_975 (F_coder_Decoder_none_975 fuel)
theorem ok124_975 (fuel : Nat) : FnOK Tryz.prog 124 (spec124_975 fuel) := by
  intro args objs kk r h
  unfold spec124_975 spg124_975 at h
  split at h
  · skip
    obtain ⟨hb, h⟩ := cond_some' h
    simp only [Bool.and_eq_true, Nat.beq_eq, decide_eq_true_eq] at hb
    clear hb
    exact fok124_975 fuel _ _ kk r ((F124_975_eq fuel kk).trans h)
  · cases h
end Go.Proofs.YtmjeeaemmbkioaaGreat

set_option linter.unusedVariables false
set_option linter.unusedSimpArgs false
set_option maxRecDepth 100000
set_option maxHeartbeats 2000000
namespace Go.Proofs.YtmjeeaemmbkioaaGreat
open Go Ev
def kp76_975 (i : Nat) : Option (List Nat) := Ev.look i []
noncomputable def Gg76_975 (f124_975 : YF124_975) (f : Nat) : Option Ev.Spec := Ev.look f [(124, spg124_975 f124_975)]
noncomputable def G76_975 (fuel : Nat) : Nat → Option Ev.Spec := Gg76_975 (F_coder_Decoder_none_975 fuel)
noncomputable def J76_975 (fuel : Nat) (i : Nat) : Option Ev.Blk := Ev.look i []
noncomputable def F_coder_Decoder_Model_975 (fuel : Nat)  (k0 : (Int × (List Int)) → Option Ans) : Option Ans :=
  (F_coder_Decoder_none_975 fuel
    (fun y2 =>
      bif y2 then
      k0 ((0 : Int), [])
      else none))
abbrev YF76_975 : Type := ((Int × (List Int)) → Option Ans) → Option Ans
theorem F76_975_eqg (fuel : Nat) (f124_975 : YF124_975)  (k : Ev.Cont) : evalFn tab (Gg76_975 f124_975) (J76_975 fuel) kp76_975 fuel Tryz.f76 [.c (.nilptr)] [] k = (fun  (k0 : (Int × (List Int)) → Option Ans) =>
  (f124_975
    (fun y2 =>
      bif y2 then
      k0 ((0 : Int), [])
      else none))) (fun r => match r with | (r0, r1) => k (.agg [.int .i64 r0, .own 0], [.vec 3 (.int .i64) r1 true])) := by
  kernel_rfl
theorem F76_975_eq (fuel : Nat)  (k : Ev.Cont) : evalFn tab (G76_975 fuel) (J76_975 fuel) kp76_975 fuel Tryz.f76 [.c (.nilptr)] [] k = F_coder_Decoder_Model_975 fuel  (fun r => match r with | (r0, r1) => k (.agg [.int .i64 r0, .own 0], [.vec 3 (.int .i64) r1 true])) :=
  F76_975_eqg fuel (F_coder_Decoder_none_975 fuel)  k
theorem hG76_975 (fuel : Nat) : GOK Tryz.prog (G76_975 fuel) :=
  gok_cons ⟨ok124_975 fuel, enters_of Tryz.func124 (by kernel_rfl) rfl⟩ <|
  gok_nil
theorem fok76_975 (fuel : Nat) : FnOK Tryz.prog 76 (evalFn tab (G76_975 fuel) (J76_975 fuel) kp76_975 fuel Tryz.f76) :=
  fn_ok tab_ok (hG76_975 fuel) mixed Tryz.func76 (c := (Tryz.f76.body).getD .skip) rfl (fun q hq => by
    rw [(by kernel_rfl : obl (J76_975 fuel) ((Tryz.f76.body).getD .skip) = [])] at hq
    cases hq)
noncomputable def mt76_975 : List Ev.SV → List Ev.Ob → Bool := fun args objs => match args, objs with
  | [.c (.nilptr)], [] => true
  | _, _ => false
noncomputable def spg76_975 (F : YF76_975) : Ev.Spec := fun args objs k => match args, objs with
  | [.c (.nilptr)], [] => bif true then F  (fun r => match r with | (r0, r1) => k (.agg [.int .i64 r0, .own 0], [.vec 3 (.int .i64) r1 true])) else none
  | _, _ => none
noncomputable def spec76_975 (fuel : Nat) : Ev.Spec := spg76_975 (F_coder_Decoder_Model_975 fuel)
theorem ok76_975 (fuel : Nat) : FnOK Tryz.prog 76 (spec76_975 fuel) := by
  intro args objs kk r h
  unfold spec76_975 spg76_975 at h
  split at h
  · skip
    obtain ⟨hb, h⟩ := cond_some' h
    simp only [Bool.and_eq_true, Nat.beq_eq, decide_eq_true_eq] at hb
    clear hb
    exact fok76_975 fuel _ _ kk r ((F76_975_eq fuel kk).trans h)
  · cases h
end Go.Proofs.YtmjeeaemmbkioaaGreat

set_option linter.unusedVariables false
set_option linter.unusedSimpArgs false
set_option maxRecDepth 100000
set_option maxHeartbeats 2000000
namespace Go.Proofs.YtmjeeaemmbkioaaGreat
open Go Ev
def kp84 (i : Nat) : Option (List Nat) := Ev.look i []
noncomputable def Gg84 (f : Nat) : Option Ev.Spec := Ev.look f []
noncomputable def G84 (fuel : Nat) : Nat → Option Ev.Spec := Gg84
noncomputable def J84 (fuel : Nat) (i : Nat) : Option Ev.Blk := Ev.look i []
noncomputable def F_coder_New (fuel : Nat) (x0 : Int) (x1 : Int) (k0 : (Int × Int × (List Int)) → Option Ans) : Option Ans :=
  bif x0 != (0 : Int) then
   bif x0 != (1 : Int) then
    k0 ((0 : Int), (2 : Int), [])
   else
    bif Decidable.decide (x1 < (0 : Int)) then
     k0 ((0 : Int), (2 : Int), [])
    else
     bif Decidable.decide (x1 > (8192 : Int)) then
      k0 ((0 : Int), (2 : Int), [])
     else
      bif Decidable.decide ((0 : Int) ≤ x1 ∧ x1 = x1 ∧ (↑(8 : Nat) : Int) * x1 ≤ (281474976710656 : Int) ∧ x1 ≤ (281474976710656 : Int)) then
      k0 (x0, (0 : Int), List.replicate x1.toNat (0 : Int))
      else none
  else
   bif Decidable.decide (x1 < (0 : Int)) then
    k0 ((0 : Int), (2 : Int), [])
   else
    bif Decidable.decide (x1 > (8192 : Int)) then
     k0 ((0 : Int), (2 : Int), [])
    else
     bif Decidable.decide ((0 : Int) ≤ x1 ∧ x1 = x1 ∧ (↑(8 : Nat) : Int) * x1 ≤ (281474976710656 : Int) ∧ x1 ≤ (281474976710656 : Int)) then
     k0 (x0, (0 : Int), List.replicate x1.toNat (0 : Int))
     else none
abbrev YF84 : Type := (Int) → (Int) → ((Int × Int × (List Int)) → Option Ans) → Option Ans
theorem F84_eq (fuel : Nat) (x0 : Int) (x1 : Int) (k : Ev.Cont) : evalFn tab (G84 fuel) (J84 fuel) kp84 fuel Tryz.f84 [.c (.int .i64 x0), .c (.int .i64 x1)] [] k = F_coder_New fuel x0 x1 (fun r => match r with | (r0, r1, r2) => k (.tup [(true, [.int .i64 r0, .own 0]), (false, [.int .i64 r1])], [.vec 3 (.int .i64) r2 true])) := by
  kernel_rfl
theorem hG84 (fuel : Nat) : GOK Tryz.prog (G84 fuel) :=
  gok_nil
theorem fok84 (fuel : Nat) : FnOK Tryz.prog 84 (evalFn tab (G84 fuel) (J84 fuel) kp84 fuel Tryz.f84) :=
  fn_ok tab_ok (hG84 fuel) mixed Tryz.func84 (c := (Tryz.f84.body).getD .skip) rfl (fun q hq => by
    rw [(by kernel_rfl : obl (J84 fuel) ((Tryz.f84.body).getD .skip) = [])] at hq
    cases hq)
noncomputable def mt84 : List Ev.SV → List Ev.Ob → Bool := fun args objs => match args, objs with
  | [.c (.int .i64 _), .c (.int .i64 _)], [] => true
  | _, _ => false
noncomputable def spg84 (F : YF84) : Ev.Spec := fun args objs k => match args, objs with
  | [.c (.int .i64 x0), .c (.int .i64 x1)], [] => bif true then F x0 x1 (fun r => match r with | (r0, r1, r2) => k (.tup [(true, [.int .i64 r0, .own 0]), (false, [.int .i64 r1])], [.vec 3 (.int .i64) r2 true])) else none
  | _, _ => none
noncomputable def spec84 (fuel : Nat) : Ev.Spec := spg84 (F_coder_New fuel)
theorem ok84 (fuel : Nat) : FnOK Tryz.prog 84 (spec84 fuel) := by
  intro args objs kk r h
  unfold spec84 spg84 at h
  split at h
  · skip
    obtain ⟨hb, h⟩ := cond_some' h
    simp only [Bool.and_eq_true, Nat.beq_eq, decide_eq_true_eq] at hb
    clear hb
    exact fok84 fuel _ _ kk r ((F84_eq fuel _ _ kk).trans h)
  · cases h
end Go.Proofs.YtmjeeaemmbkioaaGreat

set_option linter.unusedVariables false
set_option linter.unusedSimpArgs false
set_option maxRecDepth 100000
set_option maxHeartbeats 2000000
namespace Go.Proofs.YtmjeeaemmbkioaaGreat
open Go Ev
def kp130_9ef (i : Nat) : Option (List Nat) := Ev.look i [(6, [0]), (100001, []), (400001, [6])]
noncomputable def Gg130_9ef (f117_975 : YF117_975) (f : Nat) : Option Ev.Spec := Ev.look f [(117, spg117_975 f117_975)]
noncomputable def G130_9ef (fuel : Nat) : Nat → Option Ev.Spec := Gg130_9ef (F_coder_Encoder_none_975 fuel)
noncomputable def J130_9ef (fuel : Nat) (i : Nat) : Option Ev.Blk := Ev.look i []
noncomputable def F_coder_Encoder_Put_9ef (fuel : Nat) (x0 : Int) (x1 : Int) (k0 : (Int) → Option Ans) : Option Ans :=
  (F_coder_Encoder_none_975 fuel
    (fun y2 =>
      bif y2 then
       k0 ((7 : Int))
      else
       bif Decidable.decide (x0 < (0 : Int)) then
       k0 ((2 : Int))
       else none))
abbrev YF130_9ef : Type := (Int) → (Int) → ((Int) → Option Ans) → Option Ans
theorem F130_9ef_eqg (fuel : Nat) (f117_975 : YF117_975) (x0 : Int) (x1 : Int) (k : Ev.Cont) : evalFn tab (Gg130_9ef f117_975) (J130_9ef fuel) kp130_9ef fuel Tryz.f130 [.c (.nilptr), .c (.int .i64 x0), .c (.int .i64 x1)] [] k = (fun  (k0 : (Int) → Option Ans) =>
  (f117_975
    (fun y2 =>
      bif y2 then
       k0 ((7 : Int))
      else
       bif Decidable.decide (x0 < (0 : Int)) then
       k0 ((2 : Int))
       else none))) (fun r => match r with | r0 => k (.c (.int .i64 r0), [])) := by
  kernel_rfl
theorem F130_9ef_eq (fuel : Nat) (x0 : Int) (x1 : Int) (k : Ev.Cont) : evalFn tab (G130_9ef fuel) (J130_9ef fuel) kp130_9ef fuel Tryz.f130 [.c (.nilptr), .c (.int .i64 x0), .c (.int .i64 x1)] [] k = F_coder_Encoder_Put_9ef fuel x0 x1 (fun r => match r with | r0 => k (.c (.int .i64 r0), [])) :=
  F130_9ef_eqg fuel (F_coder_Encoder_none_975 fuel) x0 x1 k
theorem hG130_9ef (fuel : Nat) : GOK Tryz.prog (G130_9ef fuel) :=
  gok_cons ⟨ok117_975 fuel, enters_of Tryz.func117 (by kernel_rfl) rfl⟩ <|
  gok_nil
theorem fok130_9ef (fuel : Nat) : FnOK Tryz.prog 130 (evalFn tab (G130_9ef fuel) (J130_9ef fuel) kp130_9ef fuel Tryz.f130) :=
  fn_ok tab_ok (hG130_9ef fuel) mixed Tryz.func130 (c := (Tryz.f130.body).getD .skip) rfl (fun q hq => by
    rw [(by kernel_rfl : obl (J130_9ef fuel) ((Tryz.f130.body).getD .skip) = [])] at hq
    cases hq)
noncomputable def mt130_9ef : List Ev.SV → List Ev.Ob → Bool := fun args objs => match args, objs with
  | [.c (.nilptr), .c (.int .i64 _), .c (.int .i64 _)], [] => true
  | _, _ => false
noncomputable def spg130_9ef (F : YF130_9ef) : Ev.Spec := fun args objs k => match args, objs with
  | [.c (.nilptr), .c (.int .i64 x0), .c (.int .i64 x1)], [] => bif true then F x0 x1 (fun r => match r with | r0 => k (.c (.int .i64 r0), [])) else none
  | _, _ => none
noncomputable def spec130_9ef (fuel : Nat) : Ev.Spec := spg130_9ef (F_coder_Encoder_Put_9ef fuel)
theorem ok130_9ef (fuel : Nat) : FnOK Tryz.prog 130 (spec130_9ef fuel) := by
  intro args objs kk r h
  unfold spec130_9ef spg130_9ef at h
  split at h
  · skip
    obtain ⟨hb, h⟩ := cond_some' h
    simp only [Bool.and_eq_true, Nat.beq_eq, decide_eq_true_eq] at hb
    clear hb
    exact fok130_9ef fuel _ _ kk r ((F130_9ef_eq fuel _ _ kk).trans h)
  · cases h
end Go.Proofs.YtmjeeaemmbkioaaGreat

set_option linter.unusedVariables false
set_option linter.unusedSimpArgs false
set_option maxRecDepth 100000
set_option maxHeartbeats 2000000
namespace Go.Proofs.YtmjeeaemmbkioaaGreat
open Go Ev
def kp133 (i : Nat) : Option (List Nat) := Ev.look i []
noncomputable def Gg133 (f : Nat) : Option Ev.Spec := Ev.look f []
noncomputable def G133 (fuel : Nat) : Nat → Option Ev.Spec := Gg133
noncomputable def J133 (fuel : Nat) (i : Nat) : Option Ev.Blk := Ev.look i []
noncomputable def F_number_Valid (fuel : Nat) (x0 : Bool) (x1 : Int) (k0 : (Bool) → Option Ans) : Option Ans :=
  bif x0 then
   k0 (x1 == (0 : Int))
  else
   bif Decidable.decide (x1 ≥ (-1048576 : Int)) then
    k0 (Decidable.decide (x1 ≤ (1048576 : Int)))
   else
    k0 Bool.false
abbrev YF133 : Type := (Bool) → (Int) → ((Bool) → Option Ans) → Option Ans
theorem F133_eq (fuel : Nat) (x0 : Bool) (x1 : Int) (k : Ev.Cont) : evalFn tab (G133 fuel) (J133 fuel) kp133 fuel Tryz.f133 [.agg [.bool x0, .int .i64 x1]] [] k = F_number_Valid fuel x0 x1 (fun r => match r with | r0 => k (.c (.bool r0), [])) := by
  kernel_rfl
theorem hG133 (fuel : Nat) : GOK Tryz.prog (G133 fuel) :=
  gok_nil
theorem fok133 (fuel : Nat) : FnOK Tryz.prog 133 (evalFn tab (G133 fuel) (J133 fuel) kp133 fuel Tryz.f133) :=
  fn_ok tab_ok (hG133 fuel) mixed Tryz.func133 (c := (Tryz.f133.body).getD .skip) rfl (fun q hq => by
    rw [(by kernel_rfl : obl (J133 fuel) ((Tryz.f133.body).getD .skip) = [])] at hq
    cases hq)
noncomputable def mt133 : List Ev.SV → List Ev.Ob → Bool := fun args objs => match args, objs with
  | [.agg [.bool _, .int .i64 _]], [] => true
  | _, _ => false
noncomputable def spg133 (F : YF133) : Ev.Spec := fun args objs k => match args, objs with
  | [.agg [.bool x0, .int .i64 x1]], [] => bif true then F x0 x1 (fun r => match r with | r0 => k (.c (.bool r0), [])) else none
  | _, _ => none
noncomputable def spec133 (fuel : Nat) : Ev.Spec := spg133 (F_number_Valid fuel)
theorem ok133 (fuel : Nat) : FnOK Tryz.prog 133 (spec133 fuel) := by
  intro args objs kk r h
  unfold spec133 spg133 at h
  split at h
  · skip
    obtain ⟨hb, h⟩ := cond_some' h
    simp only [Bool.and_eq_true, Nat.beq_eq, decide_eq_true_eq] at hb
    clear hb
    exact fok133 fuel _ _ kk r ((F133_eq fuel _ _ kk).trans h)
  · cases h
end Go.Proofs.YtmjeeaemmbkioaaGreat

set_option linter.unusedVariables false
set_option linter.unusedSimpArgs false
set_option maxRecDepth 100000
set_option maxHeartbeats 2000000
namespace Go.Proofs.YtmjeeaemmbkioaaGreat
open Go Ev
def kp172 (i : Nat) : Option (List Nat) := Ev.look i []
noncomputable def Gg172 (f : Nat) : Option Ev.Spec := Ev.look f []
noncomputable def G172 (fuel : Nat) : Nat → Option Ev.Spec := Gg172
noncomputable def J172 (fuel : Nat) (i : Nat) : Option Ev.Blk := Ev.look i []
noncomputable def F_number_tail_take (fuel : Nat) (x0 : Int) (k0 : (Int × Int) → Option Ans) : Option Ans :=
  k0 (x0, bif Decidable.decide ((47 : Int) < Go.IntKind.i64.wrap (x0 + (1 : Int))) then (47 : Int) else Go.IntKind.i64.wrap (x0 + (1 : Int)))
abbrev YF172 : Type := (Int) → ((Int × Int) → Option Ans) → Option Ans
theorem F172_eq (fuel : Nat) (x0 : Int) (k : Ev.Cont) : evalFn tab (G172 fuel) (J172 fuel) kp172 fuel Tryz.f172 [.c (.ptr 0 0)] [.cells 221 [.int .i64 x0]] k = F_number_tail_take fuel x0 (fun r => match r with | (r0, r1) => k (.c (.int .i64 r0), [.cells 221 [.int .i64 r1]])) := by
  kernel_rfl
theorem hG172 (fuel : Nat) : GOK Tryz.prog (G172 fuel) :=
  gok_nil
theorem fok172 (fuel : Nat) : FnOK Tryz.prog 172 (evalFn tab (G172 fuel) (J172 fuel) kp172 fuel Tryz.f172) :=
  fn_ok tab_ok (hG172 fuel) mixed Tryz.func172 (c := (Tryz.f172.body).getD .skip) rfl (fun q hq => by
    rw [(by kernel_rfl : obl (J172 fuel) ((Tryz.f172.body).getD .skip) = [])] at hq
    cases hq)
noncomputable def mt172 : List Ev.SV → List Ev.Ob → Bool := fun args objs => match args, objs with
  | [.c (.ptr q0 q1)], [.cells q2 [.int .i64 _]] => Nat.beq q0 0 && Nat.beq q1 0 && Nat.beq q2 221
  | _, _ => false
noncomputable def spg172 (F : YF172) : Ev.Spec := fun args objs k => match args, objs with
  | [.c (.ptr q0 q1)], [.cells q2 [.int .i64 x0]] => bif Nat.beq q0 0 && Nat.beq q1 0 && Nat.beq q2 221 then F x0 (fun r => match r with | (r0, r1) => k (.c (.int .i64 r0), [.cells 221 [.int .i64 r1]])) else none
  | _, _ => none
noncomputable def spec172 (fuel : Nat) : Ev.Spec := spg172 (F_number_tail_take fuel)
theorem ok172 (fuel : Nat) : FnOK Tryz.prog 172 (spec172 fuel) := by
  intro args objs kk r h
  unfold spec172 spg172 at h
  split at h
  · skip
    obtain ⟨hb, h⟩ := cond_some' h
    simp only [Bool.and_eq_true, Nat.beq_eq, decide_eq_true_eq] at hb
    obtain ⟨⟨rfl, rfl⟩, rfl⟩ := hb
    exact fok172 fuel _ _ kk r ((F172_eq fuel _ kk).trans h)
  · cases h
end Go.Proofs.YtmjeeaemmbkioaaGreat

set_option linter.unusedVariables false
set_option linter.unusedSimpArgs false
set_option maxRecDepth 100000
set_option maxHeartbeats 2000000
namespace Go.Proofs.YtmjeeaemmbkioaaGreat
open Go Ev
def kp136 (i : Nat) : Option (List Nat) := Ev.look i [(7, [0, 3, 5, 6, 7, 32, 33]), (15, [0, 3, 5, 6, 7, 9, 10]), (100000, [0, 3, 5, 6, 7]), (100002, [0, 3, 5]), (400000, [4]), (400002, [4])]
noncomputable def Gg136 (f107 : YF107) (f172 : YF172) (f : Nat) : Option Ev.Spec := Ev.look f [(107, spg107 f107), (172, spg172 f172)]
noncomputable def G136 (fuel : Nat) : Nat → Option Ev.Spec := Gg136 (F_math_bits_Len fuel) (F_number_tail_take fuel)
noncomputable def S_number_events_0 (fuel : Nat) (v : Int × Int × Int × Int × Int × Bool × Int × (List (Int × Int))) (c : (Int × Int × Int × Int × Int × Bool × Int × (List (Int × Int))) → Option Ans) (B : (Int × Int × Int × Bool × Int × (List (Int × Int)) → Option Ans)) : Option Ans := match v, B with
  | (x0, x1, x2, x3, x4, x5, x6, x7), b =>
   bif Decidable.decide (x4 < x3) then
      bif Decidable.decide ((x7.length + [(Go.IntKind.i64.wrap (Go.IntKind.i64.wrap (x0 + (1 : Int)) + x4), (1 : Int))].length) * (16 : Nat) ≤ (140737488355328 : Nat) ∧ x7.length + [(Go.IntKind.i64.wrap (Go.IntKind.i64.wrap (x0 + (1 : Int)) + x4), (1 : Int))].length ≤ (140737488355328 : Nat)) then
      c (x0, x1, x2, x3, Go.IntKind.i64.wrap (x4 + (1 : Int)), x5, x6, x7 ++ [(Go.IntKind.i64.wrap (Go.IntKind.i64.wrap (x0 + (1 : Int)) + x4), (1 : Int))])
      else none
     else
      b (x0, x1, x2, x5, x6, x7)
noncomputable def L_number_events_0 (fuel : Nat) (v : Int × Int × Int × Int × Int × Bool × Int × (List (Int × Int))) (b : (Int × Int × Int × Bool × Int × (List (Int × Int)) → Option Ans)) : Option Ans := iter (S_number_events_0 fuel) fuel v b
noncomputable def J136_0 (fuel : Nat) (i : Nat) : Option Ev.Blk := Ev.look i []
noncomputable def T136_0 (v : Int × Int × Int × Int × Int × Bool × Int × (List (Int × Int))) : Ev.St := match v with | (x0, x1, x2, x3, x4, x5, x6, x7) => ⟨[(0, .c (.int .i64 x0)), (3, .c (.ptr 0 0)), (5, .c (.own 1)), (6, .c (.int .i64 x1)), (7, .c (.int .i64 x2)), (32, .c (.int .i64 x3)), (33, .c (.int .i64 x4))], [(0, .cells 138 [.bool x5, .int .i64 x6]), (1, .vec 205 (.pair (.int .i64) (.int .i64)) x7 true)], 2, 0⟩
noncomputable def E136_0 (K : Ev.Ex → Ev.St → Option Ans) : (Int × Int × Int × Bool × Int × (List (Int × Int)) → Option Ans) := (fun v => match v with | (x0, x1, x2, x3, x4, x5) => K .normal ⟨[(0, .c (.int .i64 x0)), (3, .c (.ptr 0 0)), (5, .c (.own 1)), (6, .c (.int .i64 x1)), (7, .c (.int .i64 x2))], [(0, .cells 138 [.bool x3, .int .i64 x4]), (1, .vec 205 (.pair (.int .i64) (.int .i64)) x5 true)], 2, 0⟩)
theorem S136_0_okg (fuel : Nat) (f107 : YF107) (f172 : YF172) (R : Ev.St → Option Ans) (K : Ev.Ex → Ev.St → Option Ans) (x0 : Int) (x1 : Int) (x2 : Int) (x3 : Int) (x4 : Int) (x5 : Bool) (x6 : Int) (x7 : (List (Int × Int))) : evalCode tab (Gg136 f107 f172) (J136_0 fuel) kp136 fuel (bodyOf 0 Tryz.f136) (T136_0 (x0, x1, x2, x3, x4, x5, x6, x7)) (lc kp136 7 0 R K) = (fun (c : (Int × Int × Int × Int × Int × Bool × Int × (List (Int × Int))) → Option Ans) (B : (Int × Int × Int × Bool × Int × (List (Int × Int)) → Option Ans)) => match B with
  | b =>
   bif Decidable.decide (x4 < x3) then
      bif Decidable.decide ((x7.length + [(Go.IntKind.i64.wrap (Go.IntKind.i64.wrap (x0 + (1 : Int)) + x4), (1 : Int))].length) * (16 : Nat) ≤ (140737488355328 : Nat) ∧ x7.length + [(Go.IntKind.i64.wrap (Go.IntKind.i64.wrap (x0 + (1 : Int)) + x4), (1 : Int))].length ≤ (140737488355328 : Nat)) then
      c (x0, x1, x2, x3, Go.IntKind.i64.wrap (x4 + (1 : Int)), x5, x6, x7 ++ [(Go.IntKind.i64.wrap (Go.IntKind.i64.wrap (x0 + (1 : Int)) + x4), (1 : Int))])
      else none
     else
      b (x0, x1, x2, x5, x6, x7)) (fun v => R (T136_0 v)) (E136_0 K) := by
  kernel_rfl
theorem S136_0_ok (fuel : Nat) (R : Ev.St → Option Ans) (K : Ev.Ex → Ev.St → Option Ans) (x0 : Int) (x1 : Int) (x2 : Int) (x3 : Int) (x4 : Int) (x5 : Bool) (x6 : Int) (x7 : (List (Int × Int))) : evalCode tab (G136 fuel) (J136_0 fuel) kp136 fuel (bodyOf 0 Tryz.f136) (T136_0 (x0, x1, x2, x3, x4, x5, x6, x7)) (lc kp136 7 0 R K) = S_number_events_0 fuel (x0, x1, x2, x3, x4, x5, x6, x7) (fun v => R (T136_0 v)) (E136_0 K) :=
  S136_0_okg fuel (F_math_bits_Len fuel) (F_number_tail_take fuel) R K x0 x1 x2 x3 x4 x5 x6 x7
noncomputable def B136_0 (fuel : Nat) : Ev.Blk := fun st K => match canonO (kp136 7) st with
  | some s => (match s with
    | ⟨[(q0, .c (.int .i64 x0)), (q1, .c (.ptr q2 q3)), (q4, .c (.own q5)), (q6, .c (.int .i64 x1)), (q7, .c (.int .i64 x2)), (q8, .c (.int .i64 x3)), (q9, .c (.int .i64 x4))], [(q10, .cells q11 [.bool x5, .int .i64 x6]), (q12, .vec q13 (.pair (.int .i64) (.int .i64)) x7 true)], q14, q15⟩ => bif Nat.beq q0 0 && Nat.beq q1 3 && Nat.beq q2 0 && Nat.beq q3 0 && Nat.beq q4 5 && Nat.beq q5 1 && Nat.beq q6 6 && Nat.beq q7 7 && Nat.beq q8 32 && Nat.beq q9 33 && Nat.beq q10 0 && Nat.beq q11 138 && Nat.beq q12 1 && Nat.beq q13 205 && Nat.beq q14 2 && Nat.beq q15 0 then iter (S_number_events_0 fuel) fuel (x0, x1, x2, x3, x4, x5, x6, x7) (E136_0 K) else none
    | _ => none)
  | none => none
theorem B136_0_ok (fuel : Nat) (st : Ev.St) (K : Ev.Ex → Ev.St → Option Ans) (r : Ans) (h : B136_0 fuel st K = some r) : evalCode tab (G136 fuel) (J136_0 fuel) kp136 fuel (.block 0 (.loop (bodyOf 0 Tryz.f136))) st K = some r := by
  unfold B136_0 at h
  split at h
  · rename_i s hs
    split at h
    · skip
      obtain ⟨hb, h⟩ := cond_some' h
      simp only [Bool.and_eq_true, Nat.beq_eq, decide_eq_true_eq] at hb
      obtain ⟨⟨⟨⟨⟨⟨⟨⟨⟨⟨⟨⟨⟨⟨⟨rfl, rfl⟩, rfl⟩, rfl⟩, rfl⟩, rfl⟩, rfl⟩, rfl⟩, rfl⟩, rfl⟩, rfl⟩, rfl⟩, rfl⟩, rfl⟩, rfl⟩, rfl⟩ := hb
      exact blk_loop (S := T136_0) (ks := E136_0) (step := S_number_events_0 fuel) (v := (_, _, _, _, _, _, _, _)) (by kernel_rfl) (by kernel_rfl) (fun R K v => by obtain ⟨x0, x1, x2, x3, x4, x5, x6, x7⟩ := v; exact S136_0_ok fuel R K x0 x1 x2 x3 x4 x5 x6 x7) hs h
    · cases h
  · cases h
noncomputable def S_number_events_2 (fuel : Nat) (v : Int × Int × Int × Int × Bool × Int × (List (Int × Int)) × Int) (c : (Int × Int × Int × Int × Bool × Int × (List (Int × Int)) × Int) → Option Ans) (B : (Int × Bool × Int × (List (Int × Int)) → Option Ans)) : Option Ans := match v, B with
  | (x0, x1, x2, x3, x4, x5, x6, x7), b =>
   bif Decidable.decide (x3 ≥ (0 : Int)) then
      bif Decidable.decide (x3 < Go.IntKind.i64.wrap (x2 - (1 : Int))) then
       (F_number_tail_take fuel (x7)
         (fun (y4_0, y4_1) =>
           bif Decidable.decide (x3 < (0 : Int)) then
            none
           else
            bif Decidable.decide ((x6.length + [(Go.IntKind.i64.wrap (x0 + y4_0), Ev.iand Go.IntKind.i64 (Ev.ishr Go.IntKind.i64 x1 x3) (1 : Int))].length) * (16 : Nat) ≤ (140737488355328 : Nat) ∧ x6.length + [(Go.IntKind.i64.wrap (x0 + y4_0), Ev.iand Go.IntKind.i64 (Ev.ishr Go.IntKind.i64 x1 x3) (1 : Int))].length ≤ (140737488355328 : Nat)) then
            c (x0, x1, x2, Go.IntKind.i64.wrap (x3 - (1 : Int)), x4, x5, x6 ++ [(Go.IntKind.i64.wrap (x0 + y4_0), Ev.iand Go.IntKind.i64 (Ev.ishr Go.IntKind.i64 x1 x3) (1 : Int))], y4_1)
            else none))
      else
       bif Decidable.decide (x3 < (0 : Int)) then
        none
       else
        bif Decidable.decide ((x6.length + [(Go.IntKind.i64.wrap (x0 + Go.IntKind.i64.wrap ((23 : Int) + x2)), Ev.iand Go.IntKind.i64 (Ev.ishr Go.IntKind.i64 x1 x3) (1 : Int))].length) * (16 : Nat) ≤ (140737488355328 : Nat) ∧ x6.length + [(Go.IntKind.i64.wrap (x0 + Go.IntKind.i64.wrap ((23 : Int) + x2)), Ev.iand Go.IntKind.i64 (Ev.ishr Go.IntKind.i64 x1 x3) (1 : Int))].length ≤ (140737488355328 : Nat)) then
        c (x0, x1, x2, Go.IntKind.i64.wrap (x3 - (1 : Int)), x4, x5, x6 ++ [(Go.IntKind.i64.wrap (x0 + Go.IntKind.i64.wrap ((23 : Int) + x2)), Ev.iand Go.IntKind.i64 (Ev.ishr Go.IntKind.i64 x1 x3) (1 : Int))], x7)
        else none
     else
      b (x0, x4, x5, x6)
noncomputable def L_number_events_2 (fuel : Nat) (v : Int × Int × Int × Int × Bool × Int × (List (Int × Int)) × Int) (b : (Int × Bool × Int × (List (Int × Int)) → Option Ans)) : Option Ans := iter (S_number_events_2 fuel) fuel v b
noncomputable def J136_2 (fuel : Nat) (i : Nat) : Option Ev.Blk := Ev.look i [(100000, B136_0 fuel)]
noncomputable def T136_2 (v : Int × Int × Int × Int × Bool × Int × (List (Int × Int)) × Int) : Ev.St := match v with | (x0, x1, x2, x3, x4, x5, x6, x7) => ⟨[(0, .c (.int .i64 x0)), (3, .c (.ptr 0 0)), (5, .c (.own 1)), (6, .c (.int .i64 x1)), (7, .c (.int .i64 x2)), (9, .c (.ptr 2 0)), (10, .c (.int .i64 x3))], [(0, .cells 138 [.bool x4, .int .i64 x5]), (1, .vec 205 (.pair (.int .i64) (.int .i64)) x6 true), (2, .cells 221 [.int .i64 x7])], 3, 0⟩
noncomputable def E136_2 (K : Ev.Ex → Ev.St → Option Ans) : (Int × Bool × Int × (List (Int × Int)) → Option Ans) := (fun v => match v with | (x0, x1, x2, x3) => K .normal ⟨[(0, .c (.int .i64 x0)), (3, .c (.ptr 0 0)), (5, .c (.own 1))], [(0, .cells 138 [.bool x1, .int .i64 x2]), (1, .vec 205 (.pair (.int .i64) (.int .i64)) x3 true)], 2, 0⟩)
theorem S136_2_okg (fuel : Nat) (f107 : YF107) (f172 : YF172) (R : Ev.St → Option Ans) (K : Ev.Ex → Ev.St → Option Ans) (x0 : Int) (x1 : Int) (x2 : Int) (x3 : Int) (x4 : Bool) (x5 : Int) (x6 : (List (Int × Int))) (x7 : Int) : evalCode tab (Gg136 f107 f172) (J136_2 fuel) kp136 fuel (bodyOf 2 Tryz.f136) (T136_2 (x0, x1, x2, x3, x4, x5, x6, x7)) (lc kp136 15 2 R K) = (fun (c : (Int × Int × Int × Int × Bool × Int × (List (Int × Int)) × Int) → Option Ans) (B : (Int × Bool × Int × (List (Int × Int)) → Option Ans)) => match B with
  | b =>
   bif Decidable.decide (x3 ≥ (0 : Int)) then
      bif Decidable.decide (x3 < Go.IntKind.i64.wrap (x2 - (1 : Int))) then
       (f172 (x7)
         (fun (y4_0, y4_1) =>
           bif Decidable.decide (x3 < (0 : Int)) then
            none
           else
            bif Decidable.decide ((x6.length + [(Go.IntKind.i64.wrap (x0 + y4_0), Ev.iand Go.IntKind.i64 (Ev.ishr Go.IntKind.i64 x1 x3) (1 : Int))].length) * (16 : Nat) ≤ (140737488355328 : Nat) ∧ x6.length + [(Go.IntKind.i64.wrap (x0 + y4_0), Ev.iand Go.IntKind.i64 (Ev.ishr Go.IntKind.i64 x1 x3) (1 : Int))].length ≤ (140737488355328 : Nat)) then
            c (x0, x1, x2, Go.IntKind.i64.wrap (x3 - (1 : Int)), x4, x5, x6 ++ [(Go.IntKind.i64.wrap (x0 + y4_0), Ev.iand Go.IntKind.i64 (Ev.ishr Go.IntKind.i64 x1 x3) (1 : Int))], y4_1)
            else none))
      else
       bif Decidable.decide (x3 < (0 : Int)) then
        none
       else
        bif Decidable.decide ((x6.length + [(Go.IntKind.i64.wrap (x0 + Go.IntKind.i64.wrap ((23 : Int) + x2)), Ev.iand Go.IntKind.i64 (Ev.ishr Go.IntKind.i64 x1 x3) (1 : Int))].length) * (16 : Nat) ≤ (140737488355328 : Nat) ∧ x6.length + [(Go.IntKind.i64.wrap (x0 + Go.IntKind.i64.wrap ((23 : Int) + x2)), Ev.iand Go.IntKind.i64 (Ev.ishr Go.IntKind.i64 x1 x3) (1 : Int))].length ≤ (140737488355328 : Nat)) then
        c (x0, x1, x2, Go.IntKind.i64.wrap (x3 - (1 : Int)), x4, x5, x6 ++ [(Go.IntKind.i64.wrap (x0 + Go.IntKind.i64.wrap ((23 : Int) + x2)), Ev.iand Go.IntKind.i64 (Ev.ishr Go.IntKind.i64 x1 x3) (1 : Int))], x7)
        else none
     else
      b (x0, x4, x5, x6)) (fun v => R (T136_2 v)) (E136_2 K) := by
  kernel_rfl
theorem S136_2_ok (fuel : Nat) (R : Ev.St → Option Ans) (K : Ev.Ex → Ev.St → Option Ans) (x0 : Int) (x1 : Int) (x2 : Int) (x3 : Int) (x4 : Bool) (x5 : Int) (x6 : (List (Int × Int))) (x7 : Int) : evalCode tab (G136 fuel) (J136_2 fuel) kp136 fuel (bodyOf 2 Tryz.f136) (T136_2 (x0, x1, x2, x3, x4, x5, x6, x7)) (lc kp136 15 2 R K) = S_number_events_2 fuel (x0, x1, x2, x3, x4, x5, x6, x7) (fun v => R (T136_2 v)) (E136_2 K) :=
  S136_2_okg fuel (F_math_bits_Len fuel) (F_number_tail_take fuel) R K x0 x1 x2 x3 x4 x5 x6 x7
noncomputable def B136_2 (fuel : Nat) : Ev.Blk := fun st K => match canonO (kp136 15) st with
  | some s => (match s with
    | ⟨[(q0, .c (.int .i64 x0)), (q1, .c (.ptr q2 q3)), (q4, .c (.own q5)), (q6, .c (.int .i64 x1)), (q7, .c (.int .i64 x2)), (q8, .c (.ptr q9 q10)), (q11, .c (.int .i64 x3))], [(q12, .cells q13 [.bool x4, .int .i64 x5]), (q14, .vec q15 (.pair (.int .i64) (.int .i64)) x6 true), (q16, .cells q17 [.int .i64 x7])], q18, q19⟩ => bif Nat.beq q0 0 && Nat.beq q1 3 && Nat.beq q2 0 && Nat.beq q3 0 && Nat.beq q4 5 && Nat.beq q5 1 && Nat.beq q6 6 && Nat.beq q7 7 && Nat.beq q8 9 && Nat.beq q9 2 && Nat.beq q10 0 && Nat.beq q11 10 && Nat.beq q12 0 && Nat.beq q13 138 && Nat.beq q14 1 && Nat.beq q15 205 && Nat.beq q16 2 && Nat.beq q17 221 && Nat.beq q18 3 && Nat.beq q19 0 then iter (S_number_events_2 fuel) fuel (x0, x1, x2, x3, x4, x5, x6, x7) (E136_2 K) else none
    | _ => none)
  | none => none
theorem B136_2_ok (fuel : Nat) (st : Ev.St) (K : Ev.Ex → Ev.St → Option Ans) (r : Ans) (h : B136_2 fuel st K = some r) : evalCode tab (G136 fuel) (J136_2 fuel) kp136 fuel (.block 2 (.loop (bodyOf 2 Tryz.f136))) st K = some r := by
  unfold B136_2 at h
  split at h
  · rename_i s hs
    split at h
    · skip
      obtain ⟨hb, h⟩ := cond_some' h
      simp only [Bool.and_eq_true, Nat.beq_eq, decide_eq_true_eq] at hb
      obtain ⟨⟨⟨⟨⟨⟨⟨⟨⟨⟨⟨⟨⟨⟨⟨⟨⟨⟨⟨rfl, rfl⟩, rfl⟩, rfl⟩, rfl⟩, rfl⟩, rfl⟩, rfl⟩, rfl⟩, rfl⟩, rfl⟩, rfl⟩, rfl⟩, rfl⟩, rfl⟩, rfl⟩, rfl⟩, rfl⟩, rfl⟩, rfl⟩ := hb
      exact blk_loop (S := T136_2) (ks := E136_2) (step := S_number_events_2 fuel) (v := (_, _, _, _, _, _, _, _)) (by kernel_rfl) (by kernel_rfl) (fun R K v => by obtain ⟨x0, x1, x2, x3, x4, x5, x6, x7⟩ := v; exact S136_2_ok fuel R K x0 x1 x2 x3 x4 x5 x6 x7) hs h
    · cases h
  · cases h
noncomputable def J136 (fuel : Nat) (i : Nat) : Option Ev.Blk := Ev.look i [(100000, B136_0 fuel), (100002, B136_2 fuel)]
noncomputable def F_number_events (fuel : Nat) (x0 : Int) (x1 : Bool) (x2 : Int) (k0 : ((List (Int × Int))) → Option Ans) : Option Ans :=
  bif x1 then
   k0 ([(x0, (1 : Int))])
  else
   (F_math_bits_Len fuel (Go.IntKind.u64.wrap (Go.IntKind.i64.wrap ((bif Decidable.decide (Go.IntKind.i64.wrap ((0 : Int) - x2) > x2) then Go.IntKind.i64.wrap ((0 : Int) - x2) else x2) + (1 : Int))))
     (fun y3 =>
       (L_number_events_0 fuel (x0, Go.IntKind.i64.wrap ((bif Decidable.decide (Go.IntKind.i64.wrap ((0 : Int) - x2) > x2) then Go.IntKind.i64.wrap ((0 : Int) - x2) else x2) + (1 : Int)), Go.IntKind.i64.wrap (y3 - (1 : Int)), Go.IntKind.i64.wrap (y3 - (1 : Int)), (0 : Int), x1, x2, [(x0, (0 : Int))])
         (fun (b0_0, b0_1, b0_2, b0_3, b0_4, b0_5) =>
           bif Decidable.decide (b0_2 < (20 : Int)) then
            bif Decidable.decide ((b0_5.length + [(Go.IntKind.i64.wrap (Go.IntKind.i64.wrap (b0_0 + (1 : Int)) + b0_2), (0 : Int))].length) * (16 : Nat) ≤ (140737488355328 : Nat) ∧ b0_5.length + [(Go.IntKind.i64.wrap (Go.IntKind.i64.wrap (b0_0 + (1 : Int)) + b0_2), (0 : Int))].length ≤ (140737488355328 : Nat)) then
            (L_number_events_2 fuel (b0_0, b0_1, b0_2, Go.IntKind.i64.wrap (b0_2 - (1 : Int)), b0_3, b0_4, b0_5 ++ [(Go.IntKind.i64.wrap (Go.IntKind.i64.wrap (b0_0 + (1 : Int)) + b0_2), (0 : Int))], (44 : Int))
               (fun (b2_0, b2_1, b2_2, b2_3) =>
                 bif b2_2 != (0 : Int) then
                  bif Decidable.decide (b2_2 < (0 : Int)) then
                   bif Decidable.decide ((b2_3.length + [(Go.IntKind.i64.wrap (b2_0 + (22 : Int)), (1 : Int))].length) * (16 : Nat) ≤ (140737488355328 : Nat) ∧ b2_3.length + [(Go.IntKind.i64.wrap (b2_0 + (22 : Int)), (1 : Int))].length ≤ (140737488355328 : Nat)) then
                   k0 (b2_3 ++ [(Go.IntKind.i64.wrap (b2_0 + (22 : Int)), (1 : Int))])
                   else none
                  else
                   bif Decidable.decide ((b2_3.length + [(Go.IntKind.i64.wrap (b2_0 + (22 : Int)), (0 : Int))].length) * (16 : Nat) ≤ (140737488355328 : Nat) ∧ b2_3.length + [(Go.IntKind.i64.wrap (b2_0 + (22 : Int)), (0 : Int))].length ≤ (140737488355328 : Nat)) then
                   k0 (b2_3 ++ [(Go.IntKind.i64.wrap (b2_0 + (22 : Int)), (0 : Int))])
                   else none
                 else
                  k0 b2_3))
            else none
           else
            (L_number_events_2 fuel (b0_0, b0_1, b0_2, Go.IntKind.i64.wrap (b0_2 - (1 : Int)), b0_3, b0_4, b0_5, (44 : Int))
              (fun (b2_0, b2_1, b2_2, b2_3) =>
                bif b2_2 != (0 : Int) then
                 bif Decidable.decide (b2_2 < (0 : Int)) then
                  bif Decidable.decide ((b2_3.length + [(Go.IntKind.i64.wrap (b2_0 + (22 : Int)), (1 : Int))].length) * (16 : Nat) ≤ (140737488355328 : Nat) ∧ b2_3.length + [(Go.IntKind.i64.wrap (b2_0 + (22 : Int)), (1 : Int))].length ≤ (140737488355328 : Nat)) then
                  k0 (b2_3 ++ [(Go.IntKind.i64.wrap (b2_0 + (22 : Int)), (1 : Int))])
                  else none
                 else
                  bif Decidable.decide ((b2_3.length + [(Go.IntKind.i64.wrap (b2_0 + (22 : Int)), (0 : Int))].length) * (16 : Nat) ≤ (140737488355328 : Nat) ∧ b2_3.length + [(Go.IntKind.i64.wrap (b2_0 + (22 : Int)), (0 : Int))].length ≤ (140737488355328 : Nat)) then
                  k0 (b2_3 ++ [(Go.IntKind.i64.wrap (b2_0 + (22 : Int)), (0 : Int))])
                  else none
                else
                 k0 b2_3))))))
abbrev YF136 : Type := (Int) → (Bool) → (Int) → (((List (Int × Int))) → Option Ans) → Option Ans
theorem F136_eqg (fuel : Nat) (f107 : YF107) (f172 : YF172) (x0 : Int) (x1 : Bool) (x2 : Int) (k : Ev.Cont) : evalFn tab (Gg136 f107 f172) (J136 fuel) kp136 fuel Tryz.f136 [.c (.int .i64 x0), .agg [.bool x1, .int .i64 x2]] [] k = (fun  (k0 : ((List (Int × Int))) → Option Ans) =>
  bif x1 then
   k0 ([(x0, (1 : Int))])
  else
   (f107 (Go.IntKind.u64.wrap (Go.IntKind.i64.wrap ((bif Decidable.decide (Go.IntKind.i64.wrap ((0 : Int) - x2) > x2) then Go.IntKind.i64.wrap ((0 : Int) - x2) else x2) + (1 : Int))))
     (fun y3 =>
       (L_number_events_0 fuel (x0, Go.IntKind.i64.wrap ((bif Decidable.decide (Go.IntKind.i64.wrap ((0 : Int) - x2) > x2) then Go.IntKind.i64.wrap ((0 : Int) - x2) else x2) + (1 : Int)), Go.IntKind.i64.wrap (y3 - (1 : Int)), Go.IntKind.i64.wrap (y3 - (1 : Int)), (0 : Int), x1, x2, [(x0, (0 : Int))])
         (fun (b0_0, b0_1, b0_2, b0_3, b0_4, b0_5) =>
           bif Decidable.decide (b0_2 < (20 : Int)) then
            bif Decidable.decide ((b0_5.length + [(Go.IntKind.i64.wrap (Go.IntKind.i64.wrap (b0_0 + (1 : Int)) + b0_2), (0 : Int))].length) * (16 : Nat) ≤ (140737488355328 : Nat) ∧ b0_5.length + [(Go.IntKind.i64.wrap (Go.IntKind.i64.wrap (b0_0 + (1 : Int)) + b0_2), (0 : Int))].length ≤ (140737488355328 : Nat)) then
            (L_number_events_2 fuel (b0_0, b0_1, b0_2, Go.IntKind.i64.wrap (b0_2 - (1 : Int)), b0_3, b0_4, b0_5 ++ [(Go.IntKind.i64.wrap (Go.IntKind.i64.wrap (b0_0 + (1 : Int)) + b0_2), (0 : Int))], (44 : Int))
               (fun (b2_0, b2_1, b2_2, b2_3) =>
                 bif b2_2 != (0 : Int) then
                  bif Decidable.decide (b2_2 < (0 : Int)) then
                   bif Decidable.decide ((b2_3.length + [(Go.IntKind.i64.wrap (b2_0 + (22 : Int)), (1 : Int))].length) * (16 : Nat) ≤ (140737488355328 : Nat) ∧ b2_3.length + [(Go.IntKind.i64.wrap (b2_0 + (22 : Int)), (1 : Int))].length ≤ (140737488355328 : Nat)) then
                   k0 (b2_3 ++ [(Go.IntKind.i64.wrap (b2_0 + (22 : Int)), (1 : Int))])
                   else none
                  else
                   bif Decidable.decide ((b2_3.length + [(Go.IntKind.i64.wrap (b2_0 + (22 : Int)), (0 : Int))].length) * (16 : Nat) ≤ (140737488355328 : Nat) ∧ b2_3.length + [(Go.IntKind.i64.wrap (b2_0 + (22 : Int)), (0 : Int))].length ≤ (140737488355328 : Nat)) then
                   k0 (b2_3 ++ [(Go.IntKind.i64.wrap (b2_0 + (22 : Int)), (0 : Int))])
                   else none
                 else
                  k0 b2_3))
            else none
           else
            (L_number_events_2 fuel (b0_0, b0_1, b0_2, Go.IntKind.i64.wrap (b0_2 - (1 : Int)), b0_3, b0_4, b0_5, (44 : Int))
              (fun (b2_0, b2_1, b2_2, b2_3) =>
                bif b2_2 != (0 : Int) then
                 bif Decidable.decide (b2_2 < (0 : Int)) then
                  bif Decidable.decide ((b2_3.length + [(Go.IntKind.i64.wrap (b2_0 + (22 : Int)), (1 : Int))].length) * (16 : Nat) ≤ (140737488355328 : Nat) ∧ b2_3.length + [(Go.IntKind.i64.wrap (b2_0 + (22 : Int)), (1 : Int))].length ≤ (140737488355328 : Nat)) then
                  k0 (b2_3 ++ [(Go.IntKind.i64.wrap (b2_0 + (22 : Int)), (1 : Int))])
                  else none
                 else
                  bif Decidable.decide ((b2_3.length + [(Go.IntKind.i64.wrap (b2_0 + (22 : Int)), (0 : Int))].length) * (16 : Nat) ≤ (140737488355328 : Nat) ∧ b2_3.length + [(Go.IntKind.i64.wrap (b2_0 + (22 : Int)), (0 : Int))].length ≤ (140737488355328 : Nat)) then
                  k0 (b2_3 ++ [(Go.IntKind.i64.wrap (b2_0 + (22 : Int)), (0 : Int))])
                  else none
                else
                 k0 b2_3))))))) (fun r => match r with | r0 => k (.c (.own 0), [.vec 205 (.pair (.int .i64) (.int .i64)) r0 true])) := by
  kernel_rfl
theorem F136_eq (fuel : Nat) (x0 : Int) (x1 : Bool) (x2 : Int) (k : Ev.Cont) : evalFn tab (G136 fuel) (J136 fuel) kp136 fuel Tryz.f136 [.c (.int .i64 x0), .agg [.bool x1, .int .i64 x2]] [] k = F_number_events fuel x0 x1 x2 (fun r => match r with | r0 => k (.c (.own 0), [.vec 205 (.pair (.int .i64) (.int .i64)) r0 true])) :=
  F136_eqg fuel (F_math_bits_Len fuel) (F_number_tail_take fuel) x0 x1 x2 k
theorem hG136 (fuel : Nat) : GOK Tryz.prog (G136 fuel) :=
  gok_cons ⟨ok107 fuel, enters_of Tryz.func107 (by kernel_rfl) rfl⟩ <|
  gok_cons ⟨ok172 fuel, enters_of Tryz.func172 (by kernel_rfl) rfl⟩ <|
  gok_nil
theorem B136_0_blk (fuel : Nat) : BlkOK Tryz.prog Tryz.f136.ntmps (.block 0 (.loop (bodyOf 0 Tryz.f136))) (B136_0 fuel) :=
  blk_of (blk_of_code tab_ok (hG136 fuel) mixed (J := J136_0 fuel) (kp := kp136) (fuel := fuel) (by kernel_rfl) (fun q hq => by
    rw [(by kernel_rfl : obl (J136_0 fuel) (.block 0 (.loop (bodyOf 0 Tryz.f136))) = [])] at hq
    cases hq)) (B136_0_ok fuel)
theorem B136_2_blk (fuel : Nat) : BlkOK Tryz.prog Tryz.f136.ntmps (.block 2 (.loop (bodyOf 2 Tryz.f136))) (B136_2 fuel) :=
  blk_of (blk_of_code tab_ok (hG136 fuel) mixed (J := J136_2 fuel) (kp := kp136) (fuel := fuel) (by kernel_rfl) (fun q hq => by
    rw [(by kernel_rfl : obl (J136_2 fuel) (.block 2 (.loop (bodyOf 2 Tryz.f136))) = [])] at hq
    cases hq)) (B136_2_ok fuel)
theorem fok136 (fuel : Nat) : FnOK Tryz.prog 136 (evalFn tab (G136 fuel) (J136 fuel) kp136 fuel Tryz.f136) :=
  fn_ok tab_ok (hG136 fuel) mixed Tryz.func136 (c := (Tryz.f136.body).getD .skip) rfl (fun q hq => by
    rw [(by kernel_rfl : obl (J136 fuel) ((Tryz.f136.body).getD .skip) = [(.block 0 (.loop (bodyOf 0 Tryz.f136)), B136_0 fuel), (.block 2 (.loop (bodyOf 2 Tryz.f136)), B136_2 fuel)])] at hq
    simp only [List.mem_cons, List.not_mem_nil, or_false] at hq
    rcases hq with rfl | rfl
    · exact B136_0_blk fuel
    · exact B136_2_blk fuel)
noncomputable def mt136 : List Ev.SV → List Ev.Ob → Bool := fun args objs => match args, objs with
  | [.c (.int .i64 _), .agg [.bool _, .int .i64 _]], [] => true
  | _, _ => false
noncomputable def spg136 (F : YF136) : Ev.Spec := fun args objs k => match args, objs with
  | [.c (.int .i64 x0), .agg [.bool x1, .int .i64 x2]], [] => bif true then F x0 x1 x2 (fun r => match r with | r0 => k (.c (.own 0), [.vec 205 (.pair (.int .i64) (.int .i64)) r0 true])) else none
  | _, _ => none
noncomputable def spec136 (fuel : Nat) : Ev.Spec := spg136 (F_number_events fuel)
theorem ok136 (fuel : Nat) : FnOK Tryz.prog 136 (spec136 fuel) := by
  intro args objs kk r h
  unfold spec136 spg136 at h
  split at h
  · skip
    obtain ⟨hb, h⟩ := cond_some' h
    simp only [Bool.and_eq_true, Nat.beq_eq, decide_eq_true_eq] at hb
    clear hb
    exact fok136 fuel _ _ kk r ((F136_eq fuel _ _ _ kk).trans h)
  · cases h
end Go.Proofs.YtmjeeaemmbkioaaGreat

set_option linter.unusedVariables false
set_option linter.unusedSimpArgs false
set_option maxRecDepth 100000
set_option maxHeartbeats 2000000
namespace Go.Proofs.YtmjeeaemmbkioaaGreat
open Go Ev
def kp134 (i : Nat) : Option (List Nat) := Ev.look i []
noncomputable def Gg134 (f : Nat) : Option Ev.Spec := Ev.look f []
noncomputable def G134 (fuel : Nat) : Nat → Option Ev.Spec := Gg134
noncomputable def J134 (fuel : Nat) (i : Nat) : Option Ev.Blk := Ev.look i []
noncomputable def F_number_fits (fuel : Nat) (x0 : Int) (x1 : (List Int)) (x2 : Int) (x3 : Int) (k0 : (Int) → Option Ans) : Option Ans :=
  bif Decidable.decide (x2 < (0 : Int)) then
   k0 ((2 : Int))
  else
   bif Decidable.decide (x2 > Go.IntKind.i64.wrap ((↑x1.length : Int) - x3)) then
    k0 ((2 : Int))
   else
    k0 ((0 : Int))
abbrev YF134 : Type := (Int) → ((List Int)) → (Int) → (Int) → ((Int) → Option Ans) → Option Ans
theorem F134_eq (fuel : Nat) (x0 : Int) (x1 : (List Int)) (x2 : Int) (x3 : Int) (k : Ev.Cont) : evalFn tab (G134 fuel) (J134 fuel) kp134 fuel Tryz.f134 [.agg [.int .i64 x0, .sl (.int .i64) x1], .c (.int .i64 x2), .c (.int .i64 x3)] [] k = F_number_fits fuel x0 x1 x2 x3 (fun r => match r with | r0 => k (.c (.int .i64 r0), [])) := by
  kernel_rfl
theorem hG134 (fuel : Nat) : GOK Tryz.prog (G134 fuel) :=
  gok_nil
theorem fok134 (fuel : Nat) : FnOK Tryz.prog 134 (evalFn tab (G134 fuel) (J134 fuel) kp134 fuel Tryz.f134) :=
  fn_ok tab_ok (hG134 fuel) mixed Tryz.func134 (c := (Tryz.f134.body).getD .skip) rfl (fun q hq => by
    rw [(by kernel_rfl : obl (J134 fuel) ((Tryz.f134.body).getD .skip) = [])] at hq
    cases hq)
noncomputable def mt134 : List Ev.SV → List Ev.Ob → Bool := fun args objs => match args, objs with
  | [.agg [.int .i64 _, .sl (.int .i64) _], .c (.int .i64 _), .c (.int .i64 _)], [] => true
  | _, _ => false
noncomputable def spg134 (F : YF134) : Ev.Spec := fun args objs k => match args, objs with
  | [.agg [.int .i64 x0, .sl (.int .i64) x1], .c (.int .i64 x2), .c (.int .i64 x3)], [] => bif true then F x0 x1 x2 x3 (fun r => match r with | r0 => k (.c (.int .i64 r0), [])) else none
  | _, _ => none
noncomputable def spec134 (fuel : Nat) : Ev.Spec := spg134 (F_number_fits fuel)
theorem ok134 (fuel : Nat) : FnOK Tryz.prog 134 (spec134 fuel) := by
  intro args objs kk r h
  unfold spec134 spg134 at h
  split at h
  · skip
    obtain ⟨hb, h⟩ := cond_some' h
    simp only [Bool.and_eq_true, Nat.beq_eq, decide_eq_true_eq] at hb
    clear hb
    exact fok134 fuel _ _ kk r ((F134_eq fuel _ _ _ _ kk).trans h)
  · cases h
end Go.Proofs.YtmjeeaemmbkioaaGreat

set_option linter.unusedVariables false
set_option linter.unusedSimpArgs false
set_option maxRecDepth 100000
set_option maxHeartbeats 2000000
namespace Go.Proofs.YtmjeeaemmbkioaaGreat
open Go Ev
def kp135_e63 (i : Nat) : Option (List Nat) := Ev.look i [(2, [0, 8, 9, 10]), (100000, []), (400000, [4])]
noncomputable def Gg135_e63 (f130_9ef : YF130_9ef) (f : Nat) : Option Ev.Spec := Ev.look f [(130, spg130_9ef f130_9ef)]
noncomputable def G135_e63 (fuel : Nat) : Nat → Option Ev.Spec := Gg135_e63 (F_coder_Encoder_Put_9ef fuel)
noncomputable def S_number_put_e63_0 (fuel : Nat) (v : (List (Int × Int)) × Int × Int) (c : ((List (Int × Int)) × Int × Int) → Option Ans) (B : (Int → Option Ans) × (Unit → Option Ans)) : Option Ans := match v, B with
  | (x0, x1, x2), (ret, b) =>
   bif Decidable.decide (x2 < x1) then
      bif Decidable.decide ((0 : Int) ≤ x2 ∧ x2 < (↑x0.length : Int)) then
      (F_coder_Encoder_Put_9ef fuel ((x0.getD x2.toNat ((0 : Int), (0 : Int))).fst) ((x0.getD x2.toNat ((0 : Int), (0 : Int))).snd)
         (fun y4 =>
           bif y4 != (0 : Int) then
            ret y4
           else
            c (x0, x1, Go.IntKind.i64.wrap (x2 + (1 : Int)))))
      else none
     else
      b ()
noncomputable def L_number_put_e63_0 (fuel : Nat) (v : (List (Int × Int)) × Int × Int) (ret : (Int → Option Ans)) (b : (Unit → Option Ans)) : Option Ans := iter (S_number_put_e63_0 fuel) fuel v (ret, b)
noncomputable def J135_e63_0 (fuel : Nat) (i : Nat) : Option Ev.Blk := Ev.look i []
noncomputable def T135_e63_0 (v : (List (Int × Int)) × Int × Int) : Ev.St := match v with | (x0, x1, x2) => ⟨[(0, .c (.nilptr)), (8, .c (.sl (.pair (.int .i64) (.int .i64)) x0)), (9, .c (.int .i64 x1)), (10, .c (.int .i64 x2))], [], 0, 0⟩
noncomputable def E135_e63_0 (K : Ev.Ex → Ev.St → Option Ans) : (Int → Option Ans) × (Unit → Option Ans) := ((fun v => match v with | x0 => K .ret ⟨[(4, .c (.int .i64 x0))], [], 0, 0⟩), (fun v => match v with | () => K .normal ⟨[], [], 0, 0⟩))
theorem S135_e63_0_okg (fuel : Nat) (f130_9ef : YF130_9ef) (R : Ev.St → Option Ans) (K : Ev.Ex → Ev.St → Option Ans) (x0 : (List (Int × Int))) (x1 : Int) (x2 : Int) : evalCode tab (Gg135_e63 f130_9ef) (J135_e63_0 fuel) kp135_e63 fuel (bodyOf 0 Tryz.f135) (T135_e63_0 (x0, x1, x2)) (lc kp135_e63 2 0 R K) = (fun (c : ((List (Int × Int)) × Int × Int) → Option Ans) (B : (Int → Option Ans) × (Unit → Option Ans)) => match B with
  | (ret, b) =>
   bif Decidable.decide (x2 < x1) then
      bif Decidable.decide ((0 : Int) ≤ x2 ∧ x2 < (↑x0.length : Int)) then
      (f130_9ef ((x0.getD x2.toNat ((0 : Int), (0 : Int))).fst) ((x0.getD x2.toNat ((0 : Int), (0 : Int))).snd)
         (fun y4 =>
           bif y4 != (0 : Int) then
            ret y4
           else
            c (x0, x1, Go.IntKind.i64.wrap (x2 + (1 : Int)))))
      else none
     else
      b ()) (fun v => R (T135_e63_0 v)) (E135_e63_0 K) := by
  kernel_rfl
theorem S135_e63_0_ok (fuel : Nat) (R : Ev.St → Option Ans) (K : Ev.Ex → Ev.St → Option Ans) (x0 : (List (Int × Int))) (x1 : Int) (x2 : Int) : evalCode tab (G135_e63 fuel) (J135_e63_0 fuel) kp135_e63 fuel (bodyOf 0 Tryz.f135) (T135_e63_0 (x0, x1, x2)) (lc kp135_e63 2 0 R K) = S_number_put_e63_0 fuel (x0, x1, x2) (fun v => R (T135_e63_0 v)) (E135_e63_0 K) :=
  S135_e63_0_okg fuel (F_coder_Encoder_Put_9ef fuel) R K x0 x1 x2
noncomputable def B135_e63_0 (fuel : Nat) : Ev.Blk := fun st K => match canonO (kp135_e63 2) st with
  | some s => (match s with
    | ⟨[(q0, .c (.nilptr)), (q1, .c (.sl (.pair (.int .i64) (.int .i64)) x0)), (q2, .c (.int .i64 x1)), (q3, .c (.int .i64 x2))], [], q4, q5⟩ => bif Nat.beq q0 0 && Nat.beq q1 8 && Nat.beq q2 9 && Nat.beq q3 10 && Nat.beq q4 0 && Nat.beq q5 0 then iter (S_number_put_e63_0 fuel) fuel (x0, x1, x2) (E135_e63_0 K) else none
    | _ => none)
  | none => none
theorem B135_e63_0_ok (fuel : Nat) (st : Ev.St) (K : Ev.Ex → Ev.St → Option Ans) (r : Ans) (h : B135_e63_0 fuel st K = some r) : evalCode tab (G135_e63 fuel) (J135_e63_0 fuel) kp135_e63 fuel (.block 0 (.loop (bodyOf 0 Tryz.f135))) st K = some r := by
  unfold B135_e63_0 at h
  split at h
  · rename_i s hs
    split at h
    · skip
      obtain ⟨hb, h⟩ := cond_some' h
      simp only [Bool.and_eq_true, Nat.beq_eq, decide_eq_true_eq] at hb
      obtain ⟨⟨⟨⟨⟨rfl, rfl⟩, rfl⟩, rfl⟩, rfl⟩, rfl⟩ := hb
      exact blk_loop (S := T135_e63_0) (ks := E135_e63_0) (step := S_number_put_e63_0 fuel) (v := (_, _, _)) (by kernel_rfl) (by kernel_rfl) (fun R K v => by obtain ⟨x0, x1, x2⟩ := v; exact S135_e63_0_ok fuel R K x0 x1 x2) hs h
    · cases h
  · cases h
noncomputable def J135_e63 (fuel : Nat) (i : Nat) : Option Ev.Blk := Ev.look i [(100000, B135_e63_0 fuel)]
noncomputable def F_number_put_e63 (fuel : Nat) (x0 : (List (Int × Int))) (k0 : (Int) → Option Ans) : Option Ans :=
  (L_number_put_e63_0 fuel (x0, (↑x0.length : Int), (0 : Int))
    (fun ret0_0 =>
      k0 ret0_0)
    (fun () =>
      k0 ((0 : Int))))
abbrev YF135_e63 : Type := ((List (Int × Int))) → ((Int) → Option Ans) → Option Ans
theorem F135_e63_eqg (fuel : Nat) (f130_9ef : YF130_9ef) (x0 : (List (Int × Int))) (k : Ev.Cont) : evalFn tab (Gg135_e63 f130_9ef) (J135_e63 fuel) kp135_e63 fuel Tryz.f135 [.c (.nilptr), .c (.sl (.pair (.int .i64) (.int .i64)) x0)] [] k = (fun  (k0 : (Int) → Option Ans) =>
  (L_number_put_e63_0 fuel (x0, (↑x0.length : Int), (0 : Int))
    (fun ret0_0 =>
      k0 ret0_0)
    (fun () =>
      k0 ((0 : Int))))) (fun r => match r with | r0 => k (.c (.int .i64 r0), [])) := by
  kernel_rfl
theorem F135_e63_eq (fuel : Nat) (x0 : (List (Int × Int))) (k : Ev.Cont) : evalFn tab (G135_e63 fuel) (J135_e63 fuel) kp135_e63 fuel Tryz.f135 [.c (.nilptr), .c (.sl (.pair (.int .i64) (.int .i64)) x0)] [] k = F_number_put_e63 fuel x0 (fun r => match r with | r0 => k (.c (.int .i64 r0), [])) :=
  F135_e63_eqg fuel (F_coder_Encoder_Put_9ef fuel) x0 k
theorem hG135_e63 (fuel : Nat) : GOK Tryz.prog (G135_e63 fuel) :=
  gok_cons ⟨ok130_9ef fuel, enters_of Tryz.func130 (by kernel_rfl) rfl⟩ <|
  gok_nil
theorem B135_e63_0_blk (fuel : Nat) : BlkOK Tryz.prog Tryz.f135.ntmps (.block 0 (.loop (bodyOf 0 Tryz.f135))) (B135_e63_0 fuel) :=
  blk_of (blk_of_code tab_ok (hG135_e63 fuel) mixed (J := J135_e63_0 fuel) (kp := kp135_e63) (fuel := fuel) (by kernel_rfl) (fun q hq => by
    rw [(by kernel_rfl : obl (J135_e63_0 fuel) (.block 0 (.loop (bodyOf 0 Tryz.f135))) = [])] at hq
    cases hq)) (B135_e63_0_ok fuel)
theorem fok135_e63 (fuel : Nat) : FnOK Tryz.prog 135 (evalFn tab (G135_e63 fuel) (J135_e63 fuel) kp135_e63 fuel Tryz.f135) :=
  fn_ok tab_ok (hG135_e63 fuel) mixed Tryz.func135 (c := (Tryz.f135.body).getD .skip) rfl (fun q hq => by
    rw [(by kernel_rfl : obl (J135_e63 fuel) ((Tryz.f135.body).getD .skip) = [(.block 0 (.loop (bodyOf 0 Tryz.f135)), B135_e63_0 fuel)])] at hq
    simp only [List.mem_cons, List.not_mem_nil, or_false] at hq
    subst hq
    · exact B135_e63_0_blk fuel)
noncomputable def mt135_e63 : List Ev.SV → List Ev.Ob → Bool := fun args objs => match args, objs with
  | [.c (.nilptr), .c (.sl (.pair (.int .i64) (.int .i64)) _)], [] => true
  | _, _ => false
noncomputable def spg135_e63 (F : YF135_e63) : Ev.Spec := fun args objs k => match args, objs with
  | [.c (.nilptr), .c (.sl (.pair (.int .i64) (.int .i64)) x0)], [] => bif true then F x0 (fun r => match r with | r0 => k (.c (.int .i64 r0), [])) else none
  | _, _ => none
noncomputable def spec135_e63 (fuel : Nat) : Ev.Spec := spg135_e63 (F_number_put_e63 fuel)
theorem ok135_e63 (fuel : Nat) : FnOK Tryz.prog 135 (spec135_e63 fuel) := by
  intro args objs kk r h
  unfold spec135_e63 spg135_e63 at h
  split at h
  · skip
    obtain ⟨hb, h⟩ := cond_some' h
    simp only [Bool.and_eq_true, Nat.beq_eq, decide_eq_true_eq] at hb
    clear hb
    exact fok135_e63 fuel _ _ kk r ((F135_e63_eq fuel _ kk).trans h)
  · cases h
end Go.Proofs.YtmjeeaemmbkioaaGreat

set_option linter.unusedVariables false
set_option linter.unusedSimpArgs false
set_option maxRecDepth 100000
set_option maxHeartbeats 2000000
namespace Go.Proofs.YtmjeeaemmbkioaaGreat
open Go Ev
def kp87_0b8 (i : Nat) : Option (List Nat) := Ev.look i []
noncomputable def Gg87_0b8 (f71_975 : YF71_975) (f130_9ef : YF130_9ef) (f133 : YF133) (f134 : YF134) (f135_e63 : YF135_e63) (f136 : YF136) (f : Nat) : Option Ev.Spec := Ev.look f [(71, spg71_975 f71_975), (130, spg130_9ef f130_9ef), (133, spg133 f133), (134, spg134 f134), (135, spg135_e63 f135_e63), (136, spg136 f136)]
noncomputable def G87_0b8 (fuel : Nat) : Nat → Option Ev.Spec := Gg87_0b8 (F_coder_Encoder_Model_975 fuel) (F_coder_Encoder_Put_9ef fuel) (F_number_Valid fuel) (F_number_fits fuel) (F_number_put_e63 fuel) (F_number_events fuel)
noncomputable def J87_0b8 (fuel : Nat) (i : Nat) : Option Ev.Blk := Ev.look i []
noncomputable def F_number_Put_0b8 (fuel : Nat) (x0 : Int) (x1 : Bool) (x2 : Int) (k0 : (Int) → Option Ans) : Option Ans :=
  (F_coder_Encoder_Put_9ef fuel ((-1 : Int)) ((0 : Int))
    (fun y2 =>
      bif y2 == (7 : Int) then
       k0 ((7 : Int))
      else
       (F_number_Valid fuel (x1) (x2)
         (fun y7 =>
           bif !y7 then
            k0 ((2 : Int))
           else
            (F_coder_Encoder_Model_975 fuel
              (fun (y12_0, y12_1) =>
                (F_number_fits fuel (y12_0) (y12_1) (x0) ((48 : Int))
                  (fun y16 =>
                    bif y16 != (0 : Int) then
                     k0 y16
                    else
                     (F_number_events fuel (x0) (x1) (x2)
                       (fun y21 =>
                         (F_number_put_e63 fuel (y21)
                           (fun y25 =>
                             k0 y25))))))))))))
abbrev YF87_0b8 : Type := (Int) → (Bool) → (Int) → ((Int) → Option Ans) → Option Ans
theorem F87_0b8_eqg (fuel : Nat) (f71_975 : YF71_975) (f130_9ef : YF130_9ef) (f133 : YF133) (f134 : YF134) (f135_e63 : YF135_e63) (f136 : YF136) (x0 : Int) (x1 : Bool) (x2 : Int) (k : Ev.Cont) : evalFn tab (Gg87_0b8 f71_975 f130_9ef f133 f134 f135_e63 f136) (J87_0b8 fuel) kp87_0b8 fuel Tryz.f87 [.c (.nilptr), .c (.int .i64 x0), .agg [.bool x1, .int .i64 x2]] [] k = (fun  (k0 : (Int) → Option Ans) =>
  (f130_9ef ((-1 : Int)) ((0 : Int))
    (fun y2 =>
      bif y2 == (7 : Int) then
       k0 ((7 : Int))
      else
       (f133 (x1) (x2)
         (fun y7 =>
           bif !y7 then
            k0 ((2 : Int))
           else
            (f71_975
              (fun (y12_0, y12_1) =>
                (f134 (y12_0) (y12_1) (x0) ((48 : Int))
                  (fun y16 =>
                    bif y16 != (0 : Int) then
                     k0 y16
                    else
                     (f136 (x0) (x1) (x2)
                       (fun y21 =>
                         (f135_e63 (y21)
                           (fun y25 =>
                             k0 y25))))))))))))) (fun r => match r with | r0 => k (.c (.int .i64 r0), [])) := by
  kernel_rfl
theorem F87_0b8_eq (fuel : Nat) (x0 : Int) (x1 : Bool) (x2 : Int) (k : Ev.Cont) : evalFn tab (G87_0b8 fuel) (J87_0b8 fuel) kp87_0b8 fuel Tryz.f87 [.c (.nilptr), .c (.int .i64 x0), .agg [.bool x1, .int .i64 x2]] [] k = F_number_Put_0b8 fuel x0 x1 x2 (fun r => match r with | r0 => k (.c (.int .i64 r0), [])) :=
  F87_0b8_eqg fuel (F_coder_Encoder_Model_975 fuel) (F_coder_Encoder_Put_9ef fuel) (F_number_Valid fuel) (F_number_fits fuel) (F_number_put_e63 fuel) (F_number_events fuel) x0 x1 x2 k
theorem hG87_0b8 (fuel : Nat) : GOK Tryz.prog (G87_0b8 fuel) :=
  gok_cons ⟨ok71_975 fuel, enters_of Tryz.func71 (by kernel_rfl) rfl⟩ <|
  gok_cons ⟨ok130_9ef fuel, enters_of Tryz.func130 (by kernel_rfl) rfl⟩ <|
  gok_cons ⟨ok133 fuel, enters_of Tryz.func133 (by kernel_rfl) rfl⟩ <|
  gok_cons ⟨ok134 fuel, enters_of Tryz.func134 (by kernel_rfl) rfl⟩ <|
  gok_cons ⟨ok135_e63 fuel, enters_of Tryz.func135 (by kernel_rfl) rfl⟩ <|
  gok_cons ⟨ok136 fuel, enters_of Tryz.func136 (by kernel_rfl) rfl⟩ <|
  gok_nil
theorem fok87_0b8 (fuel : Nat) : FnOK Tryz.prog 87 (evalFn tab (G87_0b8 fuel) (J87_0b8 fuel) kp87_0b8 fuel Tryz.f87) :=
  fn_ok tab_ok (hG87_0b8 fuel) mixed Tryz.func87 (c := (Tryz.f87.body).getD .skip) rfl (fun q hq => by
    rw [(by kernel_rfl : obl (J87_0b8 fuel) ((Tryz.f87.body).getD .skip) = [])] at hq
    cases hq)
noncomputable def mt87_0b8 : List Ev.SV → List Ev.Ob → Bool := fun args objs => match args, objs with
  | [.c (.nilptr), .c (.int .i64 _), .agg [.bool _, .int .i64 _]], [] => true
  | _, _ => false
noncomputable def spg87_0b8 (F : YF87_0b8) : Ev.Spec := fun args objs k => match args, objs with
  | [.c (.nilptr), .c (.int .i64 x0), .agg [.bool x1, .int .i64 x2]], [] => bif true then F x0 x1 x2 (fun r => match r with | r0 => k (.c (.int .i64 r0), [])) else none
  | _, _ => none
noncomputable def spec87_0b8 (fuel : Nat) : Ev.Spec := spg87_0b8 (F_number_Put_0b8 fuel)
theorem ok87_0b8 (fuel : Nat) : FnOK Tryz.prog 87 (spec87_0b8 fuel) := by
  intro args objs kk r h
  unfold spec87_0b8 spg87_0b8 at h
  split at h
  · skip
    obtain ⟨hb, h⟩ := cond_some' h
    simp only [Bool.and_eq_true, Nat.beq_eq, decide_eq_true_eq] at hb
    clear hb
    exact fok87_0b8 fuel _ _ kk r ((F87_0b8_eq fuel _ _ _ kk).trans h)
  · cases h
end Go.Proofs.YtmjeeaemmbkioaaGreat

set_option linter.unusedVariables false
set_option linter.unusedSimpArgs false
set_option maxRecDepth 100000
set_option maxHeartbeats 2000000
namespace Go.Proofs.YtmjeeaemmbkioaaGreat
open Go Ev
def kp164_a20 (i : Nat) : Option (List Nat) := Ev.look i []
noncomputable def Gg164_a20 (f : Nat) : Option Ev.Spec := Ev.look f []
noncomputable def G164_a20 (fuel : Nat) : Nat → Option Ev.Spec := Gg164_a20
noncomputable def J164_a20 (fuel : Nat) (i : Nat) : Option Ev.Blk := Ev.look i []
noncomputable def F_coder_interval_lose_a20 (fuel : Nat) (x0 : Int) (x1 : Int) (x2 : Int) (x3 : Bool) (x4 : (List Int)) (x5 : (List Int)) (k0 : (Int × Int × Int × Int × Bool × (List Int) × (List Int)) → Option Ans) : Option Ans :=
  k0 (Go.IntKind.u8.wrap (Ev.ishr Go.IntKind.u64 x1 (24 : Int)), x0, Ev.iand Go.IntKind.u64 (Ev.ishl Go.IntKind.u64 x1 (8 : Int)) (4294967295 : Int), Ev.ior Go.IntKind.u64 (Ev.iand Go.IntKind.u64 (Ev.ishl Go.IntKind.u64 x2 (8 : Int)) (4294967295 : Int)) (255 : Int), x3, x4, x5)
abbrev YF164_a20 : Type := (Int) → (Int) → (Int) → (Bool) → ((List Int)) → ((List Int)) → ((Int × Int × Int × Int × Bool × (List Int) × (List Int)) → Option Ans) → Option Ans
theorem F164_a20_eq (fuel : Nat) (x0 : Int) (x1 : Int) (x2 : Int) (x3 : Bool) (x4 : (List Int)) (x5 : (List Int)) (k : Ev.Cont) : evalFn tab (G164_a20 fuel) (J164_a20 fuel) kp164_a20 fuel Tryz.f164 [.c (.ptr 0 0)] [.cells 164 (.int .i64 x0 :: .own 1 :: .int .i64 2048 :: .int .i64 1792 :: .int .i64 1568 :: .int .i64 1372 :: .int .i64 1201 :: .int .i64 1051 :: .int .i64 920 :: .int .i64 805 :: .int .i64 705 :: .int .i64 617 :: .int .i64 540 :: .int .i64 473 :: .int .i64 414 :: .int .i64 363 :: .int .i64 318 :: .int .i64 279 :: .int .i64 245 :: .int .i64 215 :: .int .i64 189 :: .int .i64 166 :: .int .i64 146 :: .int .i64 128 :: .int .i64 112 :: .int .i64 98 :: .int .i64 86 :: .int .i64 76 :: .int .i64 67 :: .int .i64 59 :: .int .i64 52 :: .int .i64 46 :: .int .i64 41 :: .int .i64 36 :: .int .u64 x1 :: .int .u64 x2 :: .own 2 :: .bool x3 :: []), .vec 3 (.int .i64) x4 false, .vec 5 (.int .u8) x5 false] k = F_coder_interval_lose_a20 fuel x0 x1 x2 x3 x4 x5 (fun r => match r with | (r0, r1, r2, r3, r4, r5, r6) => k (.c (.int .u8 r0), [.cells 164 (.int .i64 r1 :: .own 1 :: .int .i64 2048 :: .int .i64 1792 :: .int .i64 1568 :: .int .i64 1372 :: .int .i64 1201 :: .int .i64 1051 :: .int .i64 920 :: .int .i64 805 :: .int .i64 705 :: .int .i64 617 :: .int .i64 540 :: .int .i64 473 :: .int .i64 414 :: .int .i64 363 :: .int .i64 318 :: .int .i64 279 :: .int .i64 245 :: .int .i64 215 :: .int .i64 189 :: .int .i64 166 :: .int .i64 146 :: .int .i64 128 :: .int .i64 112 :: .int .i64 98 :: .int .i64 86 :: .int .i64 76 :: .int .i64 67 :: .int .i64 59 :: .int .i64 52 :: .int .i64 46 :: .int .i64 41 :: .int .i64 36 :: .int .u64 r2 :: .int .u64 r3 :: .own 2 :: .bool r4 :: []), .vec 3 (.int .i64) r5 false, .vec 5 (.int .u8) r6 false])) := by
  kernel_rfl
theorem hG164_a20 (fuel : Nat) : GOK Tryz.prog (G164_a20 fuel) :=
  gok_nil
theorem fok164_a20 (fuel : Nat) : FnOK Tryz.prog 164 (evalFn tab (G164_a20 fuel) (J164_a20 fuel) kp164_a20 fuel Tryz.f164) :=
  fn_ok tab_ok (hG164_a20 fuel) mixed Tryz.func164 (c := (Tryz.f164.body).getD .skip) rfl (fun q hq => by
    rw [(by kernel_rfl : obl (J164_a20 fuel) ((Tryz.f164.body).getD .skip) = [])] at hq
    cases hq)
noncomputable def mt164_a20 : List Ev.SV → List Ev.Ob → Bool := fun args objs => match args, objs with
  | [.c (.ptr q0 q1)], [.cells q2 cs0, .vec q3 (.int .i64) _ false, .vec q4 (.int .u8) _ false] => (match splitRun 2 [(.i64, 2048), (.i64, 1792), (.i64, 1568), (.i64, 1372), (.i64, 1201), (.i64, 1051), (.i64, 920), (.i64, 805), (.i64, 705), (.i64, 617), (.i64, 540), (.i64, 473), (.i64, 414), (.i64, 363), (.i64, 318), (.i64, 279), (.i64, 245), (.i64, 215), (.i64, 189), (.i64, 166), (.i64, 146), (.i64, 128), (.i64, 112), (.i64, 98), (.i64, 86), (.i64, 76), (.i64, 67), (.i64, 59), (.i64, 52), (.i64, 46), (.i64, 41), (.i64, 36)] cs0 with | some ([.int .i64 _, .own q5], [.int .u64 _, .int .u64 _, .own q6, .bool _]) => Nat.beq q0 0 && Nat.beq q1 0 && Nat.beq q2 164 && Nat.beq q3 3 && Nat.beq q4 5 && Nat.beq q5 1 && Nat.beq q6 2 | _ => false)
  | _, _ => false
noncomputable def spg164_a20 (F : YF164_a20) : Ev.Spec := fun args objs k => match args, objs with
  | [.c (.ptr q0 q1)], [.cells q2 cs0, .vec q3 (.int .i64) x4 false, .vec q4 (.int .u8) x5 false] => (match splitRun 2 [(.i64, 2048), (.i64, 1792), (.i64, 1568), (.i64, 1372), (.i64, 1201), (.i64, 1051), (.i64, 920), (.i64, 805), (.i64, 705), (.i64, 617), (.i64, 540), (.i64, 473), (.i64, 414), (.i64, 363), (.i64, 318), (.i64, 279), (.i64, 245), (.i64, 215), (.i64, 189), (.i64, 166), (.i64, 146), (.i64, 128), (.i64, 112), (.i64, 98), (.i64, 86), (.i64, 76), (.i64, 67), (.i64, 59), (.i64, 52), (.i64, 46), (.i64, 41), (.i64, 36)] cs0 with | some ([.int .i64 x0, .own q5], [.int .u64 x1, .int .u64 x2, .own q6, .bool x3]) => bif Nat.beq q0 0 && Nat.beq q1 0 && Nat.beq q2 164 && Nat.beq q3 3 && Nat.beq q4 5 && Nat.beq q5 1 && Nat.beq q6 2 then F x0 x1 x2 x3 x4 x5 (fun r => match r with | (r0, r1, r2, r3, r4, r5, r6) => k (.c (.int .u8 r0), [.cells 164 (.int .i64 r1 :: .own 1 :: .int .i64 2048 :: .int .i64 1792 :: .int .i64 1568 :: .int .i64 1372 :: .int .i64 1201 :: .int .i64 1051 :: .int .i64 920 :: .int .i64 805 :: .int .i64 705 :: .int .i64 617 :: .int .i64 540 :: .int .i64 473 :: .int .i64 414 :: .int .i64 363 :: .int .i64 318 :: .int .i64 279 :: .int .i64 245 :: .int .i64 215 :: .int .i64 189 :: .int .i64 166 :: .int .i64 146 :: .int .i64 128 :: .int .i64 112 :: .int .i64 98 :: .int .i64 86 :: .int .i64 76 :: .int .i64 67 :: .int .i64 59 :: .int .i64 52 :: .int .i64 46 :: .int .i64 41 :: .int .i64 36 :: .int .u64 r2 :: .int .u64 r3 :: .own 2 :: .bool r4 :: []), .vec 3 (.int .i64) r5 false, .vec 5 (.int .u8) r6 false])) else none | _ => none)
  | _, _ => none
noncomputable def spec164_a20 (fuel : Nat) : Ev.Spec := spg164_a20 (F_coder_interval_lose_a20 fuel)
theorem ok164_a20 (fuel : Nat) : FnOK Tryz.prog 164 (spec164_a20 fuel) := by
  intro args objs kk r h
  unfold spec164_a20 spg164_a20 at h
  split at h
  · skip
    split at h
    rotate_left 1
    · cases h
    rename_i hsp
    have esp := splitRun_eq hsp
    subst esp
    obtain ⟨hb, h⟩ := cond_some' h
    simp only [Bool.and_eq_true, Nat.beq_eq, decide_eq_true_eq] at hb
    obtain ⟨⟨⟨⟨⟨⟨rfl, rfl⟩, rfl⟩, rfl⟩, rfl⟩, rfl⟩, rfl⟩ := hb
    exact fok164_a20 fuel _ _ kk r ((F164_a20_eq fuel _ _ _ _ _ _ kk).trans h)
  · cases h
end Go.Proofs.YtmjeeaemmbkioaaGreat

set_option linter.unusedVariables false
set_option linter.unusedSimpArgs false
set_option maxRecDepth 100000
set_option maxHeartbeats 2000000
namespace Go.Proofs.YtmjeeaemmbkioaaGreat
open Go Ev
def kp189_bb9 (i : Nat) : Option (List Nat) := Ev.look i []
noncomputable def Gg189_bb9 (f : Nat) : Option Ev.Spec := Ev.look f []
noncomputable def G189_bb9 (fuel : Nat) : Nat → Option Ev.Spec := Gg189_bb9
noncomputable def J189_bb9 (fuel : Nat) (i : Nat) : Option Ev.Blk := Ev.look i []
noncomputable def F_coder_table_chance_bb9 (fuel : Nat) (x0 : Int) (x1 : Int) (k0 : (Int) → Option Ans) : Option Ans :=
  bif x0 == (1 : Int) then
   bif Decidable.decide (Go.IntKind.i64.wrap (Go.IntKind.i64.wrap (Go.IntKind.i64.wrap ((2 : Int) * Go.IntKind.i64.wrap (x1.tdiv (256 : Int))) + Go.IntKind.i64.wrap ((2 : Int) * x1.tmod (256 : Int))) + (2 : Int)) = (0 : Int)) then
    none
   else
    k0 (bif Decidable.decide ((4095 : Int) < bif Decidable.decide ((1 : Int) > Go.IntKind.i64.wrap ((Go.IntKind.i64.wrap (Go.IntKind.i64.wrap (Go.IntKind.i64.wrap ((2 : Int) * x1.tmod (256 : Int)) + (1 : Int)) * (4096 : Int))).tdiv (Go.IntKind.i64.wrap (Go.IntKind.i64.wrap (Go.IntKind.i64.wrap ((2 : Int) * Go.IntKind.i64.wrap (x1.tdiv (256 : Int))) + Go.IntKind.i64.wrap ((2 : Int) * x1.tmod (256 : Int))) + (2 : Int))))) then (1 : Int) else Go.IntKind.i64.wrap ((Go.IntKind.i64.wrap (Go.IntKind.i64.wrap (Go.IntKind.i64.wrap ((2 : Int) * x1.tmod (256 : Int)) + (1 : Int)) * (4096 : Int))).tdiv (Go.IntKind.i64.wrap (Go.IntKind.i64.wrap (Go.IntKind.i64.wrap ((2 : Int) * Go.IntKind.i64.wrap (x1.tdiv (256 : Int))) + Go.IntKind.i64.wrap ((2 : Int) * x1.tmod (256 : Int))) + (2 : Int))))) then (4095 : Int) else bif Decidable.decide ((1 : Int) > Go.IntKind.i64.wrap ((Go.IntKind.i64.wrap (Go.IntKind.i64.wrap (Go.IntKind.i64.wrap ((2 : Int) * x1.tmod (256 : Int)) + (1 : Int)) * (4096 : Int))).tdiv (Go.IntKind.i64.wrap (Go.IntKind.i64.wrap (Go.IntKind.i64.wrap ((2 : Int) * Go.IntKind.i64.wrap (x1.tdiv (256 : Int))) + Go.IntKind.i64.wrap ((2 : Int) * x1.tmod (256 : Int))) + (2 : Int))))) then (1 : Int) else Go.IntKind.i64.wrap ((Go.IntKind.i64.wrap (Go.IntKind.i64.wrap (Go.IntKind.i64.wrap ((2 : Int) * x1.tmod (256 : Int)) + (1 : Int)) * (4096 : Int))).tdiv (Go.IntKind.i64.wrap (Go.IntKind.i64.wrap (Go.IntKind.i64.wrap ((2 : Int) * Go.IntKind.i64.wrap (x1.tdiv (256 : Int))) + Go.IntKind.i64.wrap ((2 : Int) * x1.tmod (256 : Int))) + (2 : Int)))))
  else
   bif Decidable.decide (x1 ≥ (32 : Int)) then
    bif Decidable.decide ((0 : Int) ≤ Go.IntKind.i64.wrap (x1 - (32 : Int)) ∧ Go.IntKind.i64.wrap (x1 - (32 : Int)) < (↑(32 : Nat) : Int)) then
    bif Decidable.decide (Go.IntKind.i64.wrap (x1 - (32 : Int)) = (↑(0 : Nat) : Int)) then
      k0 (Go.IntKind.i64.wrap ((4096 : Int) - (2048 : Int)))
     else
      bif Decidable.decide (Go.IntKind.i64.wrap (x1 - (32 : Int)) = (↑(1 : Nat) : Int)) then
       k0 (Go.IntKind.i64.wrap ((4096 : Int) - (1792 : Int)))
      else
       bif Decidable.decide (Go.IntKind.i64.wrap (x1 - (32 : Int)) = (↑(2 : Nat) : Int)) then
        k0 (Go.IntKind.i64.wrap ((4096 : Int) - (1568 : Int)))
       else
        bif Decidable.decide (Go.IntKind.i64.wrap (x1 - (32 : Int)) = (↑(3 : Nat) : Int)) then
         k0 (Go.IntKind.i64.wrap ((4096 : Int) - (1372 : Int)))
        else
         bif Decidable.decide (Go.IntKind.i64.wrap (x1 - (32 : Int)) = (↑(4 : Nat) : Int)) then
          k0 (Go.IntKind.i64.wrap ((4096 : Int) - (1201 : Int)))
         else
          bif Decidable.decide (Go.IntKind.i64.wrap (x1 - (32 : Int)) = (↑(5 : Nat) : Int)) then
           k0 (Go.IntKind.i64.wrap ((4096 : Int) - (1051 : Int)))
          else
           bif Decidable.decide (Go.IntKind.i64.wrap (x1 - (32 : Int)) = (↑(6 : Nat) : Int)) then
            k0 (Go.IntKind.i64.wrap ((4096 : Int) - (920 : Int)))
           else
            bif Decidable.decide (Go.IntKind.i64.wrap (x1 - (32 : Int)) = (↑(7 : Nat) : Int)) then
             k0 (Go.IntKind.i64.wrap ((4096 : Int) - (805 : Int)))
            else
             bif Decidable.decide (Go.IntKind.i64.wrap (x1 - (32 : Int)) = (↑(8 : Nat) : Int)) then
              k0 (Go.IntKind.i64.wrap ((4096 : Int) - (705 : Int)))
             else
              bif Decidable.decide (Go.IntKind.i64.wrap (x1 - (32 : Int)) = (↑(9 : Nat) : Int)) then
               k0 (Go.IntKind.i64.wrap ((4096 : Int) - (617 : Int)))
              else
               bif Decidable.decide (Go.IntKind.i64.wrap (x1 - (32 : Int)) = (↑(10 : Nat) : Int)) then
                k0 (Go.IntKind.i64.wrap ((4096 : Int) - (540 : Int)))
               else
                bif Decidable.decide (Go.IntKind.i64.wrap (x1 - (32 : Int)) = (↑(11 : Nat) : Int)) then
                 k0 (Go.IntKind.i64.wrap ((4096 : Int) - (473 : Int)))
                else
                 bif Decidable.decide (Go.IntKind.i64.wrap (x1 - (32 : Int)) = (↑(12 : Nat) : Int)) then
                  k0 (Go.IntKind.i64.wrap ((4096 : Int) - (414 : Int)))
                 else
                  bif Decidable.decide (Go.IntKind.i64.wrap (x1 - (32 : Int)) = (↑(13 : Nat) : Int)) then
                   k0 (Go.IntKind.i64.wrap ((4096 : Int) - (363 : Int)))
                  else
                   bif Decidable.decide (Go.IntKind.i64.wrap (x1 - (32 : Int)) = (↑(14 : Nat) : Int)) then
                    k0 (Go.IntKind.i64.wrap ((4096 : Int) - (318 : Int)))
                   else
                    bif Decidable.decide (Go.IntKind.i64.wrap (x1 - (32 : Int)) = (↑(15 : Nat) : Int)) then
                     k0 (Go.IntKind.i64.wrap ((4096 : Int) - (279 : Int)))
                    else
                     bif Decidable.decide (Go.IntKind.i64.wrap (x1 - (32 : Int)) = (↑(16 : Nat) : Int)) then
                      k0 (Go.IntKind.i64.wrap ((4096 : Int) - (245 : Int)))
                     else
                      bif Decidable.decide (Go.IntKind.i64.wrap (x1 - (32 : Int)) = (↑(17 : Nat) : Int)) then
                       k0 (Go.IntKind.i64.wrap ((4096 : Int) - (215 : Int)))
                      else
                       bif Decidable.decide (Go.IntKind.i64.wrap (x1 - (32 : Int)) = (↑(18 : Nat) : Int)) then
                        k0 (Go.IntKind.i64.wrap ((4096 : Int) - (189 : Int)))
                       else
                        bif Decidable.decide (Go.IntKind.i64.wrap (x1 - (32 : Int)) = (↑(19 : Nat) : Int)) then
                         k0 (Go.IntKind.i64.wrap ((4096 : Int) - (166 : Int)))
                        else
                         bif Decidable.decide (Go.IntKind.i64.wrap (x1 - (32 : Int)) = (↑(20 : Nat) : Int)) then
                          k0 (Go.IntKind.i64.wrap ((4096 : Int) - (146 : Int)))
                         else
                          bif Decidable.decide (Go.IntKind.i64.wrap (x1 - (32 : Int)) = (↑(21 : Nat) : Int)) then
                           k0 (Go.IntKind.i64.wrap ((4096 : Int) - (128 : Int)))
                          else
                           bif Decidable.decide (Go.IntKind.i64.wrap (x1 - (32 : Int)) = (↑(22 : Nat) : Int)) then
                            k0 (Go.IntKind.i64.wrap ((4096 : Int) - (112 : Int)))
                           else
                            bif Decidable.decide (Go.IntKind.i64.wrap (x1 - (32 : Int)) = (↑(23 : Nat) : Int)) then
                             k0 (Go.IntKind.i64.wrap ((4096 : Int) - (98 : Int)))
                            else
                             bif Decidable.decide (Go.IntKind.i64.wrap (x1 - (32 : Int)) = (↑(24 : Nat) : Int)) then
                              k0 (Go.IntKind.i64.wrap ((4096 : Int) - (86 : Int)))
                             else
                              bif Decidable.decide (Go.IntKind.i64.wrap (x1 - (32 : Int)) = (↑(25 : Nat) : Int)) then
                               k0 (Go.IntKind.i64.wrap ((4096 : Int) - (76 : Int)))
                              else
                               bif Decidable.decide (Go.IntKind.i64.wrap (x1 - (32 : Int)) = (↑(26 : Nat) : Int)) then
                                k0 (Go.IntKind.i64.wrap ((4096 : Int) - (67 : Int)))
                               else
                                bif Decidable.decide (Go.IntKind.i64.wrap (x1 - (32 : Int)) = (↑(27 : Nat) : Int)) then
                                 k0 (Go.IntKind.i64.wrap ((4096 : Int) - (59 : Int)))
                                else
                                 bif Decidable.decide (Go.IntKind.i64.wrap (x1 - (32 : Int)) = (↑(28 : Nat) : Int)) then
                                  k0 (Go.IntKind.i64.wrap ((4096 : Int) - (52 : Int)))
                                 else
                                  bif Decidable.decide (Go.IntKind.i64.wrap (x1 - (32 : Int)) = (↑(29 : Nat) : Int)) then
                                   k0 (Go.IntKind.i64.wrap ((4096 : Int) - (46 : Int)))
                                  else
                                   bif Decidable.decide (Go.IntKind.i64.wrap (x1 - (32 : Int)) = (↑(30 : Nat) : Int)) then
                                    k0 (Go.IntKind.i64.wrap ((4096 : Int) - (41 : Int)))
                                   else
                                    bif Decidable.decide (Go.IntKind.i64.wrap (x1 - (32 : Int)) = (↑(31 : Nat) : Int)) then
                                    k0 (Go.IntKind.i64.wrap ((4096 : Int) - (36 : Int)))
                                    else none
    else none
   else
    bif Decidable.decide ((0 : Int) ≤ x1 ∧ x1 < (↑(32 : Nat) : Int)) then
    bif Decidable.decide (x1 = (↑(0 : Nat) : Int)) then
      k0 ((2048 : Int))
     else
      bif Decidable.decide (x1 = (↑(1 : Nat) : Int)) then
       k0 ((1792 : Int))
      else
       bif Decidable.decide (x1 = (↑(2 : Nat) : Int)) then
        k0 ((1568 : Int))
       else
        bif Decidable.decide (x1 = (↑(3 : Nat) : Int)) then
         k0 ((1372 : Int))
        else
         bif Decidable.decide (x1 = (↑(4 : Nat) : Int)) then
          k0 ((1201 : Int))
         else
          bif Decidable.decide (x1 = (↑(5 : Nat) : Int)) then
           k0 ((1051 : Int))
          else
           bif Decidable.decide (x1 = (↑(6 : Nat) : Int)) then
            k0 ((920 : Int))
           else
            bif Decidable.decide (x1 = (↑(7 : Nat) : Int)) then
             k0 ((805 : Int))
            else
             bif Decidable.decide (x1 = (↑(8 : Nat) : Int)) then
              k0 ((705 : Int))
             else
              bif Decidable.decide (x1 = (↑(9 : Nat) : Int)) then
               k0 ((617 : Int))
              else
               bif Decidable.decide (x1 = (↑(10 : Nat) : Int)) then
                k0 ((540 : Int))
               else
                bif Decidable.decide (x1 = (↑(11 : Nat) : Int)) then
                 k0 ((473 : Int))
                else
                 bif Decidable.decide (x1 = (↑(12 : Nat) : Int)) then
                  k0 ((414 : Int))
                 else
                  bif Decidable.decide (x1 = (↑(13 : Nat) : Int)) then
                   k0 ((363 : Int))
                  else
                   bif Decidable.decide (x1 = (↑(14 : Nat) : Int)) then
                    k0 ((318 : Int))
                   else
                    bif Decidable.decide (x1 = (↑(15 : Nat) : Int)) then
                     k0 ((279 : Int))
                    else
                     bif Decidable.decide (x1 = (↑(16 : Nat) : Int)) then
                      k0 ((245 : Int))
                     else
                      bif Decidable.decide (x1 = (↑(17 : Nat) : Int)) then
                       k0 ((215 : Int))
                      else
                       bif Decidable.decide (x1 = (↑(18 : Nat) : Int)) then
                        k0 ((189 : Int))
                       else
                        bif Decidable.decide (x1 = (↑(19 : Nat) : Int)) then
                         k0 ((166 : Int))
                        else
                         bif Decidable.decide (x1 = (↑(20 : Nat) : Int)) then
                          k0 ((146 : Int))
                         else
                          bif Decidable.decide (x1 = (↑(21 : Nat) : Int)) then
                           k0 ((128 : Int))
                          else
                           bif Decidable.decide (x1 = (↑(22 : Nat) : Int)) then
                            k0 ((112 : Int))
                           else
                            bif Decidable.decide (x1 = (↑(23 : Nat) : Int)) then
                             k0 ((98 : Int))
                            else
                             bif Decidable.decide (x1 = (↑(24 : Nat) : Int)) then
                              k0 ((86 : Int))
                             else
                              bif Decidable.decide (x1 = (↑(25 : Nat) : Int)) then
                               k0 ((76 : Int))
                              else
                               bif Decidable.decide (x1 = (↑(26 : Nat) : Int)) then
                                k0 ((67 : Int))
                               else
                                bif Decidable.decide (x1 = (↑(27 : Nat) : Int)) then
                                 k0 ((59 : Int))
                                else
                                 bif Decidable.decide (x1 = (↑(28 : Nat) : Int)) then
                                  k0 ((52 : Int))
                                 else
                                  bif Decidable.decide (x1 = (↑(29 : Nat) : Int)) then
                                   k0 ((46 : Int))
                                  else
                                   bif Decidable.decide (x1 = (↑(30 : Nat) : Int)) then
                                    k0 ((41 : Int))
                                   else
                                    bif Decidable.decide (x1 = (↑(31 : Nat) : Int)) then
                                    k0 ((36 : Int))
                                    else none
    else none
abbrev YF189_bb9 : Type := (Int) → (Int) → ((Int) → Option Ans) → Option Ans
theorem F189_bb9_eq (fuel : Nat) (x0 : Int) (x1 : Int) (k : Ev.Cont) : evalFn tab (G189_bb9 fuel) (J189_bb9 fuel) kp189_bb9 fuel Tryz.f189 [.agg (.int .i64 2048 :: .int .i64 1792 :: .int .i64 1568 :: .int .i64 1372 :: .int .i64 1201 :: .int .i64 1051 :: .int .i64 920 :: .int .i64 805 :: .int .i64 705 :: .int .i64 617 :: .int .i64 540 :: .int .i64 473 :: .int .i64 414 :: .int .i64 363 :: .int .i64 318 :: .int .i64 279 :: .int .i64 245 :: .int .i64 215 :: .int .i64 189 :: .int .i64 166 :: .int .i64 146 :: .int .i64 128 :: .int .i64 112 :: .int .i64 98 :: .int .i64 86 :: .int .i64 76 :: .int .i64 67 :: .int .i64 59 :: .int .i64 52 :: .int .i64 46 :: .int .i64 41 :: .int .i64 36 :: []), .c (.int .i64 x0), .c (.int .i64 x1)] [] k = F_coder_table_chance_bb9 fuel x0 x1 (fun r => match r with | r0 => k (.c (.int .i64 r0), [])) := by
  kernel_rfl
theorem hG189_bb9 (fuel : Nat) : GOK Tryz.prog (G189_bb9 fuel) :=
  gok_nil
theorem fok189_bb9 (fuel : Nat) : FnOK Tryz.prog 189 (evalFn tab (G189_bb9 fuel) (J189_bb9 fuel) kp189_bb9 fuel Tryz.f189) :=
  fn_ok tab_ok (hG189_bb9 fuel) mixed Tryz.func189 (c := (Tryz.f189.body).getD .skip) rfl (fun q hq => by
    rw [(by kernel_rfl : obl (J189_bb9 fuel) ((Tryz.f189.body).getD .skip) = [])] at hq
    cases hq)
noncomputable def mt189_bb9 : List Ev.SV → List Ev.Ob → Bool := fun args objs => match args, objs with
  | [.agg cs0, .c (.int .i64 _), .c (.int .i64 _)], [] => (match splitRun 0 [(.i64, 2048), (.i64, 1792), (.i64, 1568), (.i64, 1372), (.i64, 1201), (.i64, 1051), (.i64, 920), (.i64, 805), (.i64, 705), (.i64, 617), (.i64, 540), (.i64, 473), (.i64, 414), (.i64, 363), (.i64, 318), (.i64, 279), (.i64, 245), (.i64, 215), (.i64, 189), (.i64, 166), (.i64, 146), (.i64, 128), (.i64, 112), (.i64, 98), (.i64, 86), (.i64, 76), (.i64, 67), (.i64, 59), (.i64, 52), (.i64, 46), (.i64, 41), (.i64, 36)] cs0 with | some ([], []) => true | _ => false)
  | _, _ => false
noncomputable def spg189_bb9 (F : YF189_bb9) : Ev.Spec := fun args objs k => match args, objs with
  | [.agg cs0, .c (.int .i64 x0), .c (.int .i64 x1)], [] => (match splitRun 0 [(.i64, 2048), (.i64, 1792), (.i64, 1568), (.i64, 1372), (.i64, 1201), (.i64, 1051), (.i64, 920), (.i64, 805), (.i64, 705), (.i64, 617), (.i64, 540), (.i64, 473), (.i64, 414), (.i64, 363), (.i64, 318), (.i64, 279), (.i64, 245), (.i64, 215), (.i64, 189), (.i64, 166), (.i64, 146), (.i64, 128), (.i64, 112), (.i64, 98), (.i64, 86), (.i64, 76), (.i64, 67), (.i64, 59), (.i64, 52), (.i64, 46), (.i64, 41), (.i64, 36)] cs0 with | some ([], []) => bif true then F x0 x1 (fun r => match r with | r0 => k (.c (.int .i64 r0), [])) else none | _ => none)
  | _, _ => none
noncomputable def spec189_bb9 (fuel : Nat) : Ev.Spec := spg189_bb9 (F_coder_table_chance_bb9 fuel)
theorem ok189_bb9 (fuel : Nat) : FnOK Tryz.prog 189 (spec189_bb9 fuel) := by
  intro args objs kk r h
  unfold spec189_bb9 spg189_bb9 at h
  split at h
  · skip
    split at h
    rotate_left 1
    · cases h
    rename_i hsp
    have esp := splitRun_eq hsp
    subst esp
    obtain ⟨hb, h⟩ := cond_some' h
    simp only [Bool.and_eq_true, Nat.beq_eq, decide_eq_true_eq] at hb
    clear hb
    exact fok189_bb9 fuel _ _ kk r ((F189_bb9_eq fuel _ _ kk).trans h)
  · cases h
end Go.Proofs.YtmjeeaemmbkioaaGreat

set_option linter.unusedVariables false
set_option linter.unusedSimpArgs false
set_option maxRecDepth 100000
set_option maxHeartbeats 2000000
namespace Go.Proofs.YtmjeeaemmbkioaaGreat
open Go Ev
def kp162_402 (i : Nat) : Option (List Nat) := Ev.look i [(200001, [0])]
noncomputable def Gg162_402 (f189_bb9 : YF189_bb9) (f : Nat) : Option Ev.Spec := Ev.look f [(189, spg189_bb9 f189_bb9)]
noncomputable def G162_402 (fuel : Nat) : Nat → Option Ev.Spec := Gg162_402 (F_coder_table_chance_bb9 fuel)
noncomputable def J162_402 (fuel : Nat) (i : Nat) : Option Ev.Blk := Ev.look i []
noncomputable def F_coder_interval_mid_402 (fuel : Nat) (x0 : Int) (x1 : Int) (x2 : Int) (x3 : Int) (x4 : Bool) (x5 : (List Int)) (x6 : (List Int)) (k0 : (Int × Int × Int × Int × Bool × (List Int) × (List Int)) → Option Ans) : Option Ans :=
  bif Decidable.decide ((0 : Int) ≤ x0 ∧ x0 < (↑x5.length : Int)) then
  (F_coder_table_chance_bb9 fuel (x1) (x5.getD x0.toNat (0 : Int))
     (fun y3 =>
       k0 (Go.IntKind.u64.wrap (Go.IntKind.u64.wrap (x2 + Go.IntKind.u64.wrap (Go.IntKind.u64.wrap ((Go.IntKind.u64.wrap (x3 - x2)).tdiv (4096 : Int)) * Go.IntKind.u64.wrap y3)) + Go.IntKind.u64.wrap ((Go.IntKind.u64.wrap ((Go.IntKind.u64.wrap (x3 - x2)).tmod (4096 : Int) * Go.IntKind.u64.wrap y3)).tdiv (4096 : Int))), x1, x2, x3, x4, x5, x6)))
  else none
abbrev YF162_402 : Type := (Int) → (Int) → (Int) → (Int) → (Bool) → ((List Int)) → ((List Int)) → ((Int × Int × Int × Int × Bool × (List Int) × (List Int)) → Option Ans) → Option Ans
theorem F162_402_eqg (fuel : Nat) (f189_bb9 : YF189_bb9) (x0 : Int) (x1 : Int) (x2 : Int) (x3 : Int) (x4 : Bool) (x5 : (List Int)) (x6 : (List Int)) (k : Ev.Cont) : evalFn tab (Gg162_402 f189_bb9) (J162_402 fuel) kp162_402 fuel Tryz.f162 [.c (.ptr 0 0), .c (.int .i64 x0)] [.cells 164 (.int .i64 x1 :: .own 1 :: .int .i64 2048 :: .int .i64 1792 :: .int .i64 1568 :: .int .i64 1372 :: .int .i64 1201 :: .int .i64 1051 :: .int .i64 920 :: .int .i64 805 :: .int .i64 705 :: .int .i64 617 :: .int .i64 540 :: .int .i64 473 :: .int .i64 414 :: .int .i64 363 :: .int .i64 318 :: .int .i64 279 :: .int .i64 245 :: .int .i64 215 :: .int .i64 189 :: .int .i64 166 :: .int .i64 146 :: .int .i64 128 :: .int .i64 112 :: .int .i64 98 :: .int .i64 86 :: .int .i64 76 :: .int .i64 67 :: .int .i64 59 :: .int .i64 52 :: .int .i64 46 :: .int .i64 41 :: .int .i64 36 :: .int .u64 x2 :: .int .u64 x3 :: .own 2 :: .bool x4 :: []), .vec 3 (.int .i64) x5 false, .vec 5 (.int .u8) x6 false] k = (fun  (k0 : (Int × Int × Int × Int × Bool × (List Int) × (List Int)) → Option Ans) =>
  bif Decidable.decide ((0 : Int) ≤ x0 ∧ x0 < (↑x5.length : Int)) then
  (f189_bb9 (x1) (x5.getD x0.toNat (0 : Int))
     (fun y3 =>
       k0 (Go.IntKind.u64.wrap (Go.IntKind.u64.wrap (x2 + Go.IntKind.u64.wrap (Go.IntKind.u64.wrap ((Go.IntKind.u64.wrap (x3 - x2)).tdiv (4096 : Int)) * Go.IntKind.u64.wrap y3)) + Go.IntKind.u64.wrap ((Go.IntKind.u64.wrap ((Go.IntKind.u64.wrap (x3 - x2)).tmod (4096 : Int) * Go.IntKind.u64.wrap y3)).tdiv (4096 : Int))), x1, x2, x3, x4, x5, x6)))
  else none) (fun r => match r with | (r0, r1, r2, r3, r4, r5, r6) => k (.c (.int .u64 r0), [.cells 164 (.int .i64 r1 :: .own 1 :: .int .i64 2048 :: .int .i64 1792 :: .int .i64 1568 :: .int .i64 1372 :: .int .i64 1201 :: .int .i64 1051 :: .int .i64 920 :: .int .i64 805 :: .int .i64 705 :: .int .i64 617 :: .int .i64 540 :: .int .i64 473 :: .int .i64 414 :: .int .i64 363 :: .int .i64 318 :: .int .i64 279 :: .int .i64 245 :: .int .i64 215 :: .int .i64 189 :: .int .i64 166 :: .int .i64 146 :: .int .i64 128 :: .int .i64 112 :: .int .i64 98 :: .int .i64 86 :: .int .i64 76 :: .int .i64 67 :: .int .i64 59 :: .int .i64 52 :: .int .i64 46 :: .int .i64 41 :: .int .i64 36 :: .int .u64 r2 :: .int .u64 r3 :: .own 2 :: .bool r4 :: []), .vec 3 (.int .i64) r5 false, .vec 5 (.int .u8) r6 false])) := by
  kernel_rfl
theorem F162_402_eq (fuel : Nat) (x0 : Int) (x1 : Int) (x2 : Int) (x3 : Int) (x4 : Bool) (x5 : (List Int)) (x6 : (List Int)) (k : Ev.Cont) : evalFn tab (G162_402 fuel) (J162_402 fuel) kp162_402 fuel Tryz.f162 [.c (.ptr 0 0), .c (.int .i64 x0)] [.cells 164 (.int .i64 x1 :: .own 1 :: .int .i64 2048 :: .int .i64 1792 :: .int .i64 1568 :: .int .i64 1372 :: .int .i64 1201 :: .int .i64 1051 :: .int .i64 920 :: .int .i64 805 :: .int .i64 705 :: .int .i64 617 :: .int .i64 540 :: .int .i64 473 :: .int .i64 414 :: .int .i64 363 :: .int .i64 318 :: .int .i64 279 :: .int .i64 245 :: .int .i64 215 :: .int .i64 189 :: .int .i64 166 :: .int .i64 146 :: .int .i64 128 :: .int .i64 112 :: .int .i64 98 :: .int .i64 86 :: .int .i64 76 :: .int .i64 67 :: .int .i64 59 :: .int .i64 52 :: .int .i64 46 :: .int .i64 41 :: .int .i64 36 :: .int .u64 x2 :: .int .u64 x3 :: .own 2 :: .bool x4 :: []), .vec 3 (.int .i64) x5 false, .vec 5 (.int .u8) x6 false] k = F_coder_interval_mid_402 fuel x0 x1 x2 x3 x4 x5 x6 (fun r => match r with | (r0, r1, r2, r3, r4, r5, r6) => k (.c (.int .u64 r0), [.cells 164 (.int .i64 r1 :: .own 1 :: .int .i64 2048 :: .int .i64 1792 :: .int .i64 1568 :: .int .i64 1372 :: .int .i64 1201 :: .int .i64 1051 :: .int .i64 920 :: .int .i64 805 :: .int .i64 705 :: .int .i64 617 :: .int .i64 540 :: .int .i64 473 :: .int .i64 414 :: .int .i64 363 :: .int .i64 318 :: .int .i64 279 :: .int .i64 245 :: .int .i64 215 :: .int .i64 189 :: .int .i64 166 :: .int .i64 146 :: .int .i64 128 :: .int .i64 112 :: .int .i64 98 :: .int .i64 86 :: .int .i64 76 :: .int .i64 67 :: .int .i64 59 :: .int .i64 52 :: .int .i64 46 :: .int .i64 41 :: .int .i64 36 :: .int .u64 r2 :: .int .u64 r3 :: .own 2 :: .bool r4 :: []), .vec 3 (.int .i64) r5 false, .vec 5 (.int .u8) r6 false])) :=
  F162_402_eqg fuel (F_coder_table_chance_bb9 fuel) x0 x1 x2 x3 x4 x5 x6 k
theorem hG162_402 (fuel : Nat) : GOK Tryz.prog (G162_402 fuel) :=
  gok_cons ⟨ok189_bb9 fuel, enters_of Tryz.func189 (by kernel_rfl) rfl⟩ <|
  gok_nil
theorem fok162_402 (fuel : Nat) : FnOK Tryz.prog 162 (evalFn tab (G162_402 fuel) (J162_402 fuel) kp162_402 fuel Tryz.f162) :=
  fn_ok tab_ok (hG162_402 fuel) mixed Tryz.func162 (c := (Tryz.f162.body).getD .skip) rfl (fun q hq => by
    rw [(by kernel_rfl : obl (J162_402 fuel) ((Tryz.f162.body).getD .skip) = [])] at hq
    cases hq)
noncomputable def mt162_402 : List Ev.SV → List Ev.Ob → Bool := fun args objs => match args, objs with
  | [.c (.ptr q0 q1), .c (.int .i64 _)], [.cells q2 cs0, .vec q3 (.int .i64) _ false, .vec q4 (.int .u8) _ false] => (match splitRun 2 [(.i64, 2048), (.i64, 1792), (.i64, 1568), (.i64, 1372), (.i64, 1201), (.i64, 1051), (.i64, 920), (.i64, 805), (.i64, 705), (.i64, 617), (.i64, 540), (.i64, 473), (.i64, 414), (.i64, 363), (.i64, 318), (.i64, 279), (.i64, 245), (.i64, 215), (.i64, 189), (.i64, 166), (.i64, 146), (.i64, 128), (.i64, 112), (.i64, 98), (.i64, 86), (.i64, 76), (.i64, 67), (.i64, 59), (.i64, 52), (.i64, 46), (.i64, 41), (.i64, 36)] cs0 with | some ([.int .i64 _, .own q5], [.int .u64 _, .int .u64 _, .own q6, .bool _]) => Nat.beq q0 0 && Nat.beq q1 0 && Nat.beq q2 164 && Nat.beq q3 3 && Nat.beq q4 5 && Nat.beq q5 1 && Nat.beq q6 2 | _ => false)
  | _, _ => false
noncomputable def spg162_402 (F : YF162_402) : Ev.Spec := fun args objs k => match args, objs with
  | [.c (.ptr q0 q1), .c (.int .i64 x0)], [.cells q2 cs0, .vec q3 (.int .i64) x5 false, .vec q4 (.int .u8) x6 false] => (match splitRun 2 [(.i64, 2048), (.i64, 1792), (.i64, 1568), (.i64, 1372), (.i64, 1201), (.i64, 1051), (.i64, 920), (.i64, 805), (.i64, 705), (.i64, 617), (.i64, 540), (.i64, 473), (.i64, 414), (.i64, 363), (.i64, 318), (.i64, 279), (.i64, 245), (.i64, 215), (.i64, 189), (.i64, 166), (.i64, 146), (.i64, 128), (.i64, 112), (.i64, 98), (.i64, 86), (.i64, 76), (.i64, 67), (.i64, 59), (.i64, 52), (.i64, 46), (.i64, 41), (.i64, 36)] cs0 with | some ([.int .i64 x1, .own q5], [.int .u64 x2, .int .u64 x3, .own q6, .bool x4]) => bif Nat.beq q0 0 && Nat.beq q1 0 && Nat.beq q2 164 && Nat.beq q3 3 && Nat.beq q4 5 && Nat.beq q5 1 && Nat.beq q6 2 then F x0 x1 x2 x3 x4 x5 x6 (fun r => match r with | (r0, r1, r2, r3, r4, r5, r6) => k (.c (.int .u64 r0), [.cells 164 (.int .i64 r1 :: .own 1 :: .int .i64 2048 :: .int .i64 1792 :: .int .i64 1568 :: .int .i64 1372 :: .int .i64 1201 :: .int .i64 1051 :: .int .i64 920 :: .int .i64 805 :: .int .i64 705 :: .int .i64 617 :: .int .i64 540 :: .int .i64 473 :: .int .i64 414 :: .int .i64 363 :: .int .i64 318 :: .int .i64 279 :: .int .i64 245 :: .int .i64 215 :: .int .i64 189 :: .int .i64 166 :: .int .i64 146 :: .int .i64 128 :: .int .i64 112 :: .int .i64 98 :: .int .i64 86 :: .int .i64 76 :: .int .i64 67 :: .int .i64 59 :: .int .i64 52 :: .int .i64 46 :: .int .i64 41 :: .int .i64 36 :: .int .u64 r2 :: .int .u64 r3 :: .own 2 :: .bool r4 :: []), .vec 3 (.int .i64) r5 false, .vec 5 (.int .u8) r6 false])) else none | _ => none)
  | _, _ => none
noncomputable def spec162_402 (fuel : Nat) : Ev.Spec := spg162_402 (F_coder_interval_mid_402 fuel)
theorem ok162_402 (fuel : Nat) : FnOK Tryz.prog 162 (spec162_402 fuel) := by
  intro args objs kk r h
  unfold spec162_402 spg162_402 at h
  split at h
  · skip
    split at h
    rotate_left 1
    · cases h
    rename_i hsp
    have esp := splitRun_eq hsp
    subst esp
    obtain ⟨hb, h⟩ := cond_some' h
    simp only [Bool.and_eq_true, Nat.beq_eq, decide_eq_true_eq] at hb
    obtain ⟨⟨⟨⟨⟨⟨rfl, rfl⟩, rfl⟩, rfl⟩, rfl⟩, rfl⟩, rfl⟩ := hb
    exact fok162_402 fuel _ _ kk r ((F162_402_eq fuel _ _ _ _ _ _ _ kk).trans h)
  · cases h
end Go.Proofs.YtmjeeaemmbkioaaGreat

