/- What the functions that FileReads reaches do: their typed texts, each with the proof that the machine does it. No condition. -/
import Derived.Test.YtihfgpfofmjbaaaEvX
import Derived.Test.YtihfgpfofmjbaaaFsFileReads1
set_option linter.unusedVariables false
set_option linter.unusedSimpArgs false
set_option linter.unusedVariables false
set_option linter.unusedSimpArgs false
set_option maxRecDepth 100000
set_option maxHeartbeats 2000000
namespace Go.Proofs.Ytihfgpfofmjbaaa
open Go Ev
def kp132 (i : Nat) : Option (List Nat) := Ev.look i []
noncomputable def Gg132 (f103_f32 : YF103_f32) (f172_857 : YF172_857) (f190 : YF190) (f191_f32 : YF191_f32) (f192_f32 : YF192_f32) (f : Nat) : Option Ev.Spec := Ev.look f [(103, spg103_f32 f103_f32), (172, spg172_857 f172_857), (190, spg190 f190), (191, spg191_f32 f191_f32), (192, spg192_f32 f192_f32)]
noncomputable def G132 (fuel : Nat) : Nat → Option Ev.Spec := Gg132 (F_file_reader_finish_f32 fuel) (F_file_reader_fail_857 fuel) (F_strings_HasPrefix fuel) (F_file_reader_random_f32 fuel) (F_file_reader_sequence_f32 fuel)
noncomputable def J132 (fuel : Nat) (i : Nat) : Option Ev.Blk := Ev.look i []
noncomputable def Fg_file_read (fuel : Nat) (f103_f32 : YF103_f32) (f172_857 : YF172_857) (f190 : YF190) (f191_f32 : YF191_f32) (f192_f32 : YF192_f32) (x0 : (List Int)) (k0 : (Int × (List Int) × Int × Int × Int × (List (Int × (Int × (Int × ((List Int) × ((List Bool) × (List Int))))))) × (List Int) × (List Int)) → Option Ans) : Option Ans :=
  bif decide ((↑x0.length : Int) > (40000 : Int)) then
  (f172_857 ((0 : Int)) ((4 : Int)) (x0) ((5 : Int)) ((0 : Int)) ((0 : Int)) ([]) ([]) ([])
  (fun (y3_0, y3_1, y3_2, y3_3, y3_4, y3_5, y3_6) =>
  bif y3_3 != (0 : Int) then
  k0 ((0 : Int), y3_0, y3_1, y3_2, y3_3, y3_4, y3_5, y3_6)
  else
  bif decide ((0 : Int) ≤ (4 : Int) ∧ (4 : Int) < (↑x0.length : Int)) then
  bif IntKind.i64.wrap (x0.getD (Int.toNat (4 : Int)) (0 : Int)) == (1 : Int) then
  (f191_f32 (y3_0) (y3_1) (y3_2) (y3_3) (y3_4) (y3_5) (y3_6)
  (fun (y10_0, y10_1, y10_2, y10_3, y10_4, y10_5, y10_6) =>
  bif y10_3 == (0 : Int) then
  bif decide (y10_1 < (↑x0.length : Int)) then
  (f172_857 (y10_1) ((60 : Int)) (y10_0) (y10_1) (y10_2) (y10_3) (y10_4) (y10_5) (y10_6)
  (fun (y16_0, y16_1, y16_2, y16_3, y16_4, y16_5, y16_6) =>
  (f103_f32 (y16_0) (y16_1) (y16_2) (y16_3) (y16_4) (y16_5) (y16_6)
  (fun (y20_0, y20_1, y20_2, y20_3, y20_4, y20_5, y20_6) =>
  k0 (IntKind.i64.wrap (x0.getD (Int.toNat (4 : Int)) (0 : Int)), y20_0, y20_1, y20_2, y20_3, y20_4, y20_5, y20_6)))))
  else
  (f103_f32 (y10_0) (y10_1) (y10_2) (y10_3) (y10_4) (y10_5) (y10_6)
  (fun (y16_0, y16_1, y16_2, y16_3, y16_4, y16_5, y16_6) =>
  k0 (IntKind.i64.wrap (x0.getD (Int.toNat (4 : Int)) (0 : Int)), y16_0, y16_1, y16_2, y16_3, y16_4, y16_5, y16_6)))
  else
  (f103_f32 (y10_0) (y10_1) (y10_2) (y10_3) (y10_4) (y10_5) (y10_6)
  (fun (y15_0, y15_1, y15_2, y15_3, y15_4, y15_5, y15_6) =>
  k0 (IntKind.i64.wrap (x0.getD (Int.toNat (4 : Int)) (0 : Int)), y15_0, y15_1, y15_2, y15_3, y15_4, y15_5, y15_6)))))
  else
  (f192_f32 (y3_0) (y3_1) (y3_2) (y3_3) (y3_4) (y3_5) (y3_6)
  (fun (y10_0, y10_1, y10_2, y10_3, y10_4, y10_5, y10_6) =>
  bif y10_3 == (0 : Int) then
  bif decide (y10_1 < (↑x0.length : Int)) then
  (f172_857 (y10_1) ((60 : Int)) (y10_0) (y10_1) (y10_2) (y10_3) (y10_4) (y10_5) (y10_6)
  (fun (y16_0, y16_1, y16_2, y16_3, y16_4, y16_5, y16_6) =>
  (f103_f32 (y16_0) (y16_1) (y16_2) (y16_3) (y16_4) (y16_5) (y16_6)
  (fun (y20_0, y20_1, y20_2, y20_3, y20_4, y20_5, y20_6) =>
  k0 (IntKind.i64.wrap (x0.getD (Int.toNat (4 : Int)) (0 : Int)), y20_0, y20_1, y20_2, y20_3, y20_4, y20_5, y20_6)))))
  else
  (f103_f32 (y10_0) (y10_1) (y10_2) (y10_3) (y10_4) (y10_5) (y10_6)
  (fun (y16_0, y16_1, y16_2, y16_3, y16_4, y16_5, y16_6) =>
  k0 (IntKind.i64.wrap (x0.getD (Int.toNat (4 : Int)) (0 : Int)), y16_0, y16_1, y16_2, y16_3, y16_4, y16_5, y16_6)))
  else
  (f103_f32 (y10_0) (y10_1) (y10_2) (y10_3) (y10_4) (y10_5) (y10_6)
  (fun (y15_0, y15_1, y15_2, y15_3, y15_4, y15_5, y15_6) =>
  k0 (IntKind.i64.wrap (x0.getD (Int.toNat (4 : Int)) (0 : Int)), y15_0, y15_1, y15_2, y15_3, y15_4, y15_5, y15_6)))))
  else none))
  else
  bif decide ((↑x0.length : Int) < (5 : Int)) then
  (f172_857 ((0 : Int)) ((3 : Int)) (x0) ((5 : Int)) ((0 : Int)) ((0 : Int)) ([]) ([]) ([])
  (fun (y4_0, y4_1, y4_2, y4_3, y4_4, y4_5, y4_6) =>
  bif y4_3 != (0 : Int) then
  k0 ((0 : Int), y4_0, y4_1, y4_2, y4_3, y4_4, y4_5, y4_6)
  else
  bif decide ((0 : Int) ≤ (4 : Int) ∧ (4 : Int) < (↑x0.length : Int)) then
  bif IntKind.i64.wrap (x0.getD (Int.toNat (4 : Int)) (0 : Int)) == (1 : Int) then
  (f191_f32 (y4_0) (y4_1) (y4_2) (y4_3) (y4_4) (y4_5) (y4_6)
  (fun (y11_0, y11_1, y11_2, y11_3, y11_4, y11_5, y11_6) =>
  bif y11_3 == (0 : Int) then
  bif decide (y11_1 < (↑x0.length : Int)) then
  (f172_857 (y11_1) ((60 : Int)) (y11_0) (y11_1) (y11_2) (y11_3) (y11_4) (y11_5) (y11_6)
  (fun (y17_0, y17_1, y17_2, y17_3, y17_4, y17_5, y17_6) =>
  (f103_f32 (y17_0) (y17_1) (y17_2) (y17_3) (y17_4) (y17_5) (y17_6)
  (fun (y21_0, y21_1, y21_2, y21_3, y21_4, y21_5, y21_6) =>
  k0 (IntKind.i64.wrap (x0.getD (Int.toNat (4 : Int)) (0 : Int)), y21_0, y21_1, y21_2, y21_3, y21_4, y21_5, y21_6)))))
  else
  (f103_f32 (y11_0) (y11_1) (y11_2) (y11_3) (y11_4) (y11_5) (y11_6)
  (fun (y17_0, y17_1, y17_2, y17_3, y17_4, y17_5, y17_6) =>
  k0 (IntKind.i64.wrap (x0.getD (Int.toNat (4 : Int)) (0 : Int)), y17_0, y17_1, y17_2, y17_3, y17_4, y17_5, y17_6)))
  else
  (f103_f32 (y11_0) (y11_1) (y11_2) (y11_3) (y11_4) (y11_5) (y11_6)
  (fun (y16_0, y16_1, y16_2, y16_3, y16_4, y16_5, y16_6) =>
  k0 (IntKind.i64.wrap (x0.getD (Int.toNat (4 : Int)) (0 : Int)), y16_0, y16_1, y16_2, y16_3, y16_4, y16_5, y16_6)))))
  else
  (f192_f32 (y4_0) (y4_1) (y4_2) (y4_3) (y4_4) (y4_5) (y4_6)
  (fun (y11_0, y11_1, y11_2, y11_3, y11_4, y11_5, y11_6) =>
  bif y11_3 == (0 : Int) then
  bif decide (y11_1 < (↑x0.length : Int)) then
  (f172_857 (y11_1) ((60 : Int)) (y11_0) (y11_1) (y11_2) (y11_3) (y11_4) (y11_5) (y11_6)
  (fun (y17_0, y17_1, y17_2, y17_3, y17_4, y17_5, y17_6) =>
  (f103_f32 (y17_0) (y17_1) (y17_2) (y17_3) (y17_4) (y17_5) (y17_6)
  (fun (y21_0, y21_1, y21_2, y21_3, y21_4, y21_5, y21_6) =>
  k0 (IntKind.i64.wrap (x0.getD (Int.toNat (4 : Int)) (0 : Int)), y21_0, y21_1, y21_2, y21_3, y21_4, y21_5, y21_6)))))
  else
  (f103_f32 (y11_0) (y11_1) (y11_2) (y11_3) (y11_4) (y11_5) (y11_6)
  (fun (y17_0, y17_1, y17_2, y17_3, y17_4, y17_5, y17_6) =>
  k0 (IntKind.i64.wrap (x0.getD (Int.toNat (4 : Int)) (0 : Int)), y17_0, y17_1, y17_2, y17_3, y17_4, y17_5, y17_6)))
  else
  (f103_f32 (y11_0) (y11_1) (y11_2) (y11_3) (y11_4) (y11_5) (y11_6)
  (fun (y16_0, y16_1, y16_2, y16_3, y16_4, y16_5, y16_6) =>
  k0 (IntKind.i64.wrap (x0.getD (Int.toNat (4 : Int)) (0 : Int)), y16_0, y16_1, y16_2, y16_3, y16_4, y16_5, y16_6)))))
  else none))
  else
  (f190 (Go.strOfNums x0) (ByteArray.mk #[(73 : UInt8), (78 : UInt8), (67 : UInt8), (49 : UInt8)])
  (fun y4 =>
  bif !y4 then
  (f172_857 ((0 : Int)) ((3 : Int)) (x0) ((5 : Int)) ((0 : Int)) ((0 : Int)) ([]) ([]) ([])
  (fun (y9_0, y9_1, y9_2, y9_3, y9_4, y9_5, y9_6) =>
  bif y9_3 != (0 : Int) then
  k0 ((0 : Int), y9_0, y9_1, y9_2, y9_3, y9_4, y9_5, y9_6)
  else
  bif decide ((0 : Int) ≤ (4 : Int) ∧ (4 : Int) < (↑x0.length : Int)) then
  bif IntKind.i64.wrap (x0.getD (Int.toNat (4 : Int)) (0 : Int)) == (1 : Int) then
  (f191_f32 (y9_0) (y9_1) (y9_2) (y9_3) (y9_4) (y9_5) (y9_6)
  (fun (y16_0, y16_1, y16_2, y16_3, y16_4, y16_5, y16_6) =>
  bif y16_3 == (0 : Int) then
  bif decide (y16_1 < (↑x0.length : Int)) then
  (f172_857 (y16_1) ((60 : Int)) (y16_0) (y16_1) (y16_2) (y16_3) (y16_4) (y16_5) (y16_6)
  (fun (y22_0, y22_1, y22_2, y22_3, y22_4, y22_5, y22_6) =>
  (f103_f32 (y22_0) (y22_1) (y22_2) (y22_3) (y22_4) (y22_5) (y22_6)
  (fun (y26_0, y26_1, y26_2, y26_3, y26_4, y26_5, y26_6) =>
  k0 (IntKind.i64.wrap (x0.getD (Int.toNat (4 : Int)) (0 : Int)), y26_0, y26_1, y26_2, y26_3, y26_4, y26_5, y26_6)))))
  else
  (f103_f32 (y16_0) (y16_1) (y16_2) (y16_3) (y16_4) (y16_5) (y16_6)
  (fun (y22_0, y22_1, y22_2, y22_3, y22_4, y22_5, y22_6) =>
  k0 (IntKind.i64.wrap (x0.getD (Int.toNat (4 : Int)) (0 : Int)), y22_0, y22_1, y22_2, y22_3, y22_4, y22_5, y22_6)))
  else
  (f103_f32 (y16_0) (y16_1) (y16_2) (y16_3) (y16_4) (y16_5) (y16_6)
  (fun (y21_0, y21_1, y21_2, y21_3, y21_4, y21_5, y21_6) =>
  k0 (IntKind.i64.wrap (x0.getD (Int.toNat (4 : Int)) (0 : Int)), y21_0, y21_1, y21_2, y21_3, y21_4, y21_5, y21_6)))))
  else
  (f192_f32 (y9_0) (y9_1) (y9_2) (y9_3) (y9_4) (y9_5) (y9_6)
  (fun (y16_0, y16_1, y16_2, y16_3, y16_4, y16_5, y16_6) =>
  bif y16_3 == (0 : Int) then
  bif decide (y16_1 < (↑x0.length : Int)) then
  (f172_857 (y16_1) ((60 : Int)) (y16_0) (y16_1) (y16_2) (y16_3) (y16_4) (y16_5) (y16_6)
  (fun (y22_0, y22_1, y22_2, y22_3, y22_4, y22_5, y22_6) =>
  (f103_f32 (y22_0) (y22_1) (y22_2) (y22_3) (y22_4) (y22_5) (y22_6)
  (fun (y26_0, y26_1, y26_2, y26_3, y26_4, y26_5, y26_6) =>
  k0 (IntKind.i64.wrap (x0.getD (Int.toNat (4 : Int)) (0 : Int)), y26_0, y26_1, y26_2, y26_3, y26_4, y26_5, y26_6)))))
  else
  (f103_f32 (y16_0) (y16_1) (y16_2) (y16_3) (y16_4) (y16_5) (y16_6)
  (fun (y22_0, y22_1, y22_2, y22_3, y22_4, y22_5, y22_6) =>
  k0 (IntKind.i64.wrap (x0.getD (Int.toNat (4 : Int)) (0 : Int)), y22_0, y22_1, y22_2, y22_3, y22_4, y22_5, y22_6)))
  else
  (f103_f32 (y16_0) (y16_1) (y16_2) (y16_3) (y16_4) (y16_5) (y16_6)
  (fun (y21_0, y21_1, y21_2, y21_3, y21_4, y21_5, y21_6) =>
  k0 (IntKind.i64.wrap (x0.getD (Int.toNat (4 : Int)) (0 : Int)), y21_0, y21_1, y21_2, y21_3, y21_4, y21_5, y21_6)))))
  else none))
  else
  bif decide ((0 : Int) ≤ (4 : Int) ∧ (4 : Int) < (↑x0.length : Int)) then
  bif decide (x0.getD (Int.toNat (4 : Int)) (0 : Int) > (1 : Int)) then
  (f172_857 ((0 : Int)) ((3 : Int)) (x0) ((5 : Int)) ((0 : Int)) ((0 : Int)) ([]) ([]) ([])
  (fun (y11_0, y11_1, y11_2, y11_3, y11_4, y11_5, y11_6) =>
  bif y11_3 != (0 : Int) then
  k0 ((0 : Int), y11_0, y11_1, y11_2, y11_3, y11_4, y11_5, y11_6)
  else
  bif decide ((0 : Int) ≤ (4 : Int) ∧ (4 : Int) < (↑x0.length : Int)) then
  bif IntKind.i64.wrap (x0.getD (Int.toNat (4 : Int)) (0 : Int)) == (1 : Int) then
  (f191_f32 (y11_0) (y11_1) (y11_2) (y11_3) (y11_4) (y11_5) (y11_6)
  (fun (y18_0, y18_1, y18_2, y18_3, y18_4, y18_5, y18_6) =>
  bif y18_3 == (0 : Int) then
  bif decide (y18_1 < (↑x0.length : Int)) then
  (f172_857 (y18_1) ((60 : Int)) (y18_0) (y18_1) (y18_2) (y18_3) (y18_4) (y18_5) (y18_6)
  (fun (y24_0, y24_1, y24_2, y24_3, y24_4, y24_5, y24_6) =>
  (f103_f32 (y24_0) (y24_1) (y24_2) (y24_3) (y24_4) (y24_5) (y24_6)
  (fun (y28_0, y28_1, y28_2, y28_3, y28_4, y28_5, y28_6) =>
  k0 (IntKind.i64.wrap (x0.getD (Int.toNat (4 : Int)) (0 : Int)), y28_0, y28_1, y28_2, y28_3, y28_4, y28_5, y28_6)))))
  else
  (f103_f32 (y18_0) (y18_1) (y18_2) (y18_3) (y18_4) (y18_5) (y18_6)
  (fun (y24_0, y24_1, y24_2, y24_3, y24_4, y24_5, y24_6) =>
  k0 (IntKind.i64.wrap (x0.getD (Int.toNat (4 : Int)) (0 : Int)), y24_0, y24_1, y24_2, y24_3, y24_4, y24_5, y24_6)))
  else
  (f103_f32 (y18_0) (y18_1) (y18_2) (y18_3) (y18_4) (y18_5) (y18_6)
  (fun (y23_0, y23_1, y23_2, y23_3, y23_4, y23_5, y23_6) =>
  k0 (IntKind.i64.wrap (x0.getD (Int.toNat (4 : Int)) (0 : Int)), y23_0, y23_1, y23_2, y23_3, y23_4, y23_5, y23_6)))))
  else
  (f192_f32 (y11_0) (y11_1) (y11_2) (y11_3) (y11_4) (y11_5) (y11_6)
  (fun (y18_0, y18_1, y18_2, y18_3, y18_4, y18_5, y18_6) =>
  bif y18_3 == (0 : Int) then
  bif decide (y18_1 < (↑x0.length : Int)) then
  (f172_857 (y18_1) ((60 : Int)) (y18_0) (y18_1) (y18_2) (y18_3) (y18_4) (y18_5) (y18_6)
  (fun (y24_0, y24_1, y24_2, y24_3, y24_4, y24_5, y24_6) =>
  (f103_f32 (y24_0) (y24_1) (y24_2) (y24_3) (y24_4) (y24_5) (y24_6)
  (fun (y28_0, y28_1, y28_2, y28_3, y28_4, y28_5, y28_6) =>
  k0 (IntKind.i64.wrap (x0.getD (Int.toNat (4 : Int)) (0 : Int)), y28_0, y28_1, y28_2, y28_3, y28_4, y28_5, y28_6)))))
  else
  (f103_f32 (y18_0) (y18_1) (y18_2) (y18_3) (y18_4) (y18_5) (y18_6)
  (fun (y24_0, y24_1, y24_2, y24_3, y24_4, y24_5, y24_6) =>
  k0 (IntKind.i64.wrap (x0.getD (Int.toNat (4 : Int)) (0 : Int)), y24_0, y24_1, y24_2, y24_3, y24_4, y24_5, y24_6)))
  else
  (f103_f32 (y18_0) (y18_1) (y18_2) (y18_3) (y18_4) (y18_5) (y18_6)
  (fun (y23_0, y23_1, y23_2, y23_3, y23_4, y23_5, y23_6) =>
  k0 (IntKind.i64.wrap (x0.getD (Int.toNat (4 : Int)) (0 : Int)), y23_0, y23_1, y23_2, y23_3, y23_4, y23_5, y23_6)))))
  else none))
  else
  bif decide ((0 : Int) ≤ (4 : Int) ∧ (4 : Int) < (↑x0.length : Int)) then
  bif IntKind.i64.wrap (x0.getD (Int.toNat (4 : Int)) (0 : Int)) == (1 : Int) then
  (f191_f32 (x0) ((5 : Int)) ((0 : Int)) ((0 : Int)) ([]) ([]) ([])
  (fun (y13_0, y13_1, y13_2, y13_3, y13_4, y13_5, y13_6) =>
  bif y13_3 == (0 : Int) then
  bif decide (y13_1 < (↑x0.length : Int)) then
  (f172_857 (y13_1) ((60 : Int)) (y13_0) (y13_1) (y13_2) (y13_3) (y13_4) (y13_5) (y13_6)
  (fun (y19_0, y19_1, y19_2, y19_3, y19_4, y19_5, y19_6) =>
  (f103_f32 (y19_0) (y19_1) (y19_2) (y19_3) (y19_4) (y19_5) (y19_6)
  (fun (y23_0, y23_1, y23_2, y23_3, y23_4, y23_5, y23_6) =>
  k0 (IntKind.i64.wrap (x0.getD (Int.toNat (4 : Int)) (0 : Int)), y23_0, y23_1, y23_2, y23_3, y23_4, y23_5, y23_6)))))
  else
  (f103_f32 (y13_0) (y13_1) (y13_2) (y13_3) (y13_4) (y13_5) (y13_6)
  (fun (y19_0, y19_1, y19_2, y19_3, y19_4, y19_5, y19_6) =>
  k0 (IntKind.i64.wrap (x0.getD (Int.toNat (4 : Int)) (0 : Int)), y19_0, y19_1, y19_2, y19_3, y19_4, y19_5, y19_6)))
  else
  (f103_f32 (y13_0) (y13_1) (y13_2) (y13_3) (y13_4) (y13_5) (y13_6)
  (fun (y18_0, y18_1, y18_2, y18_3, y18_4, y18_5, y18_6) =>
  k0 (IntKind.i64.wrap (x0.getD (Int.toNat (4 : Int)) (0 : Int)), y18_0, y18_1, y18_2, y18_3, y18_4, y18_5, y18_6)))))
  else
  (f192_f32 (x0) ((5 : Int)) ((0 : Int)) ((0 : Int)) ([]) ([]) ([])
  (fun (y13_0, y13_1, y13_2, y13_3, y13_4, y13_5, y13_6) =>
  bif y13_3 == (0 : Int) then
  bif decide (y13_1 < (↑x0.length : Int)) then
  (f172_857 (y13_1) ((60 : Int)) (y13_0) (y13_1) (y13_2) (y13_3) (y13_4) (y13_5) (y13_6)
  (fun (y19_0, y19_1, y19_2, y19_3, y19_4, y19_5, y19_6) =>
  (f103_f32 (y19_0) (y19_1) (y19_2) (y19_3) (y19_4) (y19_5) (y19_6)
  (fun (y23_0, y23_1, y23_2, y23_3, y23_4, y23_5, y23_6) =>
  k0 (IntKind.i64.wrap (x0.getD (Int.toNat (4 : Int)) (0 : Int)), y23_0, y23_1, y23_2, y23_3, y23_4, y23_5, y23_6)))))
  else
  (f103_f32 (y13_0) (y13_1) (y13_2) (y13_3) (y13_4) (y13_5) (y13_6)
  (fun (y19_0, y19_1, y19_2, y19_3, y19_4, y19_5, y19_6) =>
  k0 (IntKind.i64.wrap (x0.getD (Int.toNat (4 : Int)) (0 : Int)), y19_0, y19_1, y19_2, y19_3, y19_4, y19_5, y19_6)))
  else
  (f103_f32 (y13_0) (y13_1) (y13_2) (y13_3) (y13_4) (y13_5) (y13_6)
  (fun (y18_0, y18_1, y18_2, y18_3, y18_4, y18_5, y18_6) =>
  k0 (IntKind.i64.wrap (x0.getD (Int.toNat (4 : Int)) (0 : Int)), y18_0, y18_1, y18_2, y18_3, y18_4, y18_5, y18_6)))))
  else none
  else none))
noncomputable def F_file_read (fuel : Nat) (x0 : (List Int)) (k0 : (Int × (List Int) × Int × Int × Int × (List (Int × (Int × (Int × ((List Int) × ((List Bool) × (List Int))))))) × (List Int) × (List Int)) → Option Ans) : Option Ans := Fg_file_read fuel (F_file_reader_finish_f32 fuel) (F_file_reader_fail_857 fuel) (F_strings_HasPrefix fuel) (F_file_reader_random_f32 fuel) (F_file_reader_sequence_f32 fuel) x0 k0
abbrev YF132 : Type := ((List Int)) → ((Int × (List Int) × Int × Int × Int × (List (Int × (Int × (Int × ((List Int) × ((List Bool) × (List Int))))))) × (List Int) × (List Int)) → Option Ans) → Option Ans
theorem F132_eqg (fuel : Nat) (f103_f32 : YF103_f32) (f172_857 : YF172_857) (f190 : YF190) (f191_f32 : YF191_f32) (f192_f32 : YF192_f32) (x0 : (List Int)) (k : Ev.Cont) : evalFn tab (Gg132 f103_f32 f172_857 f190 f191_f32 f192_f32) (J132 fuel) kp132 fuel Try.f132 [.c (.sl (.int .u8) x0)] [] k = Fg_file_read fuel f103_f32 f172_857 f190 f191_f32 f192_f32 x0 (fun r => match r with | (r0, r1, r2, r3, r4, r5, r6, r7) => k (.tup [(false, [.ptr 0 0]), (false, [.int .i64 r0])], [.cells 141 [.sl (.int .u8) r1, .int .i64 r2, .own 1, .own 2, .own 3, .int .i64 r3, .int .i64 r4], .vec 103 (.pair (.int .i64) (.pair (.int .i64) (.pair (.int .i64) (.pair (.sl (.int .i64)) (.pair (.sl .bool) (.sl (.int .u8))))))) r5 true, .vec 3 (.int .i64) r6 true, .vec 3 (.int .i64) r7 true])) := by
  kernel_rfl
theorem F132_eq (fuel : Nat) (x0 : (List Int)) (k : Ev.Cont) : evalFn tab (G132 fuel) (J132 fuel) kp132 fuel Try.f132 [.c (.sl (.int .u8) x0)] [] k = F_file_read fuel x0 (fun r => match r with | (r0, r1, r2, r3, r4, r5, r6, r7) => k (.tup [(false, [.ptr 0 0]), (false, [.int .i64 r0])], [.cells 141 [.sl (.int .u8) r1, .int .i64 r2, .own 1, .own 2, .own 3, .int .i64 r3, .int .i64 r4], .vec 103 (.pair (.int .i64) (.pair (.int .i64) (.pair (.int .i64) (.pair (.sl (.int .i64)) (.pair (.sl .bool) (.sl (.int .u8))))))) r5 true, .vec 3 (.int .i64) r6 true, .vec 3 (.int .i64) r7 true])) :=
  F132_eqg fuel (F_file_reader_finish_f32 fuel) (F_file_reader_fail_857 fuel) (F_strings_HasPrefix fuel) (F_file_reader_random_f32 fuel) (F_file_reader_sequence_f32 fuel) x0 k
theorem hG132 (fuel : Nat) : GOK Try.prog (G132 fuel) :=
  gok_cons ⟨ok103_f32 fuel, enters_of Try.func103 (by kernel_rfl) rfl⟩ <|
  gok_cons ⟨ok172_857 fuel, enters_of Try.func172 (by kernel_rfl) rfl⟩ <|
  gok_cons ⟨ok190 fuel, enters_of Try.func190 (by kernel_rfl) rfl⟩ <|
  gok_cons ⟨ok191_f32 fuel, enters_of Try.func191 (by kernel_rfl) rfl⟩ <|
  gok_cons ⟨ok192_f32 fuel, enters_of Try.func192 (by kernel_rfl) rfl⟩ <|
  gok_nil
theorem fok132 (fuel : Nat) : FnOK Try.prog 132 (evalFn tab (G132 fuel) (J132 fuel) kp132 fuel Try.f132) :=
  fn_ok tab_ok (hG132 fuel) mixed Try.func132 (c := (Try.f132.body).getD .skip) rfl (fun q hq => by
    rw [(by kernel_rfl : obl (J132 fuel) ((Try.f132.body).getD .skip) = [])] at hq
    cases hq)
noncomputable def mt132 : List Ev.SV → List Ev.Ob → Bool := fun args objs => match args, objs with
 | [.c (.sl (.int .u8) _)], [] => true
 | _, _ => false
noncomputable def spg132 (F : YF132) : Ev.Spec := fun args objs k => match args, objs with
 | [.c (.sl (.int .u8) x0)], [] => bif true then F x0 (fun r => match r with | (r0, r1, r2, r3, r4, r5, r6, r7) => k (.tup [(false, [.ptr 0 0]), (false, [.int .i64 r0])], [.cells 141 [.sl (.int .u8) r1, .int .i64 r2, .own 1, .own 2, .own 3, .int .i64 r3, .int .i64 r4], .vec 103 (.pair (.int .i64) (.pair (.int .i64) (.pair (.int .i64) (.pair (.sl (.int .i64)) (.pair (.sl .bool) (.sl (.int .u8))))))) r5 true, .vec 3 (.int .i64) r6 true, .vec 3 (.int .i64) r7 true])) else none
 | _, _ => none
noncomputable def spec132 (fuel : Nat) : Ev.Spec := spg132 (F_file_read fuel)
theorem ok132 (fuel : Nat) : FnOK Try.prog 132 (spec132 fuel) := by
  intro args objs kk r h
  unfold spec132 spg132 at h
  split at h
  · skip
    obtain ⟨hb, h⟩ := cond_some' h
    simp only [Bool.and_eq_true, Nat.beq_eq, decide_eq_true_eq] at hb
    clear hb
    exact fok132 fuel _ _ kk r ((F132_eq fuel _ kk).trans h)
  · cases h
end Go.Proofs.Ytihfgpfofmjbaaa

set_option linter.unusedVariables false
set_option linter.unusedSimpArgs false
set_option maxRecDepth 100000
set_option maxHeartbeats 2000000
namespace Go.Proofs.Ytihfgpfofmjbaaa
open Go Ev
def kp54 (i : Nat) : Option (List Nat) := Ev.look i [(6, [4, 6, 26, 27, 28]), (100000, [6]), (200003, [4]), (200008, [4, 8]), (400000, [2, 3])]
noncomputable def Gg54 (f132 : YF132) (f : Nat) : Option Ev.Spec := Ev.look f [(132, spg132 f132)]
noncomputable def G54 (fuel : Nat) : Nat → Option Ev.Spec := Gg54 (F_file_read fuel)
noncomputable def Sg_file_Places_0 (fuel : Nat) (f132 : YF132) (x0 x1 : Int) (x2 : (List Int)) (x3 x4 x5 : Int) (x6 : (List (Int × Int))) (x7 : (List (Int × (Int × (Int × ((List Int) × ((List Bool) × (List Int)))))))) (x8 x9 : (List Int)) (c : (Int × Int × (List Int) × Int × Int × Int × (List (Int × Int)) × (List (Int × (Int × (Int × ((List Int) × ((List Bool) × (List Int))))))) × (List Int) × (List Int)) → Option Ans) (B : ((List (Int × Int)) → Option Ans)) : Option Ans := match B with
 | b =>
  bif decide (x1 < x0) then
  bif decide ((0 : Int) ≤ x1 ∧ x1 < (↑x7.length : Int)) then
  bif decide ((0 : Int) ≤ x1 ∧ x1 < (↑x9.length : Int)) then
  bif decide ((x6.length + [(x9.getD x1.toNat (0 : Int), (↑(List.length (x7.getD x1.toNat ((0 : Int), (0 : Int), (0 : Int), [], [], [])).snd.snd.snd.snd.snd) : Int))].length) * (16 : Nat) ≤ (140737488355328 : Nat) ∧ x6.length + [(x9.getD x1.toNat (0 : Int), (↑(List.length (x7.getD x1.toNat ((0 : Int), (0 : Int), (0 : Int), [], [], [])).snd.snd.snd.snd.snd) : Int))].length ≤ (140737488355328 : Nat)) then
  c (x0, IntKind.i64.wrap (x1 + (1 : Int)), x2, x3, x4, x5, x6 ++ [(x9.getD x1.toNat (0 : Int), (↑(List.length (x7.getD x1.toNat ((0 : Int), (0 : Int), (0 : Int), [], [], [])).snd.snd.snd.snd.snd) : Int))], x7, x8, x9)
  else none
  else none
  else none
  else
  b x6
noncomputable def S_file_Places_0 (fuel : Nat) (v : Int × Int × (List Int) × Int × Int × Int × (List (Int × Int)) × (List (Int × (Int × (Int × ((List Int) × ((List Bool) × (List Int))))))) × (List Int) × (List Int)) (c : (Int × Int × (List Int) × Int × Int × Int × (List (Int × Int)) × (List (Int × (Int × (Int × ((List Int) × ((List Bool) × (List Int))))))) × (List Int) × (List Int)) → Option Ans) (B : ((List (Int × Int)) → Option Ans)) : Option Ans := match v with
 | (x0, x1, x2, x3, x4, x5, x6, x7, x8, x9) => Sg_file_Places_0 fuel (F_file_read fuel) x0 x1 x2 x3 x4 x5 x6 x7 x8 x9 c B
noncomputable def L_file_Places_0 (fuel : Nat) (v : Int × Int × (List Int) × Int × Int × Int × (List (Int × Int)) × (List (Int × (Int × (Int × ((List Int) × ((List Bool) × (List Int))))))) × (List Int) × (List Int)) (b : ((List (Int × Int)) → Option Ans)) : Option Ans := iter (S_file_Places_0 fuel) fuel v b
noncomputable def J54_0 (fuel : Nat) (i : Nat) : Option Ev.Blk := Ev.look i []
noncomputable def T54_0 (v : Int × Int × (List Int) × Int × Int × Int × (List (Int × Int)) × (List (Int × (Int × (Int × ((List Int) × ((List Bool) × (List Int))))))) × (List Int) × (List Int)) : Ev.St := match v with | (x0, x1, x2, x3, x4, x5, x6, x7, x8, x9) => ⟨[(4, .c (.ptr 0 0)), (6, .c (.own 1)), (26, .c (.own 2)), (27, .c (.int .i64 x0)), (28, .c (.int .i64 x1))], [(0, .cells 141 [.sl (.int .u8) x2, .int .i64 x3, .own 2, .own 3, .own 4, .int .i64 x4, .int .i64 x5]), (1, .vec 44 (.pair (.int .i64) (.int .i64)) x6 true), (2, .vec 103 (.pair (.int .i64) (.pair (.int .i64) (.pair (.int .i64) (.pair (.sl (.int .i64)) (.pair (.sl .bool) (.sl (.int .u8))))))) x7 true), (3, .vec 3 (.int .i64) x8 true), (4, .vec 3 (.int .i64) x9 true)], 5, 0⟩
noncomputable def E54_0 (K : Ev.Ex → Ev.St → Option Ans) : ((List (Int × Int)) → Option Ans) := (fun v => match v with | x0 => K .normal ⟨[(6, .c (.own 0))], [(0, .vec 44 (.pair (.int .i64) (.int .i64)) x0 true)], 1, 0⟩)
theorem S54_0_okg (fuel : Nat) (f132 : YF132) (R : Ev.St → Option Ans) (K : Ev.Ex → Ev.St → Option Ans) (x0 x1 : Int) (x2 : (List Int)) (x3 x4 x5 : Int) (x6 : (List (Int × Int))) (x7 : (List (Int × (Int × (Int × ((List Int) × ((List Bool) × (List Int)))))))) (x8 x9 : (List Int)) : evalCode tab (Gg54 f132) (J54_0 fuel) kp54 fuel (bodyOf 0 Try.f54) (T54_0 (x0, x1, x2, x3, x4, x5, x6, x7, x8, x9)) (lc kp54 6 0 R K) = Sg_file_Places_0 fuel f132 x0 x1 x2 x3 x4 x5 x6 x7 x8 x9 (fun v => R (T54_0 v)) (E54_0 K) := by
  kernel_rfl
theorem S54_0_ok (fuel : Nat) (R : Ev.St → Option Ans) (K : Ev.Ex → Ev.St → Option Ans) (x0 x1 : Int) (x2 : (List Int)) (x3 x4 x5 : Int) (x6 : (List (Int × Int))) (x7 : (List (Int × (Int × (Int × ((List Int) × ((List Bool) × (List Int)))))))) (x8 x9 : (List Int)) : evalCode tab (G54 fuel) (J54_0 fuel) kp54 fuel (bodyOf 0 Try.f54) (T54_0 (x0, x1, x2, x3, x4, x5, x6, x7, x8, x9)) (lc kp54 6 0 R K) = S_file_Places_0 fuel (x0, x1, x2, x3, x4, x5, x6, x7, x8, x9) (fun v => R (T54_0 v)) (E54_0 K) :=
  S54_0_okg fuel (F_file_read fuel) R K x0 x1 x2 x3 x4 x5 x6 x7 x8 x9
noncomputable def B54_0 (fuel : Nat) : Ev.Blk := fun st K => match canonO (kp54 6) st with
 | some s => (match s with
 | ⟨[(q0, .c (.ptr q1 q2)), (q3, .c (.own q4)), (q5, .c (.own q6)), (q7, .c (.int .i64 x0)), (q8, .c (.int .i64 x1))], [(q9, .cells q10 [.sl (.int .u8) x2, .int .i64 x3, .own q11, .own q12, .own q13, .int .i64 x4, .int .i64 x5]), (q14, .vec q15 (.pair (.int .i64) (.int .i64)) x6 true), (q16, .vec q17 (.pair (.int .i64) (.pair (.int .i64) (.pair (.int .i64) (.pair (.sl (.int .i64)) (.pair (.sl .bool) (.sl (.int .u8))))))) x7 true), (q18, .vec q19 (.int .i64) x8 true), (q20, .vec q21 (.int .i64) x9 true)], q22, q23⟩ => bif Nat.beq q0 4 && Nat.beq q1 0 && Nat.beq q2 0 && Nat.beq q3 6 && Nat.beq q4 1 && Nat.beq q5 26 && Nat.beq q6 2 && Nat.beq q7 27 && Nat.beq q8 28 && Nat.beq q9 0 && Nat.beq q10 141 && Nat.beq q11 2 && Nat.beq q12 3 && Nat.beq q13 4 && Nat.beq q14 1 && Nat.beq q15 44 && Nat.beq q16 2 && Nat.beq q17 103 && Nat.beq q18 3 && Nat.beq q19 3 && Nat.beq q20 4 && Nat.beq q21 3 && Nat.beq q22 5 && Nat.beq q23 0 then iter (S_file_Places_0 fuel) fuel (x0, x1, x2, x3, x4, x5, x6, x7, x8, x9) (E54_0 K) else none
 | _ => none)
 | none => none
theorem B54_0_ok (fuel : Nat) (st : Ev.St) (K : Ev.Ex → Ev.St → Option Ans) (r : Ans) (h : B54_0 fuel st K = some r) : evalCode tab (G54 fuel) (J54_0 fuel) kp54 fuel (.block 0 (.loop (bodyOf 0 Try.f54))) st K = some r := by
  unfold B54_0 at h
  split at h
  · rename_i s hs
    split at h
    · skip
      obtain ⟨hb, h⟩ := cond_some' h
      simp only [Bool.and_eq_true, Nat.beq_eq, decide_eq_true_eq] at hb
      obtain ⟨⟨⟨⟨⟨⟨⟨⟨⟨⟨⟨⟨⟨⟨⟨⟨⟨⟨⟨⟨⟨⟨⟨rfl, rfl⟩, rfl⟩, rfl⟩, rfl⟩, rfl⟩, rfl⟩, rfl⟩, rfl⟩, rfl⟩, rfl⟩, rfl⟩, rfl⟩, rfl⟩, rfl⟩, rfl⟩, rfl⟩, rfl⟩, rfl⟩, rfl⟩, rfl⟩, rfl⟩, rfl⟩, rfl⟩ := hb
      exact blk_loop (S := T54_0) (ks := E54_0) (step := S_file_Places_0 fuel) (v := (_, _, _, _, _, _, _, _, _, _)) (by kernel_rfl) (by kernel_rfl) (fun R K v => by obtain ⟨x0, x1, x2, x3, x4, x5, x6, x7, x8, x9⟩ := v; exact S54_0_ok fuel R K x0 x1 x2 x3 x4 x5 x6 x7 x8 x9) hs h
    · cases h
  · cases h
noncomputable def J54 (fuel : Nat) (i : Nat) : Option Ev.Blk := Ev.look i [(100000, B54_0 fuel)]
noncomputable def Fg_file_Places (fuel : Nat) (f132 : YF132) (x0 : (List Int)) (k0 : (Int × (List (Int × Int))) → Option Ans) : Option Ans :=
  (f132 (x0)
  (fun (y2_0, y2_1, y2_2, y2_3, y2_4, y2_5, y2_6, y2_7) =>
  bif y2_4 != (0 : Int) then
  k0 (y2_4, [])
  else
  (L_file_Places_0 fuel ((↑y2_5.length : Int), (0 : Int), y2_1, y2_2, y2_3, y2_4, [], y2_5, y2_6, y2_7)
  (fun b0_0 =>
  k0 ((0 : Int), b0_0)))))
noncomputable def F_file_Places (fuel : Nat) (x0 : (List Int)) (k0 : (Int × (List (Int × Int))) → Option Ans) : Option Ans := Fg_file_Places fuel (F_file_read fuel) x0 k0
abbrev YF54 : Type := ((List Int)) → ((Int × (List (Int × Int))) → Option Ans) → Option Ans
theorem F54_eqg (fuel : Nat) (f132 : YF132) (x0 : (List Int)) (k : Ev.Cont) : evalFn tab (Gg54 f132) (J54 fuel) kp54 fuel Try.f54 [.c (.sl (.int .u8) x0)] [] k = Fg_file_Places fuel f132 x0 (fun r => match r with | (r0, r1) => k (.tup [(false, [.own 0]), (false, [.int .i64 r0])], [.vec 44 (.pair (.int .i64) (.int .i64)) r1 true])) := by
  kernel_rfl
theorem F54_eq (fuel : Nat) (x0 : (List Int)) (k : Ev.Cont) : evalFn tab (G54 fuel) (J54 fuel) kp54 fuel Try.f54 [.c (.sl (.int .u8) x0)] [] k = F_file_Places fuel x0 (fun r => match r with | (r0, r1) => k (.tup [(false, [.own 0]), (false, [.int .i64 r0])], [.vec 44 (.pair (.int .i64) (.int .i64)) r1 true])) :=
  F54_eqg fuel (F_file_read fuel) x0 k
theorem hG54 (fuel : Nat) : GOK Try.prog (G54 fuel) :=
  gok_cons ⟨ok132 fuel, enters_of Try.func132 (by kernel_rfl) rfl⟩ <|
  gok_nil
theorem B54_0_blk (fuel : Nat) : BlkOK Try.prog Try.f54.ntmps (.block 0 (.loop (bodyOf 0 Try.f54))) (B54_0 fuel) :=
  blk_of (blk_of_code tab_ok (hG54 fuel) mixed (J := J54_0 fuel) (kp := kp54) (fuel := fuel) (by kernel_rfl) (fun q hq => by
    rw [(by kernel_rfl : obl (J54_0 fuel) (.block 0 (.loop (bodyOf 0 Try.f54))) = [])] at hq
    cases hq)) (B54_0_ok fuel)
theorem fok54 (fuel : Nat) : FnOK Try.prog 54 (evalFn tab (G54 fuel) (J54 fuel) kp54 fuel Try.f54) :=
  fn_ok tab_ok (hG54 fuel) mixed Try.func54 (c := (Try.f54.body).getD .skip) rfl (fun q hq => by
    rw [(by kernel_rfl : obl (J54 fuel) ((Try.f54.body).getD .skip) = [(.block 0 (.loop (bodyOf 0 Try.f54)), B54_0 fuel)])] at hq
    simp only [List.mem_cons, List.not_mem_nil, or_false] at hq
    subst hq
    · exact B54_0_blk fuel)
noncomputable def mt54 : List Ev.SV → List Ev.Ob → Bool := fun args objs => match args, objs with
 | [.c (.sl (.int .u8) _)], [] => true
 | _, _ => false
noncomputable def spg54 (F : YF54) : Ev.Spec := fun args objs k => match args, objs with
 | [.c (.sl (.int .u8) x0)], [] => bif true then F x0 (fun r => match r with | (r0, r1) => k (.tup [(false, [.own 0]), (false, [.int .i64 r0])], [.vec 44 (.pair (.int .i64) (.int .i64)) r1 true])) else none
 | _, _ => none
noncomputable def spec54 (fuel : Nat) : Ev.Spec := spg54 (F_file_Places fuel)
theorem ok54 (fuel : Nat) : FnOK Try.prog 54 (spec54 fuel) := by
  intro args objs kk r h
  unfold spec54 spg54 at h
  split at h
  · skip
    obtain ⟨hb, h⟩ := cond_some' h
    simp only [Bool.and_eq_true, Nat.beq_eq, decide_eq_true_eq] at hb
    clear hb
    exact fok54 fuel _ _ kk r ((F54_eq fuel _ kk).trans h)
  · cases h
end Go.Proofs.Ytihfgpfofmjbaaa

set_option linter.unusedVariables false
set_option linter.unusedSimpArgs false
set_option maxRecDepth 100000
set_option maxHeartbeats 2000000
namespace Go.Proofs.Ytihfgpfofmjbaaa
open Go Ev
def kp52 (i : Nat) : Option (List Nat) := Ev.look i [(200003, [5]), (200004, [5])]
noncomputable def Gg52 (f132 : YF132) (f : Nat) : Option Ev.Spec := Ev.look f [(132, spg132 f132)]
noncomputable def G52 (fuel : Nat) : Nat → Option Ev.Spec := Gg52 (F_file_read fuel)
noncomputable def J52 (fuel : Nat) (i : Nat) : Option Ev.Blk := Ev.look i []
noncomputable def Fg_file_Read (fuel : Nat) (f132 : YF132) (x0 : (List Int)) (k0 : (Int × Int × (List (Int × (Int × (Int × ((List Int) × ((List Bool) × (List Int)))))))) → Option Ans) : Option Ans :=
  (f132 (x0)
  (fun (y2_0, y2_1, y2_2, y2_3, y2_4, y2_5, y2_6, y2_7) =>
  bif y2_4 != (0 : Int) then
  k0 ((0 : Int), y2_4, [])
  else
  k0 (y2_0, (0 : Int), y2_5)))
noncomputable def F_file_Read (fuel : Nat) (x0 : (List Int)) (k0 : (Int × Int × (List (Int × (Int × (Int × ((List Int) × ((List Bool) × (List Int)))))))) → Option Ans) : Option Ans := Fg_file_Read fuel (F_file_read fuel) x0 k0
abbrev YF52 : Type := ((List Int)) → ((Int × Int × (List (Int × (Int × (Int × ((List Int) × ((List Bool) × (List Int)))))))) → Option Ans) → Option Ans
theorem F52_eqg (fuel : Nat) (f132 : YF132) (x0 : (List Int)) (k : Ev.Cont) : evalFn tab (Gg52 f132) (J52 fuel) kp52 fuel Try.f52 [.c (.sl (.int .u8) x0)] [] k = Fg_file_Read fuel f132 x0 (fun r => match r with | (r0, r1, r2) => k (.tup [(false, [.int .i64 r0]), (false, [.own 0]), (false, [.int .i64 r1])], [.vec 103 (.pair (.int .i64) (.pair (.int .i64) (.pair (.int .i64) (.pair (.sl (.int .i64)) (.pair (.sl .bool) (.sl (.int .u8))))))) r2 true])) := by
  kernel_rfl
theorem F52_eq (fuel : Nat) (x0 : (List Int)) (k : Ev.Cont) : evalFn tab (G52 fuel) (J52 fuel) kp52 fuel Try.f52 [.c (.sl (.int .u8) x0)] [] k = F_file_Read fuel x0 (fun r => match r with | (r0, r1, r2) => k (.tup [(false, [.int .i64 r0]), (false, [.own 0]), (false, [.int .i64 r1])], [.vec 103 (.pair (.int .i64) (.pair (.int .i64) (.pair (.int .i64) (.pair (.sl (.int .i64)) (.pair (.sl .bool) (.sl (.int .u8))))))) r2 true])) :=
  F52_eqg fuel (F_file_read fuel) x0 k
theorem hG52 (fuel : Nat) : GOK Try.prog (G52 fuel) :=
  gok_cons ⟨ok132 fuel, enters_of Try.func132 (by kernel_rfl) rfl⟩ <|
  gok_nil
theorem fok52 (fuel : Nat) : FnOK Try.prog 52 (evalFn tab (G52 fuel) (J52 fuel) kp52 fuel Try.f52) :=
  fn_ok tab_ok (hG52 fuel) mixed Try.func52 (c := (Try.f52.body).getD .skip) rfl (fun q hq => by
    rw [(by kernel_rfl : obl (J52 fuel) ((Try.f52.body).getD .skip) = [])] at hq
    cases hq)
noncomputable def mt52 : List Ev.SV → List Ev.Ob → Bool := fun args objs => match args, objs with
 | [.c (.sl (.int .u8) _)], [] => true
 | _, _ => false
noncomputable def spg52 (F : YF52) : Ev.Spec := fun args objs k => match args, objs with
 | [.c (.sl (.int .u8) x0)], [] => bif true then F x0 (fun r => match r with | (r0, r1, r2) => k (.tup [(false, [.int .i64 r0]), (false, [.own 0]), (false, [.int .i64 r1])], [.vec 103 (.pair (.int .i64) (.pair (.int .i64) (.pair (.int .i64) (.pair (.sl (.int .i64)) (.pair (.sl .bool) (.sl (.int .u8))))))) r2 true])) else none
 | _, _ => none
noncomputable def spec52 (fuel : Nat) : Ev.Spec := spg52 (F_file_Read fuel)
theorem ok52 (fuel : Nat) : FnOK Try.prog 52 (spec52 fuel) := by
  intro args objs kk r h
  unfold spec52 spg52 at h
  split at h
  · skip
    obtain ⟨hb, h⟩ := cond_some' h
    simp only [Bool.and_eq_true, Nat.beq_eq, decide_eq_true_eq] at hb
    clear hb
    exact fok52 fuel _ _ kk r ((F52_eq fuel _ kk).trans h)
  · cases h
end Go.Proofs.Ytihfgpfofmjbaaa

set_option linter.unusedVariables false
set_option linter.unusedSimpArgs false
set_option maxRecDepth 100000
set_option maxHeartbeats 2000000
namespace Go.Proofs.Ytihfgpfofmjbaaa
open Go Ev
def kp56 (i : Nat) : Option (List Nat) := Ev.look i []
noncomputable def Gg56 (f52 : YF52) (f : Nat) : Option Ev.Spec := Ev.look f [(52, spg52 f52)]
noncomputable def G56 (fuel : Nat) : Nat → Option Ev.Spec := Gg56 (F_file_Read fuel)
noncomputable def J56 (fuel : Nat) (i : Nat) : Option Ev.Blk := Ev.look i []
noncomputable def Fg_file_Way (fuel : Nat) (f52 : YF52) (x0 : (List Int)) (k0 : (Int × Int) → Option Ans) : Option Ans :=
  (f52 (x0)
  (fun (y2_0, y2_1, y2_2) =>
  k0 (y2_0, y2_1)))
noncomputable def F_file_Way (fuel : Nat) (x0 : (List Int)) (k0 : (Int × Int) → Option Ans) : Option Ans := Fg_file_Way fuel (F_file_Read fuel) x0 k0
abbrev YF56 : Type := ((List Int)) → ((Int × Int) → Option Ans) → Option Ans
theorem F56_eqg (fuel : Nat) (f52 : YF52) (x0 : (List Int)) (k : Ev.Cont) : evalFn tab (Gg56 f52) (J56 fuel) kp56 fuel Try.f56 [.c (.sl (.int .u8) x0)] [] k = Fg_file_Way fuel f52 x0 (fun r => match r with | (r0, r1) => k (.tup [(false, [.int .i64 r0]), (false, [.int .i64 r1])], [])) := by
  kernel_rfl
theorem F56_eq (fuel : Nat) (x0 : (List Int)) (k : Ev.Cont) : evalFn tab (G56 fuel) (J56 fuel) kp56 fuel Try.f56 [.c (.sl (.int .u8) x0)] [] k = F_file_Way fuel x0 (fun r => match r with | (r0, r1) => k (.tup [(false, [.int .i64 r0]), (false, [.int .i64 r1])], [])) :=
  F56_eqg fuel (F_file_Read fuel) x0 k
theorem hG56 (fuel : Nat) : GOK Try.prog (G56 fuel) :=
  gok_cons ⟨ok52 fuel, enters_of Try.func52 (by kernel_rfl) rfl⟩ <|
  gok_nil
theorem fok56 (fuel : Nat) : FnOK Try.prog 56 (evalFn tab (G56 fuel) (J56 fuel) kp56 fuel Try.f56) :=
  fn_ok tab_ok (hG56 fuel) mixed Try.func56 (c := (Try.f56.body).getD .skip) rfl (fun q hq => by
    rw [(by kernel_rfl : obl (J56 fuel) ((Try.f56.body).getD .skip) = [])] at hq
    cases hq)
noncomputable def mt56 : List Ev.SV → List Ev.Ob → Bool := fun args objs => match args, objs with
 | [.c (.sl (.int .u8) _)], [] => true
 | _, _ => false
noncomputable def spg56 (F : YF56) : Ev.Spec := fun args objs k => match args, objs with
 | [.c (.sl (.int .u8) x0)], [] => bif true then F x0 (fun r => match r with | (r0, r1) => k (.tup [(false, [.int .i64 r0]), (false, [.int .i64 r1])], [])) else none
 | _, _ => none
noncomputable def spec56 (fuel : Nat) : Ev.Spec := spg56 (F_file_Way fuel)
theorem ok56 (fuel : Nat) : FnOK Try.prog 56 (spec56 fuel) := by
  intro args objs kk r h
  unfold spec56 spg56 at h
  split at h
  · skip
    obtain ⟨hb, h⟩ := cond_some' h
    simp only [Bool.and_eq_true, Nat.beq_eq, decide_eq_true_eq] at hb
    clear hb
    exact fok56 fuel _ _ kk r ((F56_eq fuel _ kk).trans h)
  · cases h
end Go.Proofs.Ytihfgpfofmjbaaa

set_option linter.unusedVariables false
set_option linter.unusedSimpArgs false
set_option maxRecDepth 100000
set_option maxHeartbeats 2000000
namespace Go.Proofs.Ytihfgpfofmjbaaa
open Go Ev
def kp135 (i : Nat) : Option (List Nat) := Ev.look i []
noncomputable def Gg135 (f : Nat) : Option Ev.Spec := Ev.look f []
noncomputable def G135 (fuel : Nat) : Nat → Option Ev.Spec := Gg135
noncomputable def J135 (fuel : Nat) (i : Nat) : Option Ev.Blk := Ev.look i []
noncomputable def F_file_rightEnd_1 (fuel : Nat) (x0 x1 x2 : Int) (x3 : (List Int)) (x4 : (List Bool)) (x5 : (List Int)) (k0 : (Bool) → Option Ans) : Option Ans :=
  k0 (x1 == (9 : Int))
abbrev YF135 : Type := (Int) → (Int) → (Int) → ((List Int)) → ((List Bool)) → ((List Int)) → ((Bool) → Option Ans) → Option Ans
theorem F135_eq (fuel : Nat) (x0 x1 x2 : Int) (x3 : (List Int)) (x4 : (List Bool)) (x5 : (List Int)) (k : Ev.Cont) : evalFn tab (G135 fuel) (J135 fuel) kp135 fuel Try.f135 [.agg [.int .i64 x0, .int .i64 x1, .int .i64 x2, .sl (.int .i64) x3, .sl .bool x4, .sl (.int .u8) x5]] [] k = F_file_rightEnd_1 fuel x0 x1 x2 x3 x4 x5 (fun r => match r with | r0 => k (.c (.bool r0), [])) := by
  kernel_rfl
theorem hG135 (fuel : Nat) : GOK Try.prog (G135 fuel) :=
  gok_nil
theorem fok135 (fuel : Nat) : FnOK Try.prog 135 (evalFn tab (G135 fuel) (J135 fuel) kp135 fuel Try.f135) :=
  fn_ok tab_ok (hG135 fuel) mixed Try.func135 (c := (Try.f135.body).getD .skip) rfl (fun q hq => by
    rw [(by kernel_rfl : obl (J135 fuel) ((Try.f135.body).getD .skip) = [])] at hq
    cases hq)
noncomputable def mt135 : List Ev.SV → List Ev.Ob → Bool := fun args objs => match args, objs with
 | [.agg [.int .i64 _, .int .i64 _, .int .i64 _, .sl (.int .i64) _, .sl .bool _, .sl (.int .u8) _]], [] => true
 | _, _ => false
noncomputable def spg135 (F : YF135) : Ev.Spec := fun args objs k => match args, objs with
 | [.agg [.int .i64 x0, .int .i64 x1, .int .i64 x2, .sl (.int .i64) x3, .sl .bool x4, .sl (.int .u8) x5]], [] => bif true then F x0 x1 x2 x3 x4 x5 (fun r => match r with | r0 => k (.c (.bool r0), [])) else none
 | _, _ => none
noncomputable def spec135 (fuel : Nat) : Ev.Spec := spg135 (F_file_rightEnd_1 fuel)
theorem ok135 (fuel : Nat) : FnOK Try.prog 135 (spec135 fuel) := by
  intro args objs kk r h
  unfold spec135 spg135 at h
  split at h
  · skip
    obtain ⟨hb, h⟩ := cond_some' h
    simp only [Bool.and_eq_true, Nat.beq_eq, decide_eq_true_eq] at hb
    clear hb
    exact fok135 fuel _ _ kk r ((F135_eq fuel _ _ _ _ _ _ kk).trans h)
  · cases h
end Go.Proofs.Ytihfgpfofmjbaaa

set_option linter.unusedVariables false
set_option linter.unusedSimpArgs false
set_option maxRecDepth 100000
set_option maxHeartbeats 2000000
namespace Go.Proofs.Ytihfgpfofmjbaaa
open Go Ev
def kp133_b37 (i : Nat) : Option (List Nat) := Ev.look i [(2, [0, 1, 7, 8]), (100000, []), (400000, [4])]
noncomputable def Gg133_b37 (f135 : YF135) (f : Nat) : Option Ev.Spec := Ev.look f [(135, spg135 f135)]
noncomputable def G133_b37 (fuel : Nat) : Nat → Option Ev.Spec := Gg133_b37 (F_file_rightEnd_1 fuel)
noncomputable def Sg_slices_IndexFunc_api_Segment_api_Segment_b37_0 (fuel : Nat) (f135 : YF135) (x0 : (List (Int × (Int × (Int × ((List Int) × ((List Bool) × (List Int)))))))) (x1 x2 : Int) (c : ((List (Int × (Int × (Int × ((List Int) × ((List Bool) × (List Int))))))) × Int × Int) → Option Ans) (B : (Int → Option Ans) × (Unit → Option Ans)) : Option Ans := match B with
 | (ret, b) =>
  bif decide (x2 < x1) then
  bif decide ((0 : Int) ≤ x2 ∧ x2 < (↑x0.length : Int)) then
  (f135 ((x0.getD x2.toNat ((0 : Int), (0 : Int), (0 : Int), [], [], [])).fst) ((x0.getD x2.toNat ((0 : Int), (0 : Int), (0 : Int), [], [], [])).snd.fst) ((x0.getD x2.toNat ((0 : Int), (0 : Int), (0 : Int), [], [], [])).snd.snd.fst) ((x0.getD x2.toNat ((0 : Int), (0 : Int), (0 : Int), [], [], [])).snd.snd.snd.fst) ((x0.getD x2.toNat ((0 : Int), (0 : Int), (0 : Int), [], [], [])).snd.snd.snd.snd.fst) ((x0.getD x2.toNat ((0 : Int), (0 : Int), (0 : Int), [], [], [])).snd.snd.snd.snd.snd)
  (fun y4 =>
  bif y4 then
  ret x2
  else
  c (x0, x1, IntKind.i64.wrap (x2 + (1 : Int)))))
  else none
  else
  b ()
noncomputable def S_slices_IndexFunc_api_Segment_api_Segment_b37_0 (fuel : Nat) (v : (List (Int × (Int × (Int × ((List Int) × ((List Bool) × (List Int))))))) × Int × Int) (c : ((List (Int × (Int × (Int × ((List Int) × ((List Bool) × (List Int))))))) × Int × Int) → Option Ans) (B : (Int → Option Ans) × (Unit → Option Ans)) : Option Ans := match v with
 | (x0, x1, x2) => Sg_slices_IndexFunc_api_Segment_api_Segment_b37_0 fuel (F_file_rightEnd_1 fuel) x0 x1 x2 c B
noncomputable def L_slices_IndexFunc_api_Segment_api_Segment_b37_0 (fuel : Nat) (v : (List (Int × (Int × (Int × ((List Int) × ((List Bool) × (List Int))))))) × Int × Int) (ret : (Int → Option Ans)) (b : (Unit → Option Ans)) : Option Ans := iter (S_slices_IndexFunc_api_Segment_api_Segment_b37_0 fuel) fuel v (ret, b)
noncomputable def J133_b37_0 (fuel : Nat) (i : Nat) : Option Ev.Blk := Ev.look i []
noncomputable def T133_b37_0 (v : (List (Int × (Int × (Int × ((List Int) × ((List Bool) × (List Int))))))) × Int × Int) : Ev.St := match v with | (x0, x1, x2) => ⟨[(0, .c (.sl (.pair (.int .i64) (.pair (.int .i64) (.pair (.int .i64) (.pair (.sl (.int .i64)) (.pair (.sl .bool) (.sl (.int .u8))))))) x0)), (1, .c (.clo 135 [])), (7, .c (.int .i64 x1)), (8, .c (.int .i64 x2))], [], 0, 0⟩
noncomputable def E133_b37_0 (K : Ev.Ex → Ev.St → Option Ans) : (Int → Option Ans) × (Unit → Option Ans) := ((fun v => match v with | x0 => K .ret ⟨[(4, .c (.int .i64 x0))], [], 0, 0⟩), (fun v => match v with | () => K .normal ⟨[], [], 0, 0⟩))
theorem S133_b37_0_okg (fuel : Nat) (f135 : YF135) (R : Ev.St → Option Ans) (K : Ev.Ex → Ev.St → Option Ans) (x0 : (List (Int × (Int × (Int × ((List Int) × ((List Bool) × (List Int)))))))) (x1 x2 : Int) : evalCode tab (Gg133_b37 f135) (J133_b37_0 fuel) kp133_b37 fuel (bodyOf 0 Try.f133) (T133_b37_0 (x0, x1, x2)) (lc kp133_b37 2 0 R K) = Sg_slices_IndexFunc_api_Segment_api_Segment_b37_0 fuel f135 x0 x1 x2 (fun v => R (T133_b37_0 v)) (E133_b37_0 K) := by
  kernel_rfl
theorem S133_b37_0_ok (fuel : Nat) (R : Ev.St → Option Ans) (K : Ev.Ex → Ev.St → Option Ans) (x0 : (List (Int × (Int × (Int × ((List Int) × ((List Bool) × (List Int)))))))) (x1 x2 : Int) : evalCode tab (G133_b37 fuel) (J133_b37_0 fuel) kp133_b37 fuel (bodyOf 0 Try.f133) (T133_b37_0 (x0, x1, x2)) (lc kp133_b37 2 0 R K) = S_slices_IndexFunc_api_Segment_api_Segment_b37_0 fuel (x0, x1, x2) (fun v => R (T133_b37_0 v)) (E133_b37_0 K) :=
  S133_b37_0_okg fuel (F_file_rightEnd_1 fuel) R K x0 x1 x2
noncomputable def B133_b37_0 (fuel : Nat) : Ev.Blk := fun st K => match canonO (kp133_b37 2) st with
 | some s => (match s with
 | ⟨[(q0, .c (.sl (.pair (.int .i64) (.pair (.int .i64) (.pair (.int .i64) (.pair (.sl (.int .i64)) (.pair (.sl .bool) (.sl (.int .u8))))))) x0)), (q1, .c (.clo q2 [])), (q3, .c (.int .i64 x1)), (q4, .c (.int .i64 x2))], [], q5, q6⟩ => bif Nat.beq q0 0 && Nat.beq q1 1 && Nat.beq q2 135 && Nat.beq q3 7 && Nat.beq q4 8 && Nat.beq q5 0 && Nat.beq q6 0 then iter (S_slices_IndexFunc_api_Segment_api_Segment_b37_0 fuel) fuel (x0, x1, x2) (E133_b37_0 K) else none
 | _ => none)
 | none => none
theorem B133_b37_0_ok (fuel : Nat) (st : Ev.St) (K : Ev.Ex → Ev.St → Option Ans) (r : Ans) (h : B133_b37_0 fuel st K = some r) : evalCode tab (G133_b37 fuel) (J133_b37_0 fuel) kp133_b37 fuel (.block 0 (.loop (bodyOf 0 Try.f133))) st K = some r := by
  unfold B133_b37_0 at h
  split at h
  · rename_i s hs
    split at h
    · skip
      obtain ⟨hb, h⟩ := cond_some' h
      simp only [Bool.and_eq_true, Nat.beq_eq, decide_eq_true_eq] at hb
      obtain ⟨⟨⟨⟨⟨⟨rfl, rfl⟩, rfl⟩, rfl⟩, rfl⟩, rfl⟩, rfl⟩ := hb
      exact blk_loop (S := T133_b37_0) (ks := E133_b37_0) (step := S_slices_IndexFunc_api_Segment_api_Segment_b37_0 fuel) (v := (_, _, _)) (by kernel_rfl) (by kernel_rfl) (fun R K v => by obtain ⟨x0, x1, x2⟩ := v; exact S133_b37_0_ok fuel R K x0 x1 x2) hs h
    · cases h
  · cases h
noncomputable def J133_b37 (fuel : Nat) (i : Nat) : Option Ev.Blk := Ev.look i [(100000, B133_b37_0 fuel)]
noncomputable def Fg_slices_IndexFunc_api_Segment_api_Segment_b37 (fuel : Nat) (f135 : YF135) (x0 : (List (Int × (Int × (Int × ((List Int) × ((List Bool) × (List Int)))))))) (k0 : (Int) → Option Ans) : Option Ans :=
  (L_slices_IndexFunc_api_Segment_api_Segment_b37_0 fuel (x0, (↑x0.length : Int), (0 : Int))
  (fun ret0_0 =>
  k0 ret0_0)
  (fun () =>
  k0 ((-1 : Int))))
noncomputable def F_slices_IndexFunc_api_Segment_api_Segment_b37 (fuel : Nat) (x0 : (List (Int × (Int × (Int × ((List Int) × ((List Bool) × (List Int)))))))) (k0 : (Int) → Option Ans) : Option Ans := Fg_slices_IndexFunc_api_Segment_api_Segment_b37 fuel (F_file_rightEnd_1 fuel) x0 k0
abbrev YF133_b37 : Type := ((List (Int × (Int × (Int × ((List Int) × ((List Bool) × (List Int)))))))) → ((Int) → Option Ans) → Option Ans
theorem F133_b37_eqg (fuel : Nat) (f135 : YF135) (x0 : (List (Int × (Int × (Int × ((List Int) × ((List Bool) × (List Int)))))))) (k : Ev.Cont) : evalFn tab (Gg133_b37 f135) (J133_b37 fuel) kp133_b37 fuel Try.f133 [.c (.sl (.pair (.int .i64) (.pair (.int .i64) (.pair (.int .i64) (.pair (.sl (.int .i64)) (.pair (.sl .bool) (.sl (.int .u8))))))) x0), .c (.clo 135 [])] [] k = Fg_slices_IndexFunc_api_Segment_api_Segment_b37 fuel f135 x0 (fun r => match r with | r0 => k (.c (.int .i64 r0), [])) := by
  kernel_rfl
theorem F133_b37_eq (fuel : Nat) (x0 : (List (Int × (Int × (Int × ((List Int) × ((List Bool) × (List Int)))))))) (k : Ev.Cont) : evalFn tab (G133_b37 fuel) (J133_b37 fuel) kp133_b37 fuel Try.f133 [.c (.sl (.pair (.int .i64) (.pair (.int .i64) (.pair (.int .i64) (.pair (.sl (.int .i64)) (.pair (.sl .bool) (.sl (.int .u8))))))) x0), .c (.clo 135 [])] [] k = F_slices_IndexFunc_api_Segment_api_Segment_b37 fuel x0 (fun r => match r with | r0 => k (.c (.int .i64 r0), [])) :=
  F133_b37_eqg fuel (F_file_rightEnd_1 fuel) x0 k
theorem hG133_b37 (fuel : Nat) : GOK Try.prog (G133_b37 fuel) :=
  gok_cons ⟨ok135 fuel, enters_of Try.func135 (by kernel_rfl) rfl⟩ <|
  gok_nil
theorem B133_b37_0_blk (fuel : Nat) : BlkOK Try.prog Try.f133.ntmps (.block 0 (.loop (bodyOf 0 Try.f133))) (B133_b37_0 fuel) :=
  blk_of (blk_of_code tab_ok (hG133_b37 fuel) mixed (J := J133_b37_0 fuel) (kp := kp133_b37) (fuel := fuel) (by kernel_rfl) (fun q hq => by
    rw [(by kernel_rfl : obl (J133_b37_0 fuel) (.block 0 (.loop (bodyOf 0 Try.f133))) = [])] at hq
    cases hq)) (B133_b37_0_ok fuel)
theorem fok133_b37 (fuel : Nat) : FnOK Try.prog 133 (evalFn tab (G133_b37 fuel) (J133_b37 fuel) kp133_b37 fuel Try.f133) :=
  fn_ok tab_ok (hG133_b37 fuel) mixed Try.func133 (c := (Try.f133.body).getD .skip) rfl (fun q hq => by
    rw [(by kernel_rfl : obl (J133_b37 fuel) ((Try.f133.body).getD .skip) = [(.block 0 (.loop (bodyOf 0 Try.f133)), B133_b37_0 fuel)])] at hq
    simp only [List.mem_cons, List.not_mem_nil, or_false] at hq
    subst hq
    · exact B133_b37_0_blk fuel)
noncomputable def mt133_b37 : List Ev.SV → List Ev.Ob → Bool := fun args objs => match args, objs with
 | [.c (.sl (.pair (.int .i64) (.pair (.int .i64) (.pair (.int .i64) (.pair (.sl (.int .i64)) (.pair (.sl .bool) (.sl (.int .u8))))))) _), .c (.clo q0 [])], [] => Nat.beq q0 135
 | _, _ => false
noncomputable def spg133_b37 (F : YF133_b37) : Ev.Spec := fun args objs k => match args, objs with
 | [.c (.sl (.pair (.int .i64) (.pair (.int .i64) (.pair (.int .i64) (.pair (.sl (.int .i64)) (.pair (.sl .bool) (.sl (.int .u8))))))) x0), .c (.clo q0 [])], [] => bif Nat.beq q0 135 then F x0 (fun r => match r with | r0 => k (.c (.int .i64 r0), [])) else none
 | _, _ => none
noncomputable def spec133_b37 (fuel : Nat) : Ev.Spec := spg133_b37 (F_slices_IndexFunc_api_Segment_api_Segment_b37 fuel)
theorem ok133_b37 (fuel : Nat) : FnOK Try.prog 133 (spec133_b37 fuel) := by
  intro args objs kk r h
  unfold spec133_b37 spg133_b37 at h
  split at h
  · skip
    obtain ⟨hb, h⟩ := cond_some' h
    simp only [Bool.and_eq_true, Nat.beq_eq, decide_eq_true_eq] at hb
    obtain rfl := hb
    exact fok133_b37 fuel _ _ kk r ((F133_b37_eq fuel _ kk).trans h)
  · cases h
end Go.Proofs.Ytihfgpfofmjbaaa

set_option linter.unusedVariables false
set_option linter.unusedSimpArgs false
set_option maxRecDepth 100000
set_option maxHeartbeats 2000000
namespace Go.Proofs.Ytihfgpfofmjbaaa
open Go Ev
def kp61 (i : Nat) : Option (List Nat) := Ev.look i []
noncomputable def Gg61 (f133_b37 : YF133_b37) (f : Nat) : Option Ev.Spec := Ev.look f [(133, spg133_b37 f133_b37)]
noncomputable def G61 (fuel : Nat) : Nat → Option Ev.Spec := Gg61 (F_slices_IndexFunc_api_Segment_api_Segment_b37 fuel)
noncomputable def J61 (fuel : Nat) (i : Nat) : Option Ev.Blk := Ev.look i []
noncomputable def Fg_file_rightEnd (fuel : Nat) (f133_b37 : YF133_b37) (x0 : Int) (x1 : (List (Int × Int × Int × (List Int) × (List Bool) × (List Int)))) (k0 : (Bool) → Option Ans) : Option Ans :=
  (f133_b37 (x1)
  (fun y2 =>
  bif x0 == (2 : Int) then
  k0 (decide (y2 < (0 : Int)))
  else
  bif decide (y2 ≥ (0 : Int)) then
  k0 (y2 == IntKind.i64.wrap ((↑x1.length : Int) - (1 : Int)))
  else
  k0 false))
noncomputable def F_file_rightEnd (fuel : Nat) (x0 : Int) (x1 : (List (Int × Int × Int × (List Int) × (List Bool) × (List Int)))) (k0 : (Bool) → Option Ans) : Option Ans := Fg_file_rightEnd fuel (F_slices_IndexFunc_api_Segment_api_Segment_b37 fuel) x0 x1 k0
abbrev YF61 : Type := (Int) → ((List (Int × Int × Int × (List Int) × (List Bool) × (List Int)))) → ((Bool) → Option Ans) → Option Ans
theorem F61_eqg (fuel : Nat) (f133_b37 : YF133_b37) (x0 : Int) (x1 : (List (Int × Int × Int × (List Int) × (List Bool) × (List Int)))) (k : Ev.Cont) : evalFn tab (Gg61 f133_b37) (J61 fuel) kp61 fuel Try.f61 [.c (.int .i64 x0), .c (.sl (.pair (.int .i64) (.pair (.int .i64) (.pair (.int .i64) (.pair (.sl (.int .i64)) (.pair (.sl .bool) (.sl (.int .u8))))))) x1)] [] k = Fg_file_rightEnd fuel f133_b37 x0 x1 (fun r => match r with | r0 => k (.c (.bool r0), [])) := by
  kernel_rfl
theorem F61_eq (fuel : Nat) (x0 : Int) (x1 : (List (Int × Int × Int × (List Int) × (List Bool) × (List Int)))) (k : Ev.Cont) : evalFn tab (G61 fuel) (J61 fuel) kp61 fuel Try.f61 [.c (.int .i64 x0), .c (.sl (.pair (.int .i64) (.pair (.int .i64) (.pair (.int .i64) (.pair (.sl (.int .i64)) (.pair (.sl .bool) (.sl (.int .u8))))))) x1)] [] k = F_file_rightEnd fuel x0 x1 (fun r => match r with | r0 => k (.c (.bool r0), [])) :=
  F61_eqg fuel (F_slices_IndexFunc_api_Segment_api_Segment_b37 fuel) x0 x1 k
theorem hG61 (fuel : Nat) : GOK Try.prog (G61 fuel) :=
  gok_cons ⟨ok133_b37 fuel, enters_of Try.func133 (by kernel_rfl) rfl⟩ <|
  gok_nil
theorem fok61 (fuel : Nat) : FnOK Try.prog 61 (evalFn tab (G61 fuel) (J61 fuel) kp61 fuel Try.f61) :=
  fn_ok tab_ok (hG61 fuel) mixed Try.func61 (c := (Try.f61.body).getD .skip) rfl (fun q hq => by
    rw [(by kernel_rfl : obl (J61 fuel) ((Try.f61.body).getD .skip) = [])] at hq
    cases hq)
noncomputable def mt61 : List Ev.SV → List Ev.Ob → Bool := fun args objs => match args, objs with
 | [.c (.int .i64 _), .c (.sl (.pair (.int .i64) (.pair (.int .i64) (.pair (.int .i64) (.pair (.sl (.int .i64)) (.pair (.sl .bool) (.sl (.int .u8))))))) _)], [] => true
 | _, _ => false
noncomputable def spg61 (F : YF61) : Ev.Spec := fun args objs k => match args, objs with
 | [.c (.int .i64 x0), .c (.sl (.pair (.int .i64) (.pair (.int .i64) (.pair (.int .i64) (.pair (.sl (.int .i64)) (.pair (.sl .bool) (.sl (.int .u8))))))) x1)], [] => bif true then F x0 x1 (fun r => match r with | r0 => k (.c (.bool r0), [])) else none
 | _, _ => none
noncomputable def spec61 (fuel : Nat) : Ev.Spec := spg61 (F_file_rightEnd fuel)
theorem ok61 (fuel : Nat) : FnOK Try.prog 61 (spec61 fuel) := by
  intro args objs kk r h
  unfold spec61 spg61 at h
  split at h
  · skip
    obtain ⟨hb, h⟩ := cond_some' h
    simp only [Bool.and_eq_true, Nat.beq_eq, decide_eq_true_eq] at hb
    clear hb
    exact fok61 fuel _ _ kk r ((F61_eq fuel _ _ kk).trans h)
  · cases h
end Go.Proofs.Ytihfgpfofmjbaaa

set_option linter.unusedVariables false
set_option linter.unusedSimpArgs false
set_option maxRecDepth 100000
set_option maxHeartbeats 2000000
namespace Go.Proofs.Ytihfgpfofmjbaaa
open Go Ev
def kp139 (i : Nat) : Option (List Nat) := Ev.look i [(3, [4, 12, 13, 14]), (100000, [4]), (400000, [2, 3])]
noncomputable def Gg139 (f : Nat) : Option Ev.Spec := Ev.look f []
noncomputable def G139 (fuel : Nat) : Nat → Option Ev.Spec := Gg139
noncomputable def S_bits_Pack_0 (fuel : Nat) (v : (List Int) × Int × Int × (List Int)) (c : ((List Int) × Int × Int × (List Int)) → Option Ans) (B : (Int × (List Int) → Option Ans) × ((List Int) → Option Ans)) : Option Ans := match v, B with
 | (x0, x1, x2, x3), (ret, b) =>
  bif decide (x2 < x1) then
  bif decide ((0 : Int) ≤ x2 ∧ x2 < (↑x0.length : Int)) then
  bif decide (x0.getD x2.toNat (0 : Int) > (1 : Int)) then
  ret ((2 : Int), [])
  else
  bif decide ((0 : Int) ≤ IntKind.i64.wrap (x2.tdiv (8 : Int)) ∧ IntKind.i64.wrap (x2.tdiv (8 : Int)) < (↑x3.length : Int)) then
  bif decide (IntKind.i64.wrap ((7 : Int) - x2.tmod (8 : Int)) < (0 : Int)) then
  none
  else
  bif decide ((0 : Int) ≤ IntKind.i64.wrap (x2.tdiv (8 : Int)) ∧ IntKind.i64.wrap (x2.tdiv (8 : Int)) < (↑x3.length : Int)) then
  c (x0, x1, IntKind.i64.wrap (x2 + (1 : Int)), x3.set (IntKind.i64.wrap (x2.tdiv (8 : Int))).toNat (Ev.ior IntKind.u8 (x3.getD (IntKind.i64.wrap (x2.tdiv (8 : Int))).toNat (0 : Int)) (Ev.ishl IntKind.u8 (x0.getD x2.toNat (0 : Int)) (IntKind.i64.wrap ((7 : Int) - x2.tmod (8 : Int))))))
  else none
  else none
  else none
  else
  b x3
noncomputable def L_bits_Pack_0 (fuel : Nat) (v : (List Int) × Int × Int × (List Int)) (ret : (Int × (List Int) → Option Ans)) (b : ((List Int) → Option Ans)) : Option Ans := iter (S_bits_Pack_0 fuel) fuel v (ret, b)
noncomputable def J139_0 (fuel : Nat) (i : Nat) : Option Ev.Blk := Ev.look i []
noncomputable def T139_0 (v : (List Int) × Int × Int × (List Int)) : Ev.St := match v with | (x0, x1, x2, x3) => ⟨[(4, .c (.own 0)), (12, .c (.sl (.int .u8) x0)), (13, .c (.int .i64 x1)), (14, .c (.int .i64 x2))], [(0, .vec 5 (.int .u8) x3 true)], 1, 0⟩
noncomputable def E139_0 (K : Ev.Ex → Ev.St → Option Ans) : (Int × (List Int) → Option Ans) × ((List Int) → Option Ans) := ((fun v => match v with | (x0, x1) => K .ret ⟨[(2, .c (.own 0)), (3, .c (.int .i64 x0))], [(0, .vec 5 (.int .u8) x1 true)], 1, 0⟩), (fun v => match v with | x0 => K .normal ⟨[(4, .c (.own 0))], [(0, .vec 5 (.int .u8) x0 true)], 1, 0⟩))
theorem S139_0_ok (fuel : Nat) (R : Ev.St → Option Ans) (K : Ev.Ex → Ev.St → Option Ans) (x0 : (List Int)) (x1 x2 : Int) (x3 : (List Int)) : evalCode tab (G139 fuel) (J139_0 fuel) kp139 fuel (bodyOf 0 Try.f139) (T139_0 (x0, x1, x2, x3)) (lc kp139 3 0 R K) = S_bits_Pack_0 fuel (x0, x1, x2, x3) (fun v => R (T139_0 v)) (E139_0 K) := by
  kernel_rfl
noncomputable def B139_0 (fuel : Nat) : Ev.Blk := fun st K => match canonO (kp139 3) st with
 | some s => (match s with
 | ⟨[(q0, .c (.own q1)), (q2, .c (.sl (.int .u8) x0)), (q3, .c (.int .i64 x1)), (q4, .c (.int .i64 x2))], [(q5, .vec q6 (.int .u8) x3 true)], q7, q8⟩ => bif Nat.beq q0 4 && Nat.beq q1 0 && Nat.beq q2 12 && Nat.beq q3 13 && Nat.beq q4 14 && Nat.beq q5 0 && Nat.beq q6 5 && Nat.beq q7 1 && Nat.beq q8 0 then iter (S_bits_Pack_0 fuel) fuel (x0, x1, x2, x3) (E139_0 K) else none
 | _ => none)
 | none => none
theorem B139_0_ok (fuel : Nat) (st : Ev.St) (K : Ev.Ex → Ev.St → Option Ans) (r : Ans) (h : B139_0 fuel st K = some r) : evalCode tab (G139 fuel) (J139_0 fuel) kp139 fuel (.block 0 (.loop (bodyOf 0 Try.f139))) st K = some r := by
  unfold B139_0 at h
  split at h
  · rename_i s hs
    split at h
    · skip
      obtain ⟨hb, h⟩ := cond_some' h
      simp only [Bool.and_eq_true, Nat.beq_eq, decide_eq_true_eq] at hb
      obtain ⟨⟨⟨⟨⟨⟨⟨⟨rfl, rfl⟩, rfl⟩, rfl⟩, rfl⟩, rfl⟩, rfl⟩, rfl⟩, rfl⟩ := hb
      exact blk_loop (S := T139_0) (ks := E139_0) (step := S_bits_Pack_0 fuel) (v := (_, _, _, _)) (by kernel_rfl) (by kernel_rfl) (fun R K v => by obtain ⟨x0, x1, x2, x3⟩ := v; exact S139_0_ok fuel R K x0 x1 x2 x3) hs h
    · cases h
  · cases h
noncomputable def J139 (fuel : Nat) (i : Nat) : Option Ev.Blk := Ev.look i [(100000, B139_0 fuel)]
noncomputable def F_bits_Pack (fuel : Nat) (x0 : (List Int)) (k0 : (Int × (List Int)) → Option Ans) : Option Ans :=
  bif decide ((0 : Int) ≤ IntKind.i64.wrap ((IntKind.i64.wrap ((↑x0.length : Int) + (7 : Int))).tdiv (8 : Int)) ∧ IntKind.i64.wrap ((IntKind.i64.wrap ((↑x0.length : Int) + (7 : Int))).tdiv (8 : Int)) = IntKind.i64.wrap ((IntKind.i64.wrap ((↑x0.length : Int) + (7 : Int))).tdiv (8 : Int)) ∧ (↑(1 : Nat) : Int) * IntKind.i64.wrap ((IntKind.i64.wrap ((↑x0.length : Int) + (7 : Int))).tdiv (8 : Int)) ≤ (281474976710656 : Int) ∧ IntKind.i64.wrap ((IntKind.i64.wrap ((↑x0.length : Int) + (7 : Int))).tdiv (8 : Int)) ≤ (281474976710656 : Int)) then
  (L_bits_Pack_0 fuel (x0, (↑x0.length : Int), (0 : Int), List.replicate (IntKind.i64.wrap ((IntKind.i64.wrap ((↑x0.length : Int) + (7 : Int))).tdiv (8 : Int))).toNat (0 : Int))
  (fun (ret0_0, ret0_1) =>
  k0 (ret0_0, ret0_1))
  (fun b0_0 =>
  k0 ((0 : Int), b0_0)))
  else none
abbrev YF139 : Type := ((List Int)) → ((Int × (List Int)) → Option Ans) → Option Ans
theorem F139_eq (fuel : Nat) (x0 : (List Int)) (k : Ev.Cont) : evalFn tab (G139 fuel) (J139 fuel) kp139 fuel Try.f139 [.c (.sl (.int .u8) x0)] [] k = F_bits_Pack fuel x0 (fun r => match r with | (r0, r1) => k (.tup [(false, [.own 0]), (false, [.int .i64 r0])], [.vec 5 (.int .u8) r1 true])) := by
  kernel_rfl
theorem hG139 (fuel : Nat) : GOK Try.prog (G139 fuel) :=
  gok_nil
theorem B139_0_blk (fuel : Nat) : BlkOK Try.prog Try.f139.ntmps (.block 0 (.loop (bodyOf 0 Try.f139))) (B139_0 fuel) :=
  blk_of (blk_of_code tab_ok (hG139 fuel) mixed (J := J139_0 fuel) (kp := kp139) (fuel := fuel) (by kernel_rfl) (fun q hq => by
    rw [(by kernel_rfl : obl (J139_0 fuel) (.block 0 (.loop (bodyOf 0 Try.f139))) = [])] at hq
    cases hq)) (B139_0_ok fuel)
theorem fok139 (fuel : Nat) : FnOK Try.prog 139 (evalFn tab (G139 fuel) (J139 fuel) kp139 fuel Try.f139) :=
  fn_ok tab_ok (hG139 fuel) mixed Try.func139 (c := (Try.f139.body).getD .skip) rfl (fun q hq => by
    rw [(by kernel_rfl : obl (J139 fuel) ((Try.f139.body).getD .skip) = [(.block 0 (.loop (bodyOf 0 Try.f139)), B139_0 fuel)])] at hq
    simp only [List.mem_cons, List.not_mem_nil, or_false] at hq
    subst hq
    · exact B139_0_blk fuel)
noncomputable def mt139 : List Ev.SV → List Ev.Ob → Bool := fun args objs => match args, objs with
 | [.c (.sl (.int .u8) _)], [] => true
 | _, _ => false
noncomputable def spg139 (F : YF139) : Ev.Spec := fun args objs k => match args, objs with
 | [.c (.sl (.int .u8) x0)], [] => bif true then F x0 (fun r => match r with | (r0, r1) => k (.tup [(false, [.own 0]), (false, [.int .i64 r0])], [.vec 5 (.int .u8) r1 true])) else none
 | _, _ => none
noncomputable def spec139 (fuel : Nat) : Ev.Spec := spg139 (F_bits_Pack fuel)
theorem ok139 (fuel : Nat) : FnOK Try.prog 139 (spec139 fuel) := by
  intro args objs kk r h
  unfold spec139 spg139 at h
  split at h
  · skip
    obtain ⟨hb, h⟩ := cond_some' h
    simp only [Bool.and_eq_true, Nat.beq_eq, decide_eq_true_eq] at hb
    clear hb
    exact fok139 fuel _ _ kk r ((F139_eq fuel _ kk).trans h)
  · cases h
end Go.Proofs.Ytihfgpfofmjbaaa

set_option linter.unusedVariables false
set_option linter.unusedSimpArgs false
set_option maxRecDepth 100000
set_option maxHeartbeats 2000000
namespace Go.Proofs.Ytihfgpfofmjbaaa
open Go Ev
def kp137 (i : Nat) : Option (List Nat) := Ev.look i [(5, [0, 4]), (100000, [4]), (400000, [2, 3])]
noncomputable def Gg137 (f : Nat) : Option Ev.Spec := Ev.look f []
noncomputable def G137 (fuel : Nat) : Nat → Option Ev.Spec := Gg137
noncomputable def S_bits_Size_0 (fuel : Nat) (v : Int × (List Int)) (c : (Int × (List Int)) → Option Ans) (B : ((List Int) → Option Ans)) : Option Ans := match v, B with
 | (x0, x1), b =>
  bif decide (x0 > (0 : Int)) then
  bif decide (([IntKind.u8.wrap (IntKind.u8.wrap (x0.tmod (128 : Int)) + (128 : Int))].length + x1.length) * (1 : Nat) ≤ (140737488355328 : Nat) ∧ [IntKind.u8.wrap (IntKind.u8.wrap (x0.tmod (128 : Int)) + (128 : Int))].length + x1.length ≤ (140737488355328 : Nat)) then
  c (IntKind.i64.wrap (x0.tdiv (128 : Int)), [IntKind.u8.wrap (IntKind.u8.wrap (x0.tmod (128 : Int)) + (128 : Int))] ++ x1)
  else none
  else
  b x1
noncomputable def L_bits_Size_0 (fuel : Nat) (v : Int × (List Int)) (b : ((List Int) → Option Ans)) : Option Ans := iter (S_bits_Size_0 fuel) fuel v b
noncomputable def J137_0 (fuel : Nat) (i : Nat) : Option Ev.Blk := Ev.look i []
noncomputable def T137_0 (v : Int × (List Int)) : Ev.St := match v with | (x0, x1) => ⟨[(0, .c (.int .i64 x0)), (4, .c (.own 0))], [(0, .vec 5 (.int .u8) x1 true)], 1, 0⟩
noncomputable def E137_0 (K : Ev.Ex → Ev.St → Option Ans) : ((List Int) → Option Ans) := (fun v => match v with | x0 => K .normal ⟨[(4, .c (.own 0))], [(0, .vec 5 (.int .u8) x0 true)], 1, 0⟩)
theorem S137_0_ok (fuel : Nat) (R : Ev.St → Option Ans) (K : Ev.Ex → Ev.St → Option Ans) (x0 : Int) (x1 : (List Int)) : evalCode tab (G137 fuel) (J137_0 fuel) kp137 fuel (bodyOf 0 Try.f137) (T137_0 (x0, x1)) (lc kp137 5 0 R K) = S_bits_Size_0 fuel (x0, x1) (fun v => R (T137_0 v)) (E137_0 K) := by
  kernel_rfl
noncomputable def B137_0 (fuel : Nat) : Ev.Blk := fun st K => match canonO (kp137 5) st with
 | some s => (match s with
 | ⟨[(q0, .c (.int .i64 x0)), (q1, .c (.own q2))], [(q3, .vec q4 (.int .u8) x1 true)], q5, q6⟩ => bif Nat.beq q0 0 && Nat.beq q1 4 && Nat.beq q2 0 && Nat.beq q3 0 && Nat.beq q4 5 && Nat.beq q5 1 && Nat.beq q6 0 then iter (S_bits_Size_0 fuel) fuel (x0, x1) (E137_0 K) else none
 | _ => none)
 | none => none
theorem B137_0_ok (fuel : Nat) (st : Ev.St) (K : Ev.Ex → Ev.St → Option Ans) (r : Ans) (h : B137_0 fuel st K = some r) : evalCode tab (G137 fuel) (J137_0 fuel) kp137 fuel (.block 0 (.loop (bodyOf 0 Try.f137))) st K = some r := by
  unfold B137_0 at h
  split at h
  · rename_i s hs
    split at h
    · skip
      obtain ⟨hb, h⟩ := cond_some' h
      simp only [Bool.and_eq_true, Nat.beq_eq, decide_eq_true_eq] at hb
      obtain ⟨⟨⟨⟨⟨⟨rfl, rfl⟩, rfl⟩, rfl⟩, rfl⟩, rfl⟩, rfl⟩ := hb
      exact blk_loop (S := T137_0) (ks := E137_0) (step := S_bits_Size_0 fuel) (v := (_, _)) (by kernel_rfl) (by kernel_rfl) (fun R K v => by obtain ⟨x0, x1⟩ := v; exact S137_0_ok fuel R K x0 x1) hs h
    · cases h
  · cases h
noncomputable def J137 (fuel : Nat) (i : Nat) : Option Ev.Blk := Ev.look i [(100000, B137_0 fuel)]
noncomputable def F_bits_Size (fuel : Nat) (x0 : Int) (k0 : (Int × (List Int)) → Option Ans) : Option Ans :=
  bif decide (x0 < (0 : Int)) then
  k0 ((2 : Int), [])
  else
  bif decide (x0 > (2147483647 : Int)) then
  k0 ((2 : Int), [])
  else
  (L_bits_Size_0 fuel (IntKind.i64.wrap (x0.tdiv (128 : Int)), [IntKind.u8.wrap (x0.tmod (128 : Int))])
  (fun b0_0 =>
  k0 ((0 : Int), b0_0)))
abbrev YF137 : Type := (Int) → ((Int × (List Int)) → Option Ans) → Option Ans
theorem F137_eq (fuel : Nat) (x0 : Int) (k : Ev.Cont) : evalFn tab (G137 fuel) (J137 fuel) kp137 fuel Try.f137 [.c (.int .i64 x0)] [] k = F_bits_Size fuel x0 (fun r => match r with | (r0, r1) => k (.tup [(false, [.own 0]), (false, [.int .i64 r0])], [.vec 5 (.int .u8) r1 true])) := by
  kernel_rfl
theorem hG137 (fuel : Nat) : GOK Try.prog (G137 fuel) :=
  gok_nil
theorem B137_0_blk (fuel : Nat) : BlkOK Try.prog Try.f137.ntmps (.block 0 (.loop (bodyOf 0 Try.f137))) (B137_0 fuel) :=
  blk_of (blk_of_code tab_ok (hG137 fuel) mixed (J := J137_0 fuel) (kp := kp137) (fuel := fuel) (by kernel_rfl) (fun q hq => by
    rw [(by kernel_rfl : obl (J137_0 fuel) (.block 0 (.loop (bodyOf 0 Try.f137))) = [])] at hq
    cases hq)) (B137_0_ok fuel)
theorem fok137 (fuel : Nat) : FnOK Try.prog 137 (evalFn tab (G137 fuel) (J137 fuel) kp137 fuel Try.f137) :=
  fn_ok tab_ok (hG137 fuel) mixed Try.func137 (c := (Try.f137.body).getD .skip) rfl (fun q hq => by
    rw [(by kernel_rfl : obl (J137 fuel) ((Try.f137.body).getD .skip) = [(.block 0 (.loop (bodyOf 0 Try.f137)), B137_0 fuel)])] at hq
    simp only [List.mem_cons, List.not_mem_nil, or_false] at hq
    subst hq
    · exact B137_0_blk fuel)
noncomputable def mt137 : List Ev.SV → List Ev.Ob → Bool := fun args objs => match args, objs with
 | [.c (.int .i64 _)], [] => true
 | _, _ => false
noncomputable def spg137 (F : YF137) : Ev.Spec := fun args objs k => match args, objs with
 | [.c (.int .i64 x0)], [] => bif true then F x0 (fun r => match r with | (r0, r1) => k (.tup [(false, [.own 0]), (false, [.int .i64 r0])], [.vec 5 (.int .u8) r1 true])) else none
 | _, _ => none
noncomputable def spec137 (fuel : Nat) : Ev.Spec := spg137 (F_bits_Size fuel)
theorem ok137 (fuel : Nat) : FnOK Try.prog 137 (spec137 fuel) := by
  intro args objs kk r h
  unfold spec137 spg137 at h
  split at h
  · skip
    obtain ⟨hb, h⟩ := cond_some' h
    simp only [Bool.and_eq_true, Nat.beq_eq, decide_eq_true_eq] at hb
    clear hb
    exact fok137 fuel _ _ kk r ((F137_eq fuel _ kk).trans h)
  · cases h
end Go.Proofs.Ytihfgpfofmjbaaa

set_option linter.unusedVariables false
set_option linter.unusedSimpArgs false
set_option maxRecDepth 100000
set_option maxHeartbeats 2000000
namespace Go.Proofs.Ytihfgpfofmjbaaa
open Go Ev
def kp136_35f (i : Nat) : Option (List Nat) := Ev.look i []
noncomputable def Gg136_35f (f137 : YF137) (f : Nat) : Option Ev.Spec := Ev.look f [(137, spg137 f137)]
noncomputable def G136_35f (fuel : Nat) : Nat → Option Ev.Spec := Gg136_35f (F_bits_Size fuel)
noncomputable def J136_35f (fuel : Nat) (i : Nat) : Option Ev.Blk := Ev.look i []
noncomputable def Fg_segment_Header_1_35f (fuel : Nat) (f137 : YF137) (x0 : Int) (x1 : (List Int)) (k0 : ((List Int)) → Option Ans) : Option Ans :=
  (f137 (x0)
  (fun (y2_0, y2_1) =>
  bif decide ((x1.length + y2_1.length) * (1 : Nat) ≤ (140737488355328 : Nat) ∧ x1.length + y2_1.length ≤ (140737488355328 : Nat)) then
  k0 (x1 ++ y2_1)
  else none))
noncomputable def F_segment_Header_1_35f (fuel : Nat) (x0 : Int) (x1 : (List Int)) (k0 : ((List Int)) → Option Ans) : Option Ans := Fg_segment_Header_1_35f fuel (F_bits_Size fuel) x0 x1 k0
abbrev YF136_35f : Type := (Int) → ((List Int)) → (((List Int)) → Option Ans) → Option Ans
theorem F136_35f_eqg (fuel : Nat) (f137 : YF137) (x0 : Int) (x1 : (List Int)) (k : Ev.Cont) : evalFn tab (Gg136_35f f137) (J136_35f fuel) kp136_35f fuel Try.f136 [.c (.int .i64 x0), .c (.ptr 0 0)] [.cells 25 [.own 1], .vec 5 (.int .u8) x1 false] k = Fg_segment_Header_1_35f fuel f137 x0 x1 (fun r => match r with | r0 => k (.tup [], [.cells 25 [.own 1], .vec 5 (.int .u8) r0 true])) := by
  kernel_rfl
theorem F136_35f_eq (fuel : Nat) (x0 : Int) (x1 : (List Int)) (k : Ev.Cont) : evalFn tab (G136_35f fuel) (J136_35f fuel) kp136_35f fuel Try.f136 [.c (.int .i64 x0), .c (.ptr 0 0)] [.cells 25 [.own 1], .vec 5 (.int .u8) x1 false] k = F_segment_Header_1_35f fuel x0 x1 (fun r => match r with | r0 => k (.tup [], [.cells 25 [.own 1], .vec 5 (.int .u8) r0 true])) :=
  F136_35f_eqg fuel (F_bits_Size fuel) x0 x1 k
theorem hG136_35f (fuel : Nat) : GOK Try.prog (G136_35f fuel) :=
  gok_cons ⟨ok137 fuel, enters_of Try.func137 (by kernel_rfl) rfl⟩ <|
  gok_nil
theorem fok136_35f (fuel : Nat) : FnOK Try.prog 136 (evalFn tab (G136_35f fuel) (J136_35f fuel) kp136_35f fuel Try.f136) :=
  fn_ok tab_ok (hG136_35f fuel) mixed Try.func136 (c := (Try.f136.body).getD .skip) rfl (fun q hq => by
    rw [(by kernel_rfl : obl (J136_35f fuel) ((Try.f136.body).getD .skip) = [])] at hq
    cases hq)
noncomputable def mt136_35f : List Ev.SV → List Ev.Ob → Bool := fun args objs => match args, objs with
 | [.c (.int .i64 _), .c (.ptr q0 q1)], [.cells q2 [.own q3], .vec q4 (.int .u8) _ false] => Nat.beq q0 0 && Nat.beq q1 0 && Nat.beq q2 25 && Nat.beq q3 1 && Nat.beq q4 5
 | _, _ => false
noncomputable def spg136_35f (F : YF136_35f) : Ev.Spec := fun args objs k => match args, objs with
 | [.c (.int .i64 x0), .c (.ptr q0 q1)], [.cells q2 [.own q3], .vec q4 (.int .u8) x1 false] => bif Nat.beq q0 0 && Nat.beq q1 0 && Nat.beq q2 25 && Nat.beq q3 1 && Nat.beq q4 5 then F x0 x1 (fun r => match r with | r0 => k (.tup [], [.cells 25 [.own 1], .vec 5 (.int .u8) r0 true])) else none
 | _, _ => none
noncomputable def spec136_35f (fuel : Nat) : Ev.Spec := spg136_35f (F_segment_Header_1_35f fuel)
theorem ok136_35f (fuel : Nat) : FnOK Try.prog 136 (spec136_35f fuel) := by
  intro args objs kk r h
  unfold spec136_35f spg136_35f at h
  split at h
  · skip
    obtain ⟨hb, h⟩ := cond_some' h
    simp only [Bool.and_eq_true, Nat.beq_eq, decide_eq_true_eq] at hb
    obtain ⟨⟨⟨⟨rfl, rfl⟩, rfl⟩, rfl⟩, rfl⟩ := hb
    exact fok136_35f fuel _ _ kk r ((F136_35f_eq fuel _ _ kk).trans h)
  · cases h
end Go.Proofs.Ytihfgpfofmjbaaa

set_option linter.unusedVariables false
set_option linter.unusedSimpArgs false
set_option maxRecDepth 100000
set_option maxHeartbeats 2000000
namespace Go.Proofs.Ytihfgpfofmjbaaa
open Go Ev
def kp138 (i : Nat) : Option (List Nat) := Ev.look i []
noncomputable def Gg138 (f : Nat) : Option Ev.Spec := Ev.look f []
noncomputable def G138 (fuel : Nat) : Nat → Option Ev.Spec := Gg138
noncomputable def J138 (fuel : Nat) (i : Nat) : Option Ev.Blk := Ev.look i []
noncomputable def F_segment_flag (fuel : Nat) (x0 : Bool) (k0 : (Int) → Option Ans) : Option Ans :=
  bif x0 then
  k0 ((1 : Int))
  else
  k0 ((0 : Int))
abbrev YF138 : Type := (Bool) → ((Int) → Option Ans) → Option Ans
theorem F138_eq (fuel : Nat) (x0 : Bool) (k : Ev.Cont) : evalFn tab (G138 fuel) (J138 fuel) kp138 fuel Try.f138 [.c (.bool x0)] [] k = F_segment_flag fuel x0 (fun r => match r with | r0 => k (.c (.int .u8 r0), [])) := by
  kernel_rfl
theorem hG138 (fuel : Nat) : GOK Try.prog (G138 fuel) :=
  gok_nil
theorem fok138 (fuel : Nat) : FnOK Try.prog 138 (evalFn tab (G138 fuel) (J138 fuel) kp138 fuel Try.f138) :=
  fn_ok tab_ok (hG138 fuel) mixed Try.func138 (c := (Try.f138.body).getD .skip) rfl (fun q hq => by
    rw [(by kernel_rfl : obl (J138 fuel) ((Try.f138.body).getD .skip) = [])] at hq
    cases hq)
noncomputable def mt138 : List Ev.SV → List Ev.Ob → Bool := fun args objs => match args, objs with
 | [.c (.bool _)], [] => true
 | _, _ => false
noncomputable def spg138 (F : YF138) : Ev.Spec := fun args objs k => match args, objs with
 | [.c (.bool x0)], [] => bif true then F x0 (fun r => match r with | r0 => k (.c (.int .u8 r0), [])) else none
 | _, _ => none
noncomputable def spec138 (fuel : Nat) : Ev.Spec := spg138 (F_segment_flag fuel)
theorem ok138 (fuel : Nat) : FnOK Try.prog 138 (spec138 fuel) := by
  intro args objs kk r h
  unfold spec138 spg138 at h
  split at h
  · skip
    obtain ⟨hb, h⟩ := cond_some' h
    simp only [Bool.and_eq_true, Nat.beq_eq, decide_eq_true_eq] at hb
    clear hb
    exact fok138 fuel _ _ kk r ((F138_eq fuel _ kk).trans h)
  · cases h
end Go.Proofs.Ytihfgpfofmjbaaa

set_option linter.unusedVariables false
set_option linter.unusedSimpArgs false
set_option maxRecDepth 100000
set_option maxHeartbeats 2000000
namespace Go.Proofs.Ytihfgpfofmjbaaa
open Go Ev
def kp63 (i : Nat) : Option (List Nat) := Ev.look i [(11, [1, 4, 5, 44, 45, 46]), (17, [1, 4, 5, 8, 58, 59, 60]), (100000, [1, 4, 5]), (100002, [1, 4, 5, 8]), (400000, [2, 3]), (400002, [2, 3])]
noncomputable def Gg63 (f59 : YF59) (f136_35f : YF136_35f) (f138 : YF138) (f139 : YF139) (f : Nat) : Option Ev.Spec := Ev.look f [(59, spg59 f59), (136, spg136_35f f136_35f), (138, spg138 f138), (139, spg139 f139)]
noncomputable def G63 (fuel : Nat) : Nat → Option Ev.Spec := Gg63 (F_segment_Valid fuel) (F_segment_Header_1_35f fuel) (F_segment_flag fuel) (F_bits_Pack fuel)
noncomputable def Sg_segment_Header_2 (fuel : Nat) (f59 : YF59) (f136_35f : YF136_35f) (f138 : YF138) (f139 : YF139) (x0 : (List Bool)) (x1 x2 : Int) (x3 x4 x5 : Int) (x6 : (List Int)) (x7 : (List Bool)) (x8 x9 x10 : (List Int)) (c : ((List Bool) × Int × Int × Int × Int × Int × (List Int) × (List Bool) × (List Int) × (List Int) × (List Int)) → Option Ans) (B : (Int × Int × Int × (List Int) × (List Bool) × (List Int) × (List Int) × (List Int) → Option Ans)) : Option Ans := match B with
 | b =>
  bif decide (x2 < x1) then
  bif decide ((0 : Int) ≤ x2 ∧ x2 < (↑x0.length : Int)) then
  (f138 (x0.getD x2.toNat false)
  (fun y4 =>
  bif decide ((x9.length + [y4].length) * (1 : Nat) ≤ (140737488355328 : Nat) ∧ x9.length + [y4].length ≤ (140737488355328 : Nat)) then
  c (x0, x1, IntKind.i64.wrap (x2 + (1 : Int)), x3, x4, x5, x6, x7, x8, x9 ++ [y4], x10)
  else none))
  else none
  else
  b (x3, x4, x5, x6, x7, x8, x9, x10)
noncomputable def S_segment_Header_2 (fuel : Nat) (v : (List Bool) × Int × Int × Int × Int × Int × (List Int) × (List Bool) × (List Int) × (List Int) × (List Int)) (c : ((List Bool) × Int × Int × Int × Int × Int × (List Int) × (List Bool) × (List Int) × (List Int) × (List Int)) → Option Ans) (B : (Int × Int × Int × (List Int) × (List Bool) × (List Int) × (List Int) × (List Int) → Option Ans)) : Option Ans := match v with
 | (x0, x1, x2, x3, x4, x5, x6, x7, x8, x9, x10) => Sg_segment_Header_2 fuel (F_segment_Valid fuel) (F_segment_Header_1_35f fuel) (F_segment_flag fuel) (F_bits_Pack fuel) x0 x1 x2 x3 x4 x5 x6 x7 x8 x9 x10 c B
noncomputable def L_segment_Header_2 (fuel : Nat) (v : (List Bool) × Int × Int × Int × Int × Int × (List Int) × (List Bool) × (List Int) × (List Int) × (List Int)) (b : (Int × Int × Int × (List Int) × (List Bool) × (List Int) × (List Int) × (List Int) → Option Ans)) : Option Ans := iter (S_segment_Header_2 fuel) fuel v b
noncomputable def J63_2 (fuel : Nat) (i : Nat) : Option Ev.Blk := Ev.look i []
noncomputable def T63_2 (v : (List Bool) × Int × Int × Int × Int × Int × (List Int) × (List Bool) × (List Int) × (List Int) × (List Int)) : Ev.St := match v with | (x0, x1, x2, x3, x4, x5, x6, x7, x8, x9, x10) => ⟨[(1, .c (.ptr 0 0)), (4, .c (.ptr 1 0)), (5, .c (.clo 136 [1])), (8, .c (.own 2)), (58, .c (.sl .bool x0)), (59, .c (.int .i64 x1)), (60, .c (.int .i64 x2))], [(0, .cells 103 [.int .i64 x3, .int .i64 x4, .int .i64 x5, .sl (.int .i64) x6, .sl .bool x7, .sl (.int .u8) x8]), (1, .cells 25 [.own 3]), (2, .vec 5 (.int .u8) x9 true), (3, .vec 5 (.int .u8) x10 true)], 4, 0⟩
noncomputable def E63_2 (K : Ev.Ex → Ev.St → Option Ans) : (Int × Int × Int × (List Int) × (List Bool) × (List Int) × (List Int) × (List Int) → Option Ans) := (fun v => match v with | (x0, x1, x2, x3, x4, x5, x6, x7) => K .normal ⟨[(1, .c (.ptr 0 0)), (4, .c (.ptr 1 0)), (5, .c (.clo 136 [1])), (8, .c (.own 2))], [(0, .cells 103 [.int .i64 x0, .int .i64 x1, .int .i64 x2, .sl (.int .i64) x3, .sl .bool x4, .sl (.int .u8) x5]), (1, .cells 25 [.own 3]), (2, .vec 5 (.int .u8) x6 true), (3, .vec 5 (.int .u8) x7 true)], 4, 0⟩)
theorem S63_2_okg (fuel : Nat) (f59 : YF59) (f136_35f : YF136_35f) (f138 : YF138) (f139 : YF139) (R : Ev.St → Option Ans) (K : Ev.Ex → Ev.St → Option Ans) (x0 : (List Bool)) (x1 x2 : Int) (x3 x4 x5 : Int) (x6 : (List Int)) (x7 : (List Bool)) (x8 x9 x10 : (List Int)) : evalCode tab (Gg63 f59 f136_35f f138 f139) (J63_2 fuel) kp63 fuel (bodyOf 2 Try.f63) (T63_2 (x0, x1, x2, x3, x4, x5, x6, x7, x8, x9, x10)) (lc kp63 17 2 R K) = Sg_segment_Header_2 fuel f59 f136_35f f138 f139 x0 x1 x2 x3 x4 x5 x6 x7 x8 x9 x10 (fun v => R (T63_2 v)) (E63_2 K) := by
  kernel_rfl
theorem S63_2_ok (fuel : Nat) (R : Ev.St → Option Ans) (K : Ev.Ex → Ev.St → Option Ans) (x0 : (List Bool)) (x1 x2 : Int) (x3 x4 x5 : Int) (x6 : (List Int)) (x7 : (List Bool)) (x8 x9 x10 : (List Int)) : evalCode tab (G63 fuel) (J63_2 fuel) kp63 fuel (bodyOf 2 Try.f63) (T63_2 (x0, x1, x2, x3, x4, x5, x6, x7, x8, x9, x10)) (lc kp63 17 2 R K) = S_segment_Header_2 fuel (x0, x1, x2, x3, x4, x5, x6, x7, x8, x9, x10) (fun v => R (T63_2 v)) (E63_2 K) :=
  S63_2_okg fuel (F_segment_Valid fuel) (F_segment_Header_1_35f fuel) (F_segment_flag fuel) (F_bits_Pack fuel) R K x0 x1 x2 x3 x4 x5 x6 x7 x8 x9 x10
noncomputable def B63_2 (fuel : Nat) : Ev.Blk := fun st K => match canonO (kp63 17) st with
 | some s => (match s with
 | ⟨[(q0, .c (.ptr q1 q2)), (q3, .c (.ptr q4 q5)), (q6, .c (.clo q7 [q8])), (q9, .c (.own q10)), (q11, .c (.sl .bool x0)), (q12, .c (.int .i64 x1)), (q13, .c (.int .i64 x2))], [(q14, .cells q15 [.int .i64 x3, .int .i64 x4, .int .i64 x5, .sl (.int .i64) x6, .sl .bool x7, .sl (.int .u8) x8]), (q16, .cells q17 [.own q18]), (q19, .vec q20 (.int .u8) x9 true), (q21, .vec q22 (.int .u8) x10 true)], q23, q24⟩ => bif Nat.beq q0 1 && Nat.beq q1 0 && Nat.beq q2 0 && Nat.beq q3 4 && Nat.beq q4 1 && Nat.beq q5 0 && Nat.beq q6 5 && Nat.beq q7 136 && Nat.beq q8 1 && Nat.beq q9 8 && Nat.beq q10 2 && Nat.beq q11 58 && Nat.beq q12 59 && Nat.beq q13 60 && Nat.beq q14 0 && Nat.beq q15 103 && Nat.beq q16 1 && Nat.beq q17 25 && Nat.beq q18 3 && Nat.beq q19 2 && Nat.beq q20 5 && Nat.beq q21 3 && Nat.beq q22 5 && Nat.beq q23 4 && Nat.beq q24 0 then iter (S_segment_Header_2 fuel) fuel (x0, x1, x2, x3, x4, x5, x6, x7, x8, x9, x10) (E63_2 K) else none
 | _ => none)
 | none => none
theorem B63_2_ok (fuel : Nat) (st : Ev.St) (K : Ev.Ex → Ev.St → Option Ans) (r : Ans) (h : B63_2 fuel st K = some r) : evalCode tab (G63 fuel) (J63_2 fuel) kp63 fuel (.block 2 (.loop (bodyOf 2 Try.f63))) st K = some r := by
  unfold B63_2 at h
  split at h
  · rename_i s hs
    split at h
    · skip
      obtain ⟨hb, h⟩ := cond_some' h
      simp only [Bool.and_eq_true, Nat.beq_eq, decide_eq_true_eq] at hb
      obtain ⟨⟨⟨⟨⟨⟨⟨⟨⟨⟨⟨⟨⟨⟨⟨⟨⟨⟨⟨⟨⟨⟨⟨⟨rfl, rfl⟩, rfl⟩, rfl⟩, rfl⟩, rfl⟩, rfl⟩, rfl⟩, rfl⟩, rfl⟩, rfl⟩, rfl⟩, rfl⟩, rfl⟩, rfl⟩, rfl⟩, rfl⟩, rfl⟩, rfl⟩, rfl⟩, rfl⟩, rfl⟩, rfl⟩, rfl⟩, rfl⟩ := hb
      exact blk_loop (S := T63_2) (ks := E63_2) (step := S_segment_Header_2 fuel) (v := (_, _, _, _, _, _, _, _, _, _, _)) (by kernel_rfl) (by kernel_rfl) (fun R K v => by obtain ⟨x0, x1, x2, x3, x4, x5, x6, x7, x8, x9, x10⟩ := v; exact S63_2_ok fuel R K x0 x1 x2 x3 x4 x5 x6 x7 x8 x9 x10) hs h
    · cases h
  · cases h
noncomputable def Sg_segment_Header_0 (fuel : Nat) (f59 : YF59) (f136_35f : YF136_35f) (f138 : YF138) (f139 : YF139) (x0 : (List Int)) (x1 x2 : Int) (x3 x4 x5 : Int) (x6 : (List Int)) (x7 : (List Bool)) (x8 x9 : (List Int)) (c : ((List Int) × Int × Int × Int × Int × Int × (List Int) × (List Bool) × (List Int) × (List Int)) → Option Ans) (B : (Int × Int × Int × (List Int) × (List Bool) × (List Int) × (List Int) → Option Ans)) : Option Ans := match B with
 | b =>
  bif decide (x2 < x1) then
  bif decide ((0 : Int) ≤ x2 ∧ x2 < (↑x0.length : Int)) then
  (f136_35f (IntKind.i64.wrap (x3 - x0.getD x2.toNat (0 : Int))) (x9)
  (fun y4 =>
  c (x0, x1, IntKind.i64.wrap (x2 + (1 : Int)), x3, x4, x5, x6, x7, x8, y4)))
  else none
  else
  b (x3, x4, x5, x6, x7, x8, x9)
noncomputable def S_segment_Header_0 (fuel : Nat) (v : (List Int) × Int × Int × Int × Int × Int × (List Int) × (List Bool) × (List Int) × (List Int)) (c : ((List Int) × Int × Int × Int × Int × Int × (List Int) × (List Bool) × (List Int) × (List Int)) → Option Ans) (B : (Int × Int × Int × (List Int) × (List Bool) × (List Int) × (List Int) → Option Ans)) : Option Ans := match v with
 | (x0, x1, x2, x3, x4, x5, x6, x7, x8, x9) => Sg_segment_Header_0 fuel (F_segment_Valid fuel) (F_segment_Header_1_35f fuel) (F_segment_flag fuel) (F_bits_Pack fuel) x0 x1 x2 x3 x4 x5 x6 x7 x8 x9 c B
noncomputable def L_segment_Header_0 (fuel : Nat) (v : (List Int) × Int × Int × Int × Int × Int × (List Int) × (List Bool) × (List Int) × (List Int)) (b : (Int × Int × Int × (List Int) × (List Bool) × (List Int) × (List Int) → Option Ans)) : Option Ans := iter (S_segment_Header_0 fuel) fuel v b
noncomputable def J63_0 (fuel : Nat) (i : Nat) : Option Ev.Blk := Ev.look i [(100002, B63_2 fuel)]
noncomputable def T63_0 (v : (List Int) × Int × Int × Int × Int × Int × (List Int) × (List Bool) × (List Int) × (List Int)) : Ev.St := match v with | (x0, x1, x2, x3, x4, x5, x6, x7, x8, x9) => ⟨[(1, .c (.ptr 0 0)), (4, .c (.ptr 1 0)), (5, .c (.clo 136 [1])), (44, .c (.sl (.int .i64) x0)), (45, .c (.int .i64 x1)), (46, .c (.int .i64 x2))], [(0, .cells 103 [.int .i64 x3, .int .i64 x4, .int .i64 x5, .sl (.int .i64) x6, .sl .bool x7, .sl (.int .u8) x8]), (1, .cells 25 [.own 2]), (2, .vec 5 (.int .u8) x9 true)], 3, 0⟩
noncomputable def E63_0 (K : Ev.Ex → Ev.St → Option Ans) : (Int × Int × Int × (List Int) × (List Bool) × (List Int) × (List Int) → Option Ans) := (fun v => match v with | (x0, x1, x2, x3, x4, x5, x6) => K .normal ⟨[(1, .c (.ptr 0 0)), (4, .c (.ptr 1 0)), (5, .c (.clo 136 [1]))], [(0, .cells 103 [.int .i64 x0, .int .i64 x1, .int .i64 x2, .sl (.int .i64) x3, .sl .bool x4, .sl (.int .u8) x5]), (1, .cells 25 [.own 2]), (2, .vec 5 (.int .u8) x6 true)], 3, 0⟩)
theorem S63_0_okg (fuel : Nat) (f59 : YF59) (f136_35f : YF136_35f) (f138 : YF138) (f139 : YF139) (R : Ev.St → Option Ans) (K : Ev.Ex → Ev.St → Option Ans) (x0 : (List Int)) (x1 x2 : Int) (x3 x4 x5 : Int) (x6 : (List Int)) (x7 : (List Bool)) (x8 x9 : (List Int)) : evalCode tab (Gg63 f59 f136_35f f138 f139) (J63_0 fuel) kp63 fuel (bodyOf 0 Try.f63) (T63_0 (x0, x1, x2, x3, x4, x5, x6, x7, x8, x9)) (lc kp63 11 0 R K) = Sg_segment_Header_0 fuel f59 f136_35f f138 f139 x0 x1 x2 x3 x4 x5 x6 x7 x8 x9 (fun v => R (T63_0 v)) (E63_0 K) := by
  kernel_rfl
theorem S63_0_ok (fuel : Nat) (R : Ev.St → Option Ans) (K : Ev.Ex → Ev.St → Option Ans) (x0 : (List Int)) (x1 x2 : Int) (x3 x4 x5 : Int) (x6 : (List Int)) (x7 : (List Bool)) (x8 x9 : (List Int)) : evalCode tab (G63 fuel) (J63_0 fuel) kp63 fuel (bodyOf 0 Try.f63) (T63_0 (x0, x1, x2, x3, x4, x5, x6, x7, x8, x9)) (lc kp63 11 0 R K) = S_segment_Header_0 fuel (x0, x1, x2, x3, x4, x5, x6, x7, x8, x9) (fun v => R (T63_0 v)) (E63_0 K) :=
  S63_0_okg fuel (F_segment_Valid fuel) (F_segment_Header_1_35f fuel) (F_segment_flag fuel) (F_bits_Pack fuel) R K x0 x1 x2 x3 x4 x5 x6 x7 x8 x9
noncomputable def B63_0 (fuel : Nat) : Ev.Blk := fun st K => match canonO (kp63 11) st with
 | some s => (match s with
 | ⟨[(q0, .c (.ptr q1 q2)), (q3, .c (.ptr q4 q5)), (q6, .c (.clo q7 [q8])), (q9, .c (.sl (.int .i64) x0)), (q10, .c (.int .i64 x1)), (q11, .c (.int .i64 x2))], [(q12, .cells q13 [.int .i64 x3, .int .i64 x4, .int .i64 x5, .sl (.int .i64) x6, .sl .bool x7, .sl (.int .u8) x8]), (q14, .cells q15 [.own q16]), (q17, .vec q18 (.int .u8) x9 true)], q19, q20⟩ => bif Nat.beq q0 1 && Nat.beq q1 0 && Nat.beq q2 0 && Nat.beq q3 4 && Nat.beq q4 1 && Nat.beq q5 0 && Nat.beq q6 5 && Nat.beq q7 136 && Nat.beq q8 1 && Nat.beq q9 44 && Nat.beq q10 45 && Nat.beq q11 46 && Nat.beq q12 0 && Nat.beq q13 103 && Nat.beq q14 1 && Nat.beq q15 25 && Nat.beq q16 2 && Nat.beq q17 2 && Nat.beq q18 5 && Nat.beq q19 3 && Nat.beq q20 0 then iter (S_segment_Header_0 fuel) fuel (x0, x1, x2, x3, x4, x5, x6, x7, x8, x9) (E63_0 K) else none
 | _ => none)
 | none => none
theorem B63_0_ok (fuel : Nat) (st : Ev.St) (K : Ev.Ex → Ev.St → Option Ans) (r : Ans) (h : B63_0 fuel st K = some r) : evalCode tab (G63 fuel) (J63_0 fuel) kp63 fuel (.block 0 (.loop (bodyOf 0 Try.f63))) st K = some r := by
  unfold B63_0 at h
  split at h
  · rename_i s hs
    split at h
    · skip
      obtain ⟨hb, h⟩ := cond_some' h
      simp only [Bool.and_eq_true, Nat.beq_eq, decide_eq_true_eq] at hb
      obtain ⟨⟨⟨⟨⟨⟨⟨⟨⟨⟨⟨⟨⟨⟨⟨⟨⟨⟨⟨⟨rfl, rfl⟩, rfl⟩, rfl⟩, rfl⟩, rfl⟩, rfl⟩, rfl⟩, rfl⟩, rfl⟩, rfl⟩, rfl⟩, rfl⟩, rfl⟩, rfl⟩, rfl⟩, rfl⟩, rfl⟩, rfl⟩, rfl⟩, rfl⟩ := hb
      exact blk_loop (S := T63_0) (ks := E63_0) (step := S_segment_Header_0 fuel) (v := (_, _, _, _, _, _, _, _, _, _)) (by kernel_rfl) (by kernel_rfl) (fun R K v => by obtain ⟨x0, x1, x2, x3, x4, x5, x6, x7, x8, x9⟩ := v; exact S63_0_ok fuel R K x0 x1 x2 x3 x4 x5 x6 x7 x8 x9) hs h
    · cases h
  · cases h
noncomputable def J63 (fuel : Nat) (i : Nat) : Option Ev.Blk := Ev.look i [(100002, B63_2 fuel), (100000, B63_0 fuel)]
noncomputable def Fg_segment_Header (fuel : Nat) (f59 : YF59) (f136_35f : YF136_35f) (f138 : YF138) (f139 : YF139) (x0 x1 x2 : Int) (x3 : (List Int)) (x4 : (List Bool)) (x5 : (List Int)) (k0 : (Int × (List Int)) → Option Ans) : Option Ans :=
  (f59 (x0) (x1) (x2) (x3) (x4) (x5)
  (fun y2 =>
  bif !y2 then
  k0 ((2 : Int), [])
  else
  (f136_35f (x0) ([])
  (fun y7 =>
  bif (↑x3.length : Int) == (0 : Int) then
  bif decide ((y7.length + [IntKind.u8.wrap x1].length) * (1 : Nat) ≤ (140737488355328 : Nat) ∧ y7.length + [IntKind.u8.wrap x1].length ≤ (140737488355328 : Nat)) then
  (L_segment_Header_2 fuel (x4, (↑x4.length : Int), (0 : Int), x0, x1, x2, x3, x4, x5, [], y7 ++ [IntKind.u8.wrap x1])
  (fun (b2_0, b2_1, b2_2, b2_3, b2_4, b2_5, b2_6, b2_7) =>
  (f139 (b2_6)
  (fun (y17_0, y17_1) =>
  bif decide ((b2_7.length + y17_1.length) * (1 : Nat) ≤ (140737488355328 : Nat) ∧ b2_7.length + y17_1.length ≤ (140737488355328 : Nat)) then
  (f136_35f (b2_2) (b2_7 ++ y17_1)
  (fun y22 =>
  (f136_35f ((↑b2_5.length : Int)) (y22)
  (fun y26 =>
  k0 ((0 : Int), y26)))))
  else none))))
  else none
  else
  bif decide ((y7.length + [IntKind.u8.wrap (IntKind.i64.wrap (x1 + (16 : Int)))].length) * (1 : Nat) ≤ (140737488355328 : Nat) ∧ y7.length + [IntKind.u8.wrap (IntKind.i64.wrap (x1 + (16 : Int)))].length ≤ (140737488355328 : Nat)) then
  (f136_35f ((↑x3.length : Int)) (y7 ++ [IntKind.u8.wrap (IntKind.i64.wrap (x1 + (16 : Int)))])
  (fun y13 =>
  (L_segment_Header_0 fuel (x3, (↑x3.length : Int), (0 : Int), x0, x1, x2, x3, x4, x5, y13)
  (fun (b0_0, b0_1, b0_2, b0_3, b0_4, b0_5, b0_6) =>
  (L_segment_Header_2 fuel (b0_4, (↑b0_4.length : Int), (0 : Int), b0_0, b0_1, b0_2, b0_3, b0_4, b0_5, [], b0_6)
  (fun (b2_0, b2_1, b2_2, b2_3, b2_4, b2_5, b2_6, b2_7) =>
  (f139 (b2_6)
  (fun (y25_0, y25_1) =>
  bif decide ((b2_7.length + y25_1.length) * (1 : Nat) ≤ (140737488355328 : Nat) ∧ b2_7.length + y25_1.length ≤ (140737488355328 : Nat)) then
  (f136_35f (b2_2) (b2_7 ++ y25_1)
  (fun y30 =>
  (f136_35f ((↑b2_5.length : Int)) (y30)
  (fun y34 =>
  k0 ((0 : Int), y34)))))
  else none))))))))
  else none))))
noncomputable def F_segment_Header (fuel : Nat) (x0 x1 x2 : Int) (x3 : (List Int)) (x4 : (List Bool)) (x5 : (List Int)) (k0 : (Int × (List Int)) → Option Ans) : Option Ans := Fg_segment_Header fuel (F_segment_Valid fuel) (F_segment_Header_1_35f fuel) (F_segment_flag fuel) (F_bits_Pack fuel) x0 x1 x2 x3 x4 x5 k0
abbrev YF63 : Type := (Int) → (Int) → (Int) → ((List Int)) → ((List Bool)) → ((List Int)) → ((Int × (List Int)) → Option Ans) → Option Ans
theorem F63_eqg (fuel : Nat) (f59 : YF59) (f136_35f : YF136_35f) (f138 : YF138) (f139 : YF139) (x0 x1 x2 : Int) (x3 : (List Int)) (x4 : (List Bool)) (x5 : (List Int)) (k : Ev.Cont) : evalFn tab (Gg63 f59 f136_35f f138 f139) (J63 fuel) kp63 fuel Try.f63 [.agg [.int .i64 x0, .int .i64 x1, .int .i64 x2, .sl (.int .i64) x3, .sl .bool x4, .sl (.int .u8) x5]] [] k = Fg_segment_Header fuel f59 f136_35f f138 f139 x0 x1 x2 x3 x4 x5 (fun r => match r with | (r0, r1) => k (.tup [(false, [.own 0]), (false, [.int .i64 r0])], [.vec 5 (.int .u8) r1 true])) := by
  kernel_rfl
theorem F63_eq (fuel : Nat) (x0 x1 x2 : Int) (x3 : (List Int)) (x4 : (List Bool)) (x5 : (List Int)) (k : Ev.Cont) : evalFn tab (G63 fuel) (J63 fuel) kp63 fuel Try.f63 [.agg [.int .i64 x0, .int .i64 x1, .int .i64 x2, .sl (.int .i64) x3, .sl .bool x4, .sl (.int .u8) x5]] [] k = F_segment_Header fuel x0 x1 x2 x3 x4 x5 (fun r => match r with | (r0, r1) => k (.tup [(false, [.own 0]), (false, [.int .i64 r0])], [.vec 5 (.int .u8) r1 true])) :=
  F63_eqg fuel (F_segment_Valid fuel) (F_segment_Header_1_35f fuel) (F_segment_flag fuel) (F_bits_Pack fuel) x0 x1 x2 x3 x4 x5 k
theorem hG63 (fuel : Nat) : GOK Try.prog (G63 fuel) :=
  gok_cons ⟨ok59 fuel, enters_of Try.func59 (by kernel_rfl) rfl⟩ <|
  gok_cons ⟨ok136_35f fuel, enters_of Try.func136 (by kernel_rfl) rfl⟩ <|
  gok_cons ⟨ok138 fuel, enters_of Try.func138 (by kernel_rfl) rfl⟩ <|
  gok_cons ⟨ok139 fuel, enters_of Try.func139 (by kernel_rfl) rfl⟩ <|
  gok_nil
theorem B63_2_blk (fuel : Nat) : BlkOK Try.prog Try.f63.ntmps (.block 2 (.loop (bodyOf 2 Try.f63))) (B63_2 fuel) :=
  blk_of (blk_of_code tab_ok (hG63 fuel) mixed (J := J63_2 fuel) (kp := kp63) (fuel := fuel) (by kernel_rfl) (fun q hq => by
    rw [(by kernel_rfl : obl (J63_2 fuel) (.block 2 (.loop (bodyOf 2 Try.f63))) = [])] at hq
    cases hq)) (B63_2_ok fuel)
theorem B63_0_blk (fuel : Nat) : BlkOK Try.prog Try.f63.ntmps (.block 0 (.loop (bodyOf 0 Try.f63))) (B63_0 fuel) :=
  blk_of (blk_of_code tab_ok (hG63 fuel) mixed (J := J63_0 fuel) (kp := kp63) (fuel := fuel) (by kernel_rfl) (fun q hq => by
    rw [(by kernel_rfl : obl (J63_0 fuel) (.block 0 (.loop (bodyOf 0 Try.f63))) = [])] at hq
    cases hq)) (B63_0_ok fuel)
theorem fok63 (fuel : Nat) : FnOK Try.prog 63 (evalFn tab (G63 fuel) (J63 fuel) kp63 fuel Try.f63) :=
  fn_ok tab_ok (hG63 fuel) mixed Try.func63 (c := (Try.f63.body).getD .skip) rfl (fun q hq => by
    rw [(by kernel_rfl : obl (J63 fuel) ((Try.f63.body).getD .skip) = [(.block 0 (.loop (bodyOf 0 Try.f63)), B63_0 fuel), (.block 2 (.loop (bodyOf 2 Try.f63)), B63_2 fuel)])] at hq
    simp only [List.mem_cons, List.not_mem_nil, or_false] at hq
    rcases hq with rfl | rfl
    · exact B63_0_blk fuel
    · exact B63_2_blk fuel)
noncomputable def mt63 : List Ev.SV → List Ev.Ob → Bool := fun args objs => match args, objs with
 | [.agg [.int .i64 _, .int .i64 _, .int .i64 _, .sl (.int .i64) _, .sl .bool _, .sl (.int .u8) _]], [] => true
 | _, _ => false
noncomputable def spg63 (F : YF63) : Ev.Spec := fun args objs k => match args, objs with
 | [.agg [.int .i64 x0, .int .i64 x1, .int .i64 x2, .sl (.int .i64) x3, .sl .bool x4, .sl (.int .u8) x5]], [] => bif true then F x0 x1 x2 x3 x4 x5 (fun r => match r with | (r0, r1) => k (.tup [(false, [.own 0]), (false, [.int .i64 r0])], [.vec 5 (.int .u8) r1 true])) else none
 | _, _ => none
noncomputable def spec63 (fuel : Nat) : Ev.Spec := spg63 (F_segment_Header fuel)
theorem ok63 (fuel : Nat) : FnOK Try.prog 63 (spec63 fuel) := by
  intro args objs kk r h
  unfold spec63 spg63 at h
  split at h
  · skip
    obtain ⟨hb, h⟩ := cond_some' h
    simp only [Bool.and_eq_true, Nat.beq_eq, decide_eq_true_eq] at hb
    clear hb
    exact fok63 fuel _ _ kk r ((F63_eq fuel _ _ _ _ _ _ kk).trans h)
  · cases h
end Go.Proofs.Ytihfgpfofmjbaaa

set_option linter.unusedVariables false
set_option linter.unusedSimpArgs false
set_option maxRecDepth 100000
set_option maxHeartbeats 2000000
namespace Go.Proofs.Ytihfgpfofmjbaaa
open Go Ev
def kp62 (i : Nat) : Option (List Nat) := Ev.look i [(3, [3, 8, 9, 10]), (100000, [3]), (400000, [2])]
noncomputable def Gg62 (f63 : YF63) (f : Nat) : Option Ev.Spec := Ev.look f [(63, spg63 f63)]
noncomputable def G62 (fuel : Nat) : Nat → Option Ev.Spec := Gg62 (F_segment_Header fuel)
noncomputable def Sg_file_size_0 (fuel : Nat) (f63 : YF63) (x0 : Int) (x1 : (List (Int × (Int × (Int × ((List Int) × ((List Bool) × (List Int)))))))) (x2 x3 : Int) (c : (Int × (List (Int × (Int × (Int × ((List Int) × ((List Bool) × (List Int))))))) × Int × Int) → Option Ans) (B : (Int → Option Ans)) : Option Ans := match B with
 | b =>
  bif decide (x3 < x2) then
  bif decide ((0 : Int) ≤ x3 ∧ x3 < (↑x1.length : Int)) then
  (f63 ((x1.getD x3.toNat ((0 : Int), (0 : Int), (0 : Int), [], [], [])).fst) ((x1.getD x3.toNat ((0 : Int), (0 : Int), (0 : Int), [], [], [])).snd.fst) ((x1.getD x3.toNat ((0 : Int), (0 : Int), (0 : Int), [], [], [])).snd.snd.fst) ((x1.getD x3.toNat ((0 : Int), (0 : Int), (0 : Int), [], [], [])).snd.snd.snd.fst) ((x1.getD x3.toNat ((0 : Int), (0 : Int), (0 : Int), [], [], [])).snd.snd.snd.snd.fst) ((x1.getD x3.toNat ((0 : Int), (0 : Int), (0 : Int), [], [], [])).snd.snd.snd.snd.snd)
  (fun (y4_0, y4_1) =>
  c (IntKind.i64.wrap (x0 + IntKind.i64.wrap ((↑y4_1.length : Int) + (↑(List.length (x1.getD x3.toNat ((0 : Int), (0 : Int), (0 : Int), [], [], [])).snd.snd.snd.snd.snd) : Int))), x1, x2, IntKind.i64.wrap (x3 + (1 : Int)))))
  else none
  else
  b x0
noncomputable def S_file_size_0 (fuel : Nat) (v : Int × (List (Int × (Int × (Int × ((List Int) × ((List Bool) × (List Int))))))) × Int × Int) (c : (Int × (List (Int × (Int × (Int × ((List Int) × ((List Bool) × (List Int))))))) × Int × Int) → Option Ans) (B : (Int → Option Ans)) : Option Ans := match v with
 | (x0, x1, x2, x3) => Sg_file_size_0 fuel (F_segment_Header fuel) x0 x1 x2 x3 c B
noncomputable def L_file_size_0 (fuel : Nat) (v : Int × (List (Int × (Int × (Int × ((List Int) × ((List Bool) × (List Int))))))) × Int × Int) (b : (Int → Option Ans)) : Option Ans := iter (S_file_size_0 fuel) fuel v b
noncomputable def J62_0 (fuel : Nat) (i : Nat) : Option Ev.Blk := Ev.look i []
noncomputable def T62_0 (v : Int × (List (Int × (Int × (Int × ((List Int) × ((List Bool) × (List Int))))))) × Int × Int) : Ev.St := match v with | (x0, x1, x2, x3) => ⟨[(3, .c (.int .i64 x0)), (8, .c (.sl (.pair (.int .i64) (.pair (.int .i64) (.pair (.int .i64) (.pair (.sl (.int .i64)) (.pair (.sl .bool) (.sl (.int .u8))))))) x1)), (9, .c (.int .i64 x2)), (10, .c (.int .i64 x3))], [], 0, 0⟩
noncomputable def E62_0 (K : Ev.Ex → Ev.St → Option Ans) : (Int → Option Ans) := (fun v => match v with | x0 => K .normal ⟨[(3, .c (.int .i64 x0))], [], 0, 0⟩)
theorem S62_0_okg (fuel : Nat) (f63 : YF63) (R : Ev.St → Option Ans) (K : Ev.Ex → Ev.St → Option Ans) (x0 : Int) (x1 : (List (Int × (Int × (Int × ((List Int) × ((List Bool) × (List Int)))))))) (x2 x3 : Int) : evalCode tab (Gg62 f63) (J62_0 fuel) kp62 fuel (bodyOf 0 Try.f62) (T62_0 (x0, x1, x2, x3)) (lc kp62 3 0 R K) = Sg_file_size_0 fuel f63 x0 x1 x2 x3 (fun v => R (T62_0 v)) (E62_0 K) := by
  kernel_rfl
theorem S62_0_ok (fuel : Nat) (R : Ev.St → Option Ans) (K : Ev.Ex → Ev.St → Option Ans) (x0 : Int) (x1 : (List (Int × (Int × (Int × ((List Int) × ((List Bool) × (List Int)))))))) (x2 x3 : Int) : evalCode tab (G62 fuel) (J62_0 fuel) kp62 fuel (bodyOf 0 Try.f62) (T62_0 (x0, x1, x2, x3)) (lc kp62 3 0 R K) = S_file_size_0 fuel (x0, x1, x2, x3) (fun v => R (T62_0 v)) (E62_0 K) :=
  S62_0_okg fuel (F_segment_Header fuel) R K x0 x1 x2 x3
noncomputable def B62_0 (fuel : Nat) : Ev.Blk := fun st K => match canonO (kp62 3) st with
 | some s => (match s with
 | ⟨[(q0, .c (.int .i64 x0)), (q1, .c (.sl (.pair (.int .i64) (.pair (.int .i64) (.pair (.int .i64) (.pair (.sl (.int .i64)) (.pair (.sl .bool) (.sl (.int .u8))))))) x1)), (q2, .c (.int .i64 x2)), (q3, .c (.int .i64 x3))], [], q4, q5⟩ => bif Nat.beq q0 3 && Nat.beq q1 8 && Nat.beq q2 9 && Nat.beq q3 10 && Nat.beq q4 0 && Nat.beq q5 0 then iter (S_file_size_0 fuel) fuel (x0, x1, x2, x3) (E62_0 K) else none
 | _ => none)
 | none => none
theorem B62_0_ok (fuel : Nat) (st : Ev.St) (K : Ev.Ex → Ev.St → Option Ans) (r : Ans) (h : B62_0 fuel st K = some r) : evalCode tab (G62 fuel) (J62_0 fuel) kp62 fuel (.block 0 (.loop (bodyOf 0 Try.f62))) st K = some r := by
  unfold B62_0 at h
  split at h
  · rename_i s hs
    split at h
    · skip
      obtain ⟨hb, h⟩ := cond_some' h
      simp only [Bool.and_eq_true, Nat.beq_eq, decide_eq_true_eq] at hb
      obtain ⟨⟨⟨⟨⟨rfl, rfl⟩, rfl⟩, rfl⟩, rfl⟩, rfl⟩ := hb
      exact blk_loop (S := T62_0) (ks := E62_0) (step := S_file_size_0 fuel) (v := (_, _, _, _)) (by kernel_rfl) (by kernel_rfl) (fun R K v => by obtain ⟨x0, x1, x2, x3⟩ := v; exact S62_0_ok fuel R K x0 x1 x2 x3) hs h
    · cases h
  · cases h
noncomputable def J62 (fuel : Nat) (i : Nat) : Option Ev.Blk := Ev.look i [(100000, B62_0 fuel)]
noncomputable def Fg_file_size (fuel : Nat) (f63 : YF63) (x0 : (List (Int × Int × Int × (List Int) × (List Bool) × (List Int)))) (k0 : (Int) → Option Ans) : Option Ans :=
  (L_file_size_0 fuel ((0 : Int), x0, (↑x0.length : Int), (0 : Int))
  (fun b0_0 =>
  k0 b0_0))
noncomputable def F_file_size (fuel : Nat) (x0 : (List (Int × Int × Int × (List Int) × (List Bool) × (List Int)))) (k0 : (Int) → Option Ans) : Option Ans := Fg_file_size fuel (F_segment_Header fuel) x0 k0
abbrev YF62 : Type := ((List (Int × Int × Int × (List Int) × (List Bool) × (List Int)))) → ((Int) → Option Ans) → Option Ans
theorem F62_eqg (fuel : Nat) (f63 : YF63) (x0 : (List (Int × Int × Int × (List Int) × (List Bool) × (List Int)))) (k : Ev.Cont) : evalFn tab (Gg62 f63) (J62 fuel) kp62 fuel Try.f62 [.c (.sl (.pair (.int .i64) (.pair (.int .i64) (.pair (.int .i64) (.pair (.sl (.int .i64)) (.pair (.sl .bool) (.sl (.int .u8))))))) x0)] [] k = Fg_file_size fuel f63 x0 (fun r => match r with | r0 => k (.c (.int .i64 r0), [])) := by
  kernel_rfl
theorem F62_eq (fuel : Nat) (x0 : (List (Int × Int × Int × (List Int) × (List Bool) × (List Int)))) (k : Ev.Cont) : evalFn tab (G62 fuel) (J62 fuel) kp62 fuel Try.f62 [.c (.sl (.pair (.int .i64) (.pair (.int .i64) (.pair (.int .i64) (.pair (.sl (.int .i64)) (.pair (.sl .bool) (.sl (.int .u8))))))) x0)] [] k = F_file_size fuel x0 (fun r => match r with | r0 => k (.c (.int .i64 r0), [])) :=
  F62_eqg fuel (F_segment_Header fuel) x0 k
theorem hG62 (fuel : Nat) : GOK Try.prog (G62 fuel) :=
  gok_cons ⟨ok63 fuel, enters_of Try.func63 (by kernel_rfl) rfl⟩ <|
  gok_nil
theorem B62_0_blk (fuel : Nat) : BlkOK Try.prog Try.f62.ntmps (.block 0 (.loop (bodyOf 0 Try.f62))) (B62_0 fuel) :=
  blk_of (blk_of_code tab_ok (hG62 fuel) mixed (J := J62_0 fuel) (kp := kp62) (fuel := fuel) (by kernel_rfl) (fun q hq => by
    rw [(by kernel_rfl : obl (J62_0 fuel) (.block 0 (.loop (bodyOf 0 Try.f62))) = [])] at hq
    cases hq)) (B62_0_ok fuel)
theorem fok62 (fuel : Nat) : FnOK Try.prog 62 (evalFn tab (G62 fuel) (J62 fuel) kp62 fuel Try.f62) :=
  fn_ok tab_ok (hG62 fuel) mixed Try.func62 (c := (Try.f62.body).getD .skip) rfl (fun q hq => by
    rw [(by kernel_rfl : obl (J62 fuel) ((Try.f62.body).getD .skip) = [(.block 0 (.loop (bodyOf 0 Try.f62)), B62_0 fuel)])] at hq
    simp only [List.mem_cons, List.not_mem_nil, or_false] at hq
    subst hq
    · exact B62_0_blk fuel)
noncomputable def mt62 : List Ev.SV → List Ev.Ob → Bool := fun args objs => match args, objs with
 | [.c (.sl (.pair (.int .i64) (.pair (.int .i64) (.pair (.int .i64) (.pair (.sl (.int .i64)) (.pair (.sl .bool) (.sl (.int .u8))))))) _)], [] => true
 | _, _ => false
noncomputable def spg62 (F : YF62) : Ev.Spec := fun args objs k => match args, objs with
 | [.c (.sl (.pair (.int .i64) (.pair (.int .i64) (.pair (.int .i64) (.pair (.sl (.int .i64)) (.pair (.sl .bool) (.sl (.int .u8))))))) x0)], [] => bif true then F x0 (fun r => match r with | r0 => k (.c (.int .i64 r0), [])) else none
 | _, _ => none
noncomputable def spec62 (fuel : Nat) : Ev.Spec := spg62 (F_file_size fuel)
theorem ok62 (fuel : Nat) : FnOK Try.prog 62 (spec62 fuel) := by
  intro args objs kk r h
  unfold spec62 spg62 at h
  split at h
  · skip
    obtain ⟨hb, h⟩ := cond_some' h
    simp only [Bool.and_eq_true, Nat.beq_eq, decide_eq_true_eq] at hb
    clear hb
    exact fok62 fuel _ _ kk r ((F62_eq fuel _ kk).trans h)
  · cases h
end Go.Proofs.Ytihfgpfofmjbaaa

set_option linter.unusedVariables false
set_option linter.unusedSimpArgs false
set_option maxRecDepth 100000
set_option maxHeartbeats 2000000
namespace Go.Proofs.Ytihfgpfofmjbaaa
open Go Ev
def kp58 (i : Nat) : Option (List Nat) := Ev.look i []
noncomputable def Gg58 (f59 : YF59) (f : Nat) : Option Ev.Spec := Ev.look f [(59, spg59 f59)]
noncomputable def G58 (fuel : Nat) : Nat → Option Ev.Spec := Gg58 (F_segment_Valid fuel)
noncomputable def J58 (fuel : Nat) (i : Nat) : Option Ev.Blk := Ev.look i []
noncomputable def Fg_file_Write_1 (fuel : Nat) (f59 : YF59) (x0 x1 x2 : Int) (x3 : (List Int)) (x4 : (List Bool)) (x5 : (List Int)) (k0 : (Bool) → Option Ans) : Option Ans :=
  (f59 (x0) (x1) (x2) (x3) (x4) (x5)
  (fun y2 =>
  k0 !y2))
noncomputable def F_file_Write_1 (fuel : Nat) (x0 x1 x2 : Int) (x3 : (List Int)) (x4 : (List Bool)) (x5 : (List Int)) (k0 : (Bool) → Option Ans) : Option Ans := Fg_file_Write_1 fuel (F_segment_Valid fuel) x0 x1 x2 x3 x4 x5 k0
abbrev YF58 : Type := (Int) → (Int) → (Int) → ((List Int)) → ((List Bool)) → ((List Int)) → ((Bool) → Option Ans) → Option Ans
theorem F58_eqg (fuel : Nat) (f59 : YF59) (x0 x1 x2 : Int) (x3 : (List Int)) (x4 : (List Bool)) (x5 : (List Int)) (k : Ev.Cont) : evalFn tab (Gg58 f59) (J58 fuel) kp58 fuel Try.f58 [.agg [.int .i64 x0, .int .i64 x1, .int .i64 x2, .sl (.int .i64) x3, .sl .bool x4, .sl (.int .u8) x5]] [] k = Fg_file_Write_1 fuel f59 x0 x1 x2 x3 x4 x5 (fun r => match r with | r0 => k (.c (.bool r0), [])) := by
  kernel_rfl
theorem F58_eq (fuel : Nat) (x0 x1 x2 : Int) (x3 : (List Int)) (x4 : (List Bool)) (x5 : (List Int)) (k : Ev.Cont) : evalFn tab (G58 fuel) (J58 fuel) kp58 fuel Try.f58 [.agg [.int .i64 x0, .int .i64 x1, .int .i64 x2, .sl (.int .i64) x3, .sl .bool x4, .sl (.int .u8) x5]] [] k = F_file_Write_1 fuel x0 x1 x2 x3 x4 x5 (fun r => match r with | r0 => k (.c (.bool r0), [])) :=
  F58_eqg fuel (F_segment_Valid fuel) x0 x1 x2 x3 x4 x5 k
theorem hG58 (fuel : Nat) : GOK Try.prog (G58 fuel) :=
  gok_cons ⟨ok59 fuel, enters_of Try.func59 (by kernel_rfl) rfl⟩ <|
  gok_nil
theorem fok58 (fuel : Nat) : FnOK Try.prog 58 (evalFn tab (G58 fuel) (J58 fuel) kp58 fuel Try.f58) :=
  fn_ok tab_ok (hG58 fuel) mixed Try.func58 (c := (Try.f58.body).getD .skip) rfl (fun q hq => by
    rw [(by kernel_rfl : obl (J58 fuel) ((Try.f58.body).getD .skip) = [])] at hq
    cases hq)
noncomputable def mt58 : List Ev.SV → List Ev.Ob → Bool := fun args objs => match args, objs with
 | [.agg [.int .i64 _, .int .i64 _, .int .i64 _, .sl (.int .i64) _, .sl .bool _, .sl (.int .u8) _]], [] => true
 | _, _ => false
noncomputable def spg58 (F : YF58) : Ev.Spec := fun args objs k => match args, objs with
 | [.agg [.int .i64 x0, .int .i64 x1, .int .i64 x2, .sl (.int .i64) x3, .sl .bool x4, .sl (.int .u8) x5]], [] => bif true then F x0 x1 x2 x3 x4 x5 (fun r => match r with | r0 => k (.c (.bool r0), [])) else none
 | _, _ => none
noncomputable def spec58 (fuel : Nat) : Ev.Spec := spg58 (F_file_Write_1 fuel)
theorem ok58 (fuel : Nat) : FnOK Try.prog 58 (spec58 fuel) := by
  intro args objs kk r h
  unfold spec58 spg58 at h
  split at h
  · skip
    obtain ⟨hb, h⟩ := cond_some' h
    simp only [Bool.and_eq_true, Nat.beq_eq, decide_eq_true_eq] at hb
    clear hb
    exact fok58 fuel _ _ kk r ((F58_eq fuel _ _ _ _ _ _ kk).trans h)
  · cases h
end Go.Proofs.Ytihfgpfofmjbaaa

set_option linter.unusedVariables false
set_option linter.unusedSimpArgs false
set_option maxRecDepth 100000
set_option maxHeartbeats 2000000
namespace Go.Proofs.Ytihfgpfofmjbaaa
open Go Ev
def kp133_ac5 (i : Nat) : Option (List Nat) := Ev.look i [(2, [0, 1, 7, 8]), (100000, []), (400000, [4])]
noncomputable def Gg133_ac5 (f58 : YF58) (f : Nat) : Option Ev.Spec := Ev.look f [(58, spg58 f58)]
noncomputable def G133_ac5 (fuel : Nat) : Nat → Option Ev.Spec := Gg133_ac5 (F_file_Write_1 fuel)
noncomputable def Sg_slices_IndexFunc_api_Segment_api_Segment_ac5_0 (fuel : Nat) (f58 : YF58) (x0 : (List (Int × (Int × (Int × ((List Int) × ((List Bool) × (List Int)))))))) (x1 x2 : Int) (c : ((List (Int × (Int × (Int × ((List Int) × ((List Bool) × (List Int))))))) × Int × Int) → Option Ans) (B : (Int → Option Ans) × (Unit → Option Ans)) : Option Ans := match B with
 | (ret, b) =>
  bif decide (x2 < x1) then
  bif decide ((0 : Int) ≤ x2 ∧ x2 < (↑x0.length : Int)) then
  (f58 ((x0.getD x2.toNat ((0 : Int), (0 : Int), (0 : Int), [], [], [])).fst) ((x0.getD x2.toNat ((0 : Int), (0 : Int), (0 : Int), [], [], [])).snd.fst) ((x0.getD x2.toNat ((0 : Int), (0 : Int), (0 : Int), [], [], [])).snd.snd.fst) ((x0.getD x2.toNat ((0 : Int), (0 : Int), (0 : Int), [], [], [])).snd.snd.snd.fst) ((x0.getD x2.toNat ((0 : Int), (0 : Int), (0 : Int), [], [], [])).snd.snd.snd.snd.fst) ((x0.getD x2.toNat ((0 : Int), (0 : Int), (0 : Int), [], [], [])).snd.snd.snd.snd.snd)
  (fun y4 =>
  bif y4 then
  ret x2
  else
  c (x0, x1, IntKind.i64.wrap (x2 + (1 : Int)))))
  else none
  else
  b ()
noncomputable def S_slices_IndexFunc_api_Segment_api_Segment_ac5_0 (fuel : Nat) (v : (List (Int × (Int × (Int × ((List Int) × ((List Bool) × (List Int))))))) × Int × Int) (c : ((List (Int × (Int × (Int × ((List Int) × ((List Bool) × (List Int))))))) × Int × Int) → Option Ans) (B : (Int → Option Ans) × (Unit → Option Ans)) : Option Ans := match v with
 | (x0, x1, x2) => Sg_slices_IndexFunc_api_Segment_api_Segment_ac5_0 fuel (F_file_Write_1 fuel) x0 x1 x2 c B
noncomputable def L_slices_IndexFunc_api_Segment_api_Segment_ac5_0 (fuel : Nat) (v : (List (Int × (Int × (Int × ((List Int) × ((List Bool) × (List Int))))))) × Int × Int) (ret : (Int → Option Ans)) (b : (Unit → Option Ans)) : Option Ans := iter (S_slices_IndexFunc_api_Segment_api_Segment_ac5_0 fuel) fuel v (ret, b)
noncomputable def J133_ac5_0 (fuel : Nat) (i : Nat) : Option Ev.Blk := Ev.look i []
noncomputable def T133_ac5_0 (v : (List (Int × (Int × (Int × ((List Int) × ((List Bool) × (List Int))))))) × Int × Int) : Ev.St := match v with | (x0, x1, x2) => ⟨[(0, .c (.sl (.pair (.int .i64) (.pair (.int .i64) (.pair (.int .i64) (.pair (.sl (.int .i64)) (.pair (.sl .bool) (.sl (.int .u8))))))) x0)), (1, .c (.clo 58 [])), (7, .c (.int .i64 x1)), (8, .c (.int .i64 x2))], [], 0, 0⟩
noncomputable def E133_ac5_0 (K : Ev.Ex → Ev.St → Option Ans) : (Int → Option Ans) × (Unit → Option Ans) := ((fun v => match v with | x0 => K .ret ⟨[(4, .c (.int .i64 x0))], [], 0, 0⟩), (fun v => match v with | () => K .normal ⟨[], [], 0, 0⟩))
theorem S133_ac5_0_okg (fuel : Nat) (f58 : YF58) (R : Ev.St → Option Ans) (K : Ev.Ex → Ev.St → Option Ans) (x0 : (List (Int × (Int × (Int × ((List Int) × ((List Bool) × (List Int)))))))) (x1 x2 : Int) : evalCode tab (Gg133_ac5 f58) (J133_ac5_0 fuel) kp133_ac5 fuel (bodyOf 0 Try.f133) (T133_ac5_0 (x0, x1, x2)) (lc kp133_ac5 2 0 R K) = Sg_slices_IndexFunc_api_Segment_api_Segment_ac5_0 fuel f58 x0 x1 x2 (fun v => R (T133_ac5_0 v)) (E133_ac5_0 K) := by
  kernel_rfl
theorem S133_ac5_0_ok (fuel : Nat) (R : Ev.St → Option Ans) (K : Ev.Ex → Ev.St → Option Ans) (x0 : (List (Int × (Int × (Int × ((List Int) × ((List Bool) × (List Int)))))))) (x1 x2 : Int) : evalCode tab (G133_ac5 fuel) (J133_ac5_0 fuel) kp133_ac5 fuel (bodyOf 0 Try.f133) (T133_ac5_0 (x0, x1, x2)) (lc kp133_ac5 2 0 R K) = S_slices_IndexFunc_api_Segment_api_Segment_ac5_0 fuel (x0, x1, x2) (fun v => R (T133_ac5_0 v)) (E133_ac5_0 K) :=
  S133_ac5_0_okg fuel (F_file_Write_1 fuel) R K x0 x1 x2
noncomputable def B133_ac5_0 (fuel : Nat) : Ev.Blk := fun st K => match canonO (kp133_ac5 2) st with
 | some s => (match s with
 | ⟨[(q0, .c (.sl (.pair (.int .i64) (.pair (.int .i64) (.pair (.int .i64) (.pair (.sl (.int .i64)) (.pair (.sl .bool) (.sl (.int .u8))))))) x0)), (q1, .c (.clo q2 [])), (q3, .c (.int .i64 x1)), (q4, .c (.int .i64 x2))], [], q5, q6⟩ => bif Nat.beq q0 0 && Nat.beq q1 1 && Nat.beq q2 58 && Nat.beq q3 7 && Nat.beq q4 8 && Nat.beq q5 0 && Nat.beq q6 0 then iter (S_slices_IndexFunc_api_Segment_api_Segment_ac5_0 fuel) fuel (x0, x1, x2) (E133_ac5_0 K) else none
 | _ => none)
 | none => none
theorem B133_ac5_0_ok (fuel : Nat) (st : Ev.St) (K : Ev.Ex → Ev.St → Option Ans) (r : Ans) (h : B133_ac5_0 fuel st K = some r) : evalCode tab (G133_ac5 fuel) (J133_ac5_0 fuel) kp133_ac5 fuel (.block 0 (.loop (bodyOf 0 Try.f133))) st K = some r := by
  unfold B133_ac5_0 at h
  split at h
  · rename_i s hs
    split at h
    · skip
      obtain ⟨hb, h⟩ := cond_some' h
      simp only [Bool.and_eq_true, Nat.beq_eq, decide_eq_true_eq] at hb
      obtain ⟨⟨⟨⟨⟨⟨rfl, rfl⟩, rfl⟩, rfl⟩, rfl⟩, rfl⟩, rfl⟩ := hb
      exact blk_loop (S := T133_ac5_0) (ks := E133_ac5_0) (step := S_slices_IndexFunc_api_Segment_api_Segment_ac5_0 fuel) (v := (_, _, _)) (by kernel_rfl) (by kernel_rfl) (fun R K v => by obtain ⟨x0, x1, x2⟩ := v; exact S133_ac5_0_ok fuel R K x0 x1 x2) hs h
    · cases h
  · cases h
noncomputable def J133_ac5 (fuel : Nat) (i : Nat) : Option Ev.Blk := Ev.look i [(100000, B133_ac5_0 fuel)]
noncomputable def Fg_slices_IndexFunc_api_Segment_api_Segment_ac5 (fuel : Nat) (f58 : YF58) (x0 : (List (Int × (Int × (Int × ((List Int) × ((List Bool) × (List Int)))))))) (k0 : (Int) → Option Ans) : Option Ans :=
  (L_slices_IndexFunc_api_Segment_api_Segment_ac5_0 fuel (x0, (↑x0.length : Int), (0 : Int))
  (fun ret0_0 =>
  k0 ret0_0)
  (fun () =>
  k0 ((-1 : Int))))
noncomputable def F_slices_IndexFunc_api_Segment_api_Segment_ac5 (fuel : Nat) (x0 : (List (Int × (Int × (Int × ((List Int) × ((List Bool) × (List Int)))))))) (k0 : (Int) → Option Ans) : Option Ans := Fg_slices_IndexFunc_api_Segment_api_Segment_ac5 fuel (F_file_Write_1 fuel) x0 k0
abbrev YF133_ac5 : Type := ((List (Int × (Int × (Int × ((List Int) × ((List Bool) × (List Int)))))))) → ((Int) → Option Ans) → Option Ans
theorem F133_ac5_eqg (fuel : Nat) (f58 : YF58) (x0 : (List (Int × (Int × (Int × ((List Int) × ((List Bool) × (List Int)))))))) (k : Ev.Cont) : evalFn tab (Gg133_ac5 f58) (J133_ac5 fuel) kp133_ac5 fuel Try.f133 [.c (.sl (.pair (.int .i64) (.pair (.int .i64) (.pair (.int .i64) (.pair (.sl (.int .i64)) (.pair (.sl .bool) (.sl (.int .u8))))))) x0), .c (.clo 58 [])] [] k = Fg_slices_IndexFunc_api_Segment_api_Segment_ac5 fuel f58 x0 (fun r => match r with | r0 => k (.c (.int .i64 r0), [])) := by
  kernel_rfl
theorem F133_ac5_eq (fuel : Nat) (x0 : (List (Int × (Int × (Int × ((List Int) × ((List Bool) × (List Int)))))))) (k : Ev.Cont) : evalFn tab (G133_ac5 fuel) (J133_ac5 fuel) kp133_ac5 fuel Try.f133 [.c (.sl (.pair (.int .i64) (.pair (.int .i64) (.pair (.int .i64) (.pair (.sl (.int .i64)) (.pair (.sl .bool) (.sl (.int .u8))))))) x0), .c (.clo 58 [])] [] k = F_slices_IndexFunc_api_Segment_api_Segment_ac5 fuel x0 (fun r => match r with | r0 => k (.c (.int .i64 r0), [])) :=
  F133_ac5_eqg fuel (F_file_Write_1 fuel) x0 k
theorem hG133_ac5 (fuel : Nat) : GOK Try.prog (G133_ac5 fuel) :=
  gok_cons ⟨ok58 fuel, enters_of Try.func58 (by kernel_rfl) rfl⟩ <|
  gok_nil
theorem B133_ac5_0_blk (fuel : Nat) : BlkOK Try.prog Try.f133.ntmps (.block 0 (.loop (bodyOf 0 Try.f133))) (B133_ac5_0 fuel) :=
  blk_of (blk_of_code tab_ok (hG133_ac5 fuel) mixed (J := J133_ac5_0 fuel) (kp := kp133_ac5) (fuel := fuel) (by kernel_rfl) (fun q hq => by
    rw [(by kernel_rfl : obl (J133_ac5_0 fuel) (.block 0 (.loop (bodyOf 0 Try.f133))) = [])] at hq
    cases hq)) (B133_ac5_0_ok fuel)
theorem fok133_ac5 (fuel : Nat) : FnOK Try.prog 133 (evalFn tab (G133_ac5 fuel) (J133_ac5 fuel) kp133_ac5 fuel Try.f133) :=
  fn_ok tab_ok (hG133_ac5 fuel) mixed Try.func133 (c := (Try.f133.body).getD .skip) rfl (fun q hq => by
    rw [(by kernel_rfl : obl (J133_ac5 fuel) ((Try.f133.body).getD .skip) = [(.block 0 (.loop (bodyOf 0 Try.f133)), B133_ac5_0 fuel)])] at hq
    simp only [List.mem_cons, List.not_mem_nil, or_false] at hq
    subst hq
    · exact B133_ac5_0_blk fuel)
noncomputable def mt133_ac5 : List Ev.SV → List Ev.Ob → Bool := fun args objs => match args, objs with
 | [.c (.sl (.pair (.int .i64) (.pair (.int .i64) (.pair (.int .i64) (.pair (.sl (.int .i64)) (.pair (.sl .bool) (.sl (.int .u8))))))) _), .c (.clo q0 [])], [] => Nat.beq q0 58
 | _, _ => false
noncomputable def spg133_ac5 (F : YF133_ac5) : Ev.Spec := fun args objs k => match args, objs with
 | [.c (.sl (.pair (.int .i64) (.pair (.int .i64) (.pair (.int .i64) (.pair (.sl (.int .i64)) (.pair (.sl .bool) (.sl (.int .u8))))))) x0), .c (.clo q0 [])], [] => bif Nat.beq q0 58 then F x0 (fun r => match r with | r0 => k (.c (.int .i64 r0), [])) else none
 | _, _ => none
noncomputable def spec133_ac5 (fuel : Nat) : Ev.Spec := spg133_ac5 (F_slices_IndexFunc_api_Segment_api_Segment_ac5 fuel)
theorem ok133_ac5 (fuel : Nat) : FnOK Try.prog 133 (spec133_ac5 fuel) := by
  intro args objs kk r h
  unfold spec133_ac5 spg133_ac5 at h
  split at h
  · skip
    obtain ⟨hb, h⟩ := cond_some' h
    simp only [Bool.and_eq_true, Nat.beq_eq, decide_eq_true_eq] at hb
    obtain rfl := hb
    exact fok133_ac5 fuel _ _ kk r ((F133_ac5_eq fuel _ kk).trans h)
  · cases h
end Go.Proofs.Ytihfgpfofmjbaaa

set_option linter.unusedVariables false
set_option linter.unusedSimpArgs false
set_option maxRecDepth 100000
set_option maxHeartbeats 2000000
namespace Go.Proofs.Ytihfgpfofmjbaaa
open Go Ev
def kp57_ac5 (i : Nat) : Option (List Nat) := Ev.look i []
noncomputable def Gg57_ac5 (f133_ac5 : YF133_ac5) (f : Nat) : Option Ev.Spec := Ev.look f [(133, spg133_ac5 f133_ac5)]
noncomputable def G57_ac5 (fuel : Nat) : Nat → Option Ev.Spec := Gg57_ac5 (F_slices_IndexFunc_api_Segment_api_Segment_ac5 fuel)
noncomputable def J57_ac5 (fuel : Nat) (i : Nat) : Option Ev.Blk := Ev.look i []
noncomputable def Fg_slices_ContainsFunc_api_Segment_api_Segment_ac5 (fuel : Nat) (f133_ac5 : YF133_ac5) (x0 : (List (Int × (Int × (Int × ((List Int) × ((List Bool) × (List Int)))))))) (k0 : (Bool) → Option Ans) : Option Ans :=
  (f133_ac5 (x0)
  (fun y2 =>
  k0 (decide (y2 ≥ (0 : Int)))))
noncomputable def F_slices_ContainsFunc_api_Segment_api_Segment_ac5 (fuel : Nat) (x0 : (List (Int × (Int × (Int × ((List Int) × ((List Bool) × (List Int)))))))) (k0 : (Bool) → Option Ans) : Option Ans := Fg_slices_ContainsFunc_api_Segment_api_Segment_ac5 fuel (F_slices_IndexFunc_api_Segment_api_Segment_ac5 fuel) x0 k0
abbrev YF57_ac5 : Type := ((List (Int × (Int × (Int × ((List Int) × ((List Bool) × (List Int)))))))) → ((Bool) → Option Ans) → Option Ans
theorem F57_ac5_eqg (fuel : Nat) (f133_ac5 : YF133_ac5) (x0 : (List (Int × (Int × (Int × ((List Int) × ((List Bool) × (List Int)))))))) (k : Ev.Cont) : evalFn tab (Gg57_ac5 f133_ac5) (J57_ac5 fuel) kp57_ac5 fuel Try.f57 [.c (.sl (.pair (.int .i64) (.pair (.int .i64) (.pair (.int .i64) (.pair (.sl (.int .i64)) (.pair (.sl .bool) (.sl (.int .u8))))))) x0), .c (.clo 58 [])] [] k = Fg_slices_ContainsFunc_api_Segment_api_Segment_ac5 fuel f133_ac5 x0 (fun r => match r with | r0 => k (.c (.bool r0), [])) := by
  kernel_rfl
theorem F57_ac5_eq (fuel : Nat) (x0 : (List (Int × (Int × (Int × ((List Int) × ((List Bool) × (List Int)))))))) (k : Ev.Cont) : evalFn tab (G57_ac5 fuel) (J57_ac5 fuel) kp57_ac5 fuel Try.f57 [.c (.sl (.pair (.int .i64) (.pair (.int .i64) (.pair (.int .i64) (.pair (.sl (.int .i64)) (.pair (.sl .bool) (.sl (.int .u8))))))) x0), .c (.clo 58 [])] [] k = F_slices_ContainsFunc_api_Segment_api_Segment_ac5 fuel x0 (fun r => match r with | r0 => k (.c (.bool r0), [])) :=
  F57_ac5_eqg fuel (F_slices_IndexFunc_api_Segment_api_Segment_ac5 fuel) x0 k
theorem hG57_ac5 (fuel : Nat) : GOK Try.prog (G57_ac5 fuel) :=
  gok_cons ⟨ok133_ac5 fuel, enters_of Try.func133 (by kernel_rfl) rfl⟩ <|
  gok_nil
theorem fok57_ac5 (fuel : Nat) : FnOK Try.prog 57 (evalFn tab (G57_ac5 fuel) (J57_ac5 fuel) kp57_ac5 fuel Try.f57) :=
  fn_ok tab_ok (hG57_ac5 fuel) mixed Try.func57 (c := (Try.f57.body).getD .skip) rfl (fun q hq => by
    rw [(by kernel_rfl : obl (J57_ac5 fuel) ((Try.f57.body).getD .skip) = [])] at hq
    cases hq)
noncomputable def mt57_ac5 : List Ev.SV → List Ev.Ob → Bool := fun args objs => match args, objs with
 | [.c (.sl (.pair (.int .i64) (.pair (.int .i64) (.pair (.int .i64) (.pair (.sl (.int .i64)) (.pair (.sl .bool) (.sl (.int .u8))))))) _), .c (.clo q0 [])], [] => Nat.beq q0 58
 | _, _ => false
noncomputable def spg57_ac5 (F : YF57_ac5) : Ev.Spec := fun args objs k => match args, objs with
 | [.c (.sl (.pair (.int .i64) (.pair (.int .i64) (.pair (.int .i64) (.pair (.sl (.int .i64)) (.pair (.sl .bool) (.sl (.int .u8))))))) x0), .c (.clo q0 [])], [] => bif Nat.beq q0 58 then F x0 (fun r => match r with | r0 => k (.c (.bool r0), [])) else none
 | _, _ => none
noncomputable def spec57_ac5 (fuel : Nat) : Ev.Spec := spg57_ac5 (F_slices_ContainsFunc_api_Segment_api_Segment_ac5 fuel)
theorem ok57_ac5 (fuel : Nat) : FnOK Try.prog 57 (spec57_ac5 fuel) := by
  intro args objs kk r h
  unfold spec57_ac5 spg57_ac5 at h
  split at h
  · skip
    obtain ⟨hb, h⟩ := cond_some' h
    simp only [Bool.and_eq_true, Nat.beq_eq, decide_eq_true_eq] at hb
    obtain rfl := hb
    exact fok57_ac5 fuel _ _ kk r ((F57_ac5_eq fuel _ kk).trans h)
  · cases h
end Go.Proofs.Ytihfgpfofmjbaaa

set_option linter.unusedVariables false
set_option linter.unusedSimpArgs false
set_option maxRecDepth 100000
set_option maxHeartbeats 2000000
namespace Go.Proofs.Ytihfgpfofmjbaaa
open Go Ev
def kp17 (i : Nat) : Option (List Nat) := Ev.look i [(15, [0, 8, 9, 55, 56, 57]), (100000, [8, 9]), (400000, [4, 5])]
noncomputable def Gg17 (f57_ac5 : YF57_ac5) (f60 : YF60) (f61 : YF61) (f62 : YF62) (f63 : YF63) (f : Nat) : Option Ev.Spec := Ev.look f [(57, spg57_ac5 f57_ac5), (60, spg60 f60), (61, spg61 f61), (62, spg62 f62), (63, spg63 f63)]
noncomputable def G17 (fuel : Nat) : Nat → Option Ev.Spec := Gg17 (F_slices_ContainsFunc_api_Segment_api_Segment_ac5 fuel) (F_segment_InOrder fuel) (F_file_rightEnd fuel) (F_file_size fuel) (F_segment_Header fuel)
noncomputable def Sg_file_Write_0 (fuel : Nat) (f57_ac5 : YF57_ac5) (f60 : YF60) (f61 : YF61) (f62 : YF62) (f63 : YF63) (x0 : Int) (x1 : (List (Int × (Int × (Int × ((List Int) × ((List Bool) × (List Int)))))))) (x2 x3 : Int) (x4 x5 : (List Int)) (c : (Int × (List (Int × (Int × (Int × ((List Int) × ((List Bool) × (List Int))))))) × Int × Int × (List Int) × (List Int)) → Option Ans) (B : ((List Int) × (List Int) → Option Ans)) : Option Ans := match B with
 | b =>
  bif decide (x3 < x2) then
  bif decide ((0 : Int) ≤ x3 ∧ x3 < (↑x1.length : Int)) then
  (f63 ((x1.getD x3.toNat ((0 : Int), (0 : Int), (0 : Int), [], [], [])).fst) ((x1.getD x3.toNat ((0 : Int), (0 : Int), (0 : Int), [], [], [])).snd.fst) ((x1.getD x3.toNat ((0 : Int), (0 : Int), (0 : Int), [], [], [])).snd.snd.fst) ((x1.getD x3.toNat ((0 : Int), (0 : Int), (0 : Int), [], [], [])).snd.snd.snd.fst) ((x1.getD x3.toNat ((0 : Int), (0 : Int), (0 : Int), [], [], [])).snd.snd.snd.snd.fst) ((x1.getD x3.toNat ((0 : Int), (0 : Int), (0 : Int), [], [], [])).snd.snd.snd.snd.snd)
  (fun (y4_0, y4_1) =>
  bif decide ((x4.length + y4_1.length) * (1 : Nat) ≤ (140737488355328 : Nat) ∧ x4.length + y4_1.length ≤ (140737488355328 : Nat)) then
  bif x0 == (1 : Int) then
  bif decide ((x5.length + List.length (x1.getD x3.toNat ((0 : Int), (0 : Int), (0 : Int), [], [], [])).snd.snd.snd.snd.snd) * (1 : Nat) ≤ (140737488355328 : Nat) ∧ x5.length + List.length (x1.getD x3.toNat ((0 : Int), (0 : Int), (0 : Int), [], [], [])).snd.snd.snd.snd.snd ≤ (140737488355328 : Nat)) then
  c (x0, x1, x2, IntKind.i64.wrap (x3 + (1 : Int)), x4 ++ y4_1, x5 ++ (x1.getD x3.toNat ((0 : Int), (0 : Int), (0 : Int), [], [], [])).snd.snd.snd.snd.snd)
  else none
  else
  bif decide (((x4 ++ y4_1).length + List.length (x1.getD x3.toNat ((0 : Int), (0 : Int), (0 : Int), [], [], [])).snd.snd.snd.snd.snd) * (1 : Nat) ≤ (140737488355328 : Nat) ∧ (x4 ++ y4_1).length + List.length (x1.getD x3.toNat ((0 : Int), (0 : Int), (0 : Int), [], [], [])).snd.snd.snd.snd.snd ≤ (140737488355328 : Nat)) then
  c (x0, x1, x2, IntKind.i64.wrap (x3 + (1 : Int)), x4 ++ y4_1 ++ (x1.getD x3.toNat ((0 : Int), (0 : Int), (0 : Int), [], [], [])).snd.snd.snd.snd.snd, x5)
  else none
  else none))
  else none
  else
  b (x4, x5)
noncomputable def S_file_Write_0 (fuel : Nat) (v : Int × (List (Int × (Int × (Int × ((List Int) × ((List Bool) × (List Int))))))) × Int × Int × (List Int) × (List Int)) (c : (Int × (List (Int × (Int × (Int × ((List Int) × ((List Bool) × (List Int))))))) × Int × Int × (List Int) × (List Int)) → Option Ans) (B : ((List Int) × (List Int) → Option Ans)) : Option Ans := match v with
 | (x0, x1, x2, x3, x4, x5) => Sg_file_Write_0 fuel (F_slices_ContainsFunc_api_Segment_api_Segment_ac5 fuel) (F_segment_InOrder fuel) (F_file_rightEnd fuel) (F_file_size fuel) (F_segment_Header fuel) x0 x1 x2 x3 x4 x5 c B
noncomputable def L_file_Write_0 (fuel : Nat) (v : Int × (List (Int × (Int × (Int × ((List Int) × ((List Bool) × (List Int))))))) × Int × Int × (List Int) × (List Int)) (b : ((List Int) × (List Int) → Option Ans)) : Option Ans := iter (S_file_Write_0 fuel) fuel v b
noncomputable def J17_0 (fuel : Nat) (i : Nat) : Option Ev.Blk := Ev.look i []
noncomputable def T17_0 (v : Int × (List (Int × (Int × (Int × ((List Int) × ((List Bool) × (List Int))))))) × Int × Int × (List Int) × (List Int)) : Ev.St := match v with | (x0, x1, x2, x3, x4, x5) => ⟨[(0, .c (.int .i64 x0)), (8, .c (.own 0)), (9, .c (.own 1)), (55, .c (.sl (.pair (.int .i64) (.pair (.int .i64) (.pair (.int .i64) (.pair (.sl (.int .i64)) (.pair (.sl .bool) (.sl (.int .u8))))))) x1)), (56, .c (.int .i64 x2)), (57, .c (.int .i64 x3))], [(0, .vec 5 (.int .u8) x4 true), (1, .vec 5 (.int .u8) x5 true)], 2, 0⟩
noncomputable def E17_0 (K : Ev.Ex → Ev.St → Option Ans) : ((List Int) × (List Int) → Option Ans) := (fun v => match v with | (x0, x1) => K .normal ⟨[(8, .c (.own 0)), (9, .c (.own 1))], [(0, .vec 5 (.int .u8) x0 true), (1, .vec 5 (.int .u8) x1 true)], 2, 0⟩)
theorem S17_0_okg (fuel : Nat) (f57_ac5 : YF57_ac5) (f60 : YF60) (f61 : YF61) (f62 : YF62) (f63 : YF63) (R : Ev.St → Option Ans) (K : Ev.Ex → Ev.St → Option Ans) (x0 : Int) (x1 : (List (Int × (Int × (Int × ((List Int) × ((List Bool) × (List Int)))))))) (x2 x3 : Int) (x4 x5 : (List Int)) : evalCode tab (Gg17 f57_ac5 f60 f61 f62 f63) (J17_0 fuel) kp17 fuel (bodyOf 0 Try.f17) (T17_0 (x0, x1, x2, x3, x4, x5)) (lc kp17 15 0 R K) = Sg_file_Write_0 fuel f57_ac5 f60 f61 f62 f63 x0 x1 x2 x3 x4 x5 (fun v => R (T17_0 v)) (E17_0 K) := by
  kernel_rfl
theorem S17_0_ok (fuel : Nat) (R : Ev.St → Option Ans) (K : Ev.Ex → Ev.St → Option Ans) (x0 : Int) (x1 : (List (Int × (Int × (Int × ((List Int) × ((List Bool) × (List Int)))))))) (x2 x3 : Int) (x4 x5 : (List Int)) : evalCode tab (G17 fuel) (J17_0 fuel) kp17 fuel (bodyOf 0 Try.f17) (T17_0 (x0, x1, x2, x3, x4, x5)) (lc kp17 15 0 R K) = S_file_Write_0 fuel (x0, x1, x2, x3, x4, x5) (fun v => R (T17_0 v)) (E17_0 K) :=
  S17_0_okg fuel (F_slices_ContainsFunc_api_Segment_api_Segment_ac5 fuel) (F_segment_InOrder fuel) (F_file_rightEnd fuel) (F_file_size fuel) (F_segment_Header fuel) R K x0 x1 x2 x3 x4 x5
noncomputable def B17_0 (fuel : Nat) : Ev.Blk := fun st K => match canonO (kp17 15) st with
 | some s => (match s with
 | ⟨[(q0, .c (.int .i64 x0)), (q1, .c (.own q2)), (q3, .c (.own q4)), (q5, .c (.sl (.pair (.int .i64) (.pair (.int .i64) (.pair (.int .i64) (.pair (.sl (.int .i64)) (.pair (.sl .bool) (.sl (.int .u8))))))) x1)), (q6, .c (.int .i64 x2)), (q7, .c (.int .i64 x3))], [(q8, .vec q9 (.int .u8) x4 true), (q10, .vec q11 (.int .u8) x5 true)], q12, q13⟩ => bif Nat.beq q0 0 && Nat.beq q1 8 && Nat.beq q2 0 && Nat.beq q3 9 && Nat.beq q4 1 && Nat.beq q5 55 && Nat.beq q6 56 && Nat.beq q7 57 && Nat.beq q8 0 && Nat.beq q9 5 && Nat.beq q10 1 && Nat.beq q11 5 && Nat.beq q12 2 && Nat.beq q13 0 then iter (S_file_Write_0 fuel) fuel (x0, x1, x2, x3, x4, x5) (E17_0 K) else none
 | _ => none)
 | none => none
theorem B17_0_ok (fuel : Nat) (st : Ev.St) (K : Ev.Ex → Ev.St → Option Ans) (r : Ans) (h : B17_0 fuel st K = some r) : evalCode tab (G17 fuel) (J17_0 fuel) kp17 fuel (.block 0 (.loop (bodyOf 0 Try.f17))) st K = some r := by
  unfold B17_0 at h
  split at h
  · rename_i s hs
    split at h
    · skip
      obtain ⟨hb, h⟩ := cond_some' h
      simp only [Bool.and_eq_true, Nat.beq_eq, decide_eq_true_eq] at hb
      obtain ⟨⟨⟨⟨⟨⟨⟨⟨⟨⟨⟨⟨⟨rfl, rfl⟩, rfl⟩, rfl⟩, rfl⟩, rfl⟩, rfl⟩, rfl⟩, rfl⟩, rfl⟩, rfl⟩, rfl⟩, rfl⟩, rfl⟩ := hb
      exact blk_loop (S := T17_0) (ks := E17_0) (step := S_file_Write_0 fuel) (v := (_, _, _, _, _, _)) (by kernel_rfl) (by kernel_rfl) (fun R K v => by obtain ⟨x0, x1, x2, x3, x4, x5⟩ := v; exact S17_0_ok fuel R K x0 x1 x2 x3 x4 x5) hs h
    · cases h
  · cases h
noncomputable def J17 (fuel : Nat) (i : Nat) : Option Ev.Blk := Ev.look i [(100000, B17_0 fuel)]
noncomputable def Fg_file_Write (fuel : Nat) (f57_ac5 : YF57_ac5) (f60 : YF60) (f61 : YF61) (f62 : YF62) (f63 : YF63) (x0 : Int) (x1 : (List (Int × Int × Int × (List Int) × (List Bool) × (List Int)))) (k0 : (Int × (List Int)) → Option Ans) : Option Ans :=
  bif decide (x0 < (0 : Int)) then
  k0 ((2 : Int), [])
  else
  bif decide (x0 > (2 : Int)) then
  k0 ((2 : Int), [])
  else
  (f57_ac5 (x1)
  (fun y4 =>
  bif y4 then
  k0 ((2 : Int), [])
  else
  (f60 (x1)
  (fun (y9_0, y9_1) =>
  bif y9_1 != (0 : Int) then
  k0 (y9_1, [])
  else
  (f61 (x0) (x1)
  (fun y14 =>
  bif !y14 then
  k0 ((60 : Int), [])
  else
  bif x0 != (2 : Int) then
  (f62 (x1)
  (fun y20 =>
  bif decide (IntKind.i64.wrap ((↑([(73 : Int), (78 : Int), (67 : Int), (49 : Int)] ++ [IntKind.u8.wrap x0]).length : Int) + y20) > (40000 : Int)) then
  k0 ((4 : Int), [])
  else
  bif decide ((↑x1.length : Int) > (100 : Int)) then
  k0 ((4 : Int), [])
  else
  (L_file_Write_0 fuel (x0, x1, (↑x1.length : Int), (0 : Int), [(73 : Int), (78 : Int), (67 : Int), (49 : Int)] ++ [IntKind.u8.wrap x0], [])
  (fun (b0_0, b0_1) =>
  bif decide ((b0_0.length + b0_1.length) * (1 : Nat) ≤ (140737488355328 : Nat) ∧ b0_0.length + b0_1.length ≤ (140737488355328 : Nat)) then
  k0 ((0 : Int), b0_0 ++ b0_1)
  else none))))
  else
  (f62 (x1)
  (fun y20 =>
  bif decide (IntKind.i64.wrap ((↑(0 : Nat) : Int) + y20) > (40000 : Int)) then
  k0 ((4 : Int), [])
  else
  bif decide ((↑x1.length : Int) > (100 : Int)) then
  k0 ((4 : Int), [])
  else
  (L_file_Write_0 fuel (x0, x1, (↑x1.length : Int), (0 : Int), [], [])
  (fun (b0_0, b0_1) =>
  bif decide ((b0_0.length + b0_1.length) * (1 : Nat) ≤ (140737488355328 : Nat) ∧ b0_0.length + b0_1.length ≤ (140737488355328 : Nat)) then
  k0 ((0 : Int), b0_0 ++ b0_1)
  else none))))))))))
noncomputable def F_file_Write (fuel : Nat) (x0 : Int) (x1 : (List (Int × Int × Int × (List Int) × (List Bool) × (List Int)))) (k0 : (Int × (List Int)) → Option Ans) : Option Ans := Fg_file_Write fuel (F_slices_ContainsFunc_api_Segment_api_Segment_ac5 fuel) (F_segment_InOrder fuel) (F_file_rightEnd fuel) (F_file_size fuel) (F_segment_Header fuel) x0 x1 k0
abbrev YF17 : Type := (Int) → ((List (Int × Int × Int × (List Int) × (List Bool) × (List Int)))) → ((Int × (List Int)) → Option Ans) → Option Ans
theorem F17_eqg (fuel : Nat) (f57_ac5 : YF57_ac5) (f60 : YF60) (f61 : YF61) (f62 : YF62) (f63 : YF63) (x0 : Int) (x1 : (List (Int × Int × Int × (List Int) × (List Bool) × (List Int)))) (k : Ev.Cont) : evalFn tab (Gg17 f57_ac5 f60 f61 f62 f63) (J17 fuel) kp17 fuel Try.f17 [.c (.int .i64 x0), .c (.sl (.pair (.int .i64) (.pair (.int .i64) (.pair (.int .i64) (.pair (.sl (.int .i64)) (.pair (.sl .bool) (.sl (.int .u8))))))) x1)] [] k = Fg_file_Write fuel f57_ac5 f60 f61 f62 f63 x0 x1 (fun r => match r with | (r0, r1) => k (.tup [(false, [.own 0]), (false, [.int .i64 r0])], [.vec 5 (.int .u8) r1 true])) := by
  kernel_rfl
theorem F17_eq (fuel : Nat) (x0 : Int) (x1 : (List (Int × Int × Int × (List Int) × (List Bool) × (List Int)))) (k : Ev.Cont) : evalFn tab (G17 fuel) (J17 fuel) kp17 fuel Try.f17 [.c (.int .i64 x0), .c (.sl (.pair (.int .i64) (.pair (.int .i64) (.pair (.int .i64) (.pair (.sl (.int .i64)) (.pair (.sl .bool) (.sl (.int .u8))))))) x1)] [] k = F_file_Write fuel x0 x1 (fun r => match r with | (r0, r1) => k (.tup [(false, [.own 0]), (false, [.int .i64 r0])], [.vec 5 (.int .u8) r1 true])) :=
  F17_eqg fuel (F_slices_ContainsFunc_api_Segment_api_Segment_ac5 fuel) (F_segment_InOrder fuel) (F_file_rightEnd fuel) (F_file_size fuel) (F_segment_Header fuel) x0 x1 k
theorem hG17 (fuel : Nat) : GOK Try.prog (G17 fuel) :=
  gok_cons ⟨ok57_ac5 fuel, enters_of Try.func57 (by kernel_rfl) rfl⟩ <|
  gok_cons ⟨ok60 fuel, enters_of Try.func60 (by kernel_rfl) rfl⟩ <|
  gok_cons ⟨ok61 fuel, enters_of Try.func61 (by kernel_rfl) rfl⟩ <|
  gok_cons ⟨ok62 fuel, enters_of Try.func62 (by kernel_rfl) rfl⟩ <|
  gok_cons ⟨ok63 fuel, enters_of Try.func63 (by kernel_rfl) rfl⟩ <|
  gok_nil
theorem B17_0_blk (fuel : Nat) : BlkOK Try.prog Try.f17.ntmps (.block 0 (.loop (bodyOf 0 Try.f17))) (B17_0 fuel) :=
  blk_of (blk_of_code tab_ok (hG17 fuel) mixed (J := J17_0 fuel) (kp := kp17) (fuel := fuel) (by kernel_rfl) (fun q hq => by
    rw [(by kernel_rfl : obl (J17_0 fuel) (.block 0 (.loop (bodyOf 0 Try.f17))) = [])] at hq
    cases hq)) (B17_0_ok fuel)
theorem fok17 (fuel : Nat) : FnOK Try.prog 17 (evalFn tab (G17 fuel) (J17 fuel) kp17 fuel Try.f17) :=
  fn_ok tab_ok (hG17 fuel) mixed Try.func17 (c := (Try.f17.body).getD .skip) rfl (fun q hq => by
    rw [(by kernel_rfl : obl (J17 fuel) ((Try.f17.body).getD .skip) = [(.block 0 (.loop (bodyOf 0 Try.f17)), B17_0 fuel)])] at hq
    simp only [List.mem_cons, List.not_mem_nil, or_false] at hq
    subst hq
    · exact B17_0_blk fuel)
noncomputable def mt17 : List Ev.SV → List Ev.Ob → Bool := fun args objs => match args, objs with
 | [.c (.int .i64 _), .c (.sl (.pair (.int .i64) (.pair (.int .i64) (.pair (.int .i64) (.pair (.sl (.int .i64)) (.pair (.sl .bool) (.sl (.int .u8))))))) _)], [] => true
 | _, _ => false
noncomputable def spg17 (F : YF17) : Ev.Spec := fun args objs k => match args, objs with
 | [.c (.int .i64 x0), .c (.sl (.pair (.int .i64) (.pair (.int .i64) (.pair (.int .i64) (.pair (.sl (.int .i64)) (.pair (.sl .bool) (.sl (.int .u8))))))) x1)], [] => bif true then F x0 x1 (fun r => match r with | (r0, r1) => k (.tup [(false, [.own 0]), (false, [.int .i64 r0])], [.vec 5 (.int .u8) r1 true])) else none
 | _, _ => none
noncomputable def spec17 (fuel : Nat) : Ev.Spec := spg17 (F_file_Write fuel)
theorem ok17 (fuel : Nat) : FnOK Try.prog 17 (spec17 fuel) := by
  intro args objs kk r h
  unfold spec17 spg17 at h
  split at h
  · skip
    obtain ⟨hb, h⟩ := cond_some' h
    simp only [Bool.and_eq_true, Nat.beq_eq, decide_eq_true_eq] at hb
    clear hb
    exact fok17 fuel _ _ kk r ((F17_eq fuel _ _ kk).trans h)
  · cases h
end Go.Proofs.Ytihfgpfofmjbaaa

set_option linter.unusedVariables false
set_option linter.unusedSimpArgs false
set_option maxRecDepth 100000
set_option maxHeartbeats 2000000
namespace Go.Proofs.Ytihfgpfofmjbaaa
open Go Ev
def kp16 (i : Nat) : Option (List Nat) := Ev.look i []
noncomputable def Gg16 (f17 : YF17) (f : Nat) : Option Ev.Spec := Ev.look f [(17, spg17 f17)]
noncomputable def G16 (fuel : Nat) : Nat → Option Ev.Spec := Gg16 (F_file_Write fuel)
noncomputable def J16 (fuel : Nat) (i : Nat) : Option Ev.Blk := Ev.look i []
noncomputable def Fg_law14_Awake (fuel : Nat) (f17 : YF17)  (k0 : (Bool) → Option Ans) : Option Ans :=
  (f17 ((0 : Int)) ([((0 : Int), (9 : Int), (0 : Int), [], [false], [])])
  (fun (y2_0, y2_1) =>
  bif y2_0 == (0 : Int) then
  k0 ((Go.strOfNums y2_1).toList == (ByteArray.mk #[(73 : UInt8), (78 : UInt8), (67 : UInt8), (49 : UInt8), (0 : UInt8), (0 : UInt8), (9 : UInt8), (0 : UInt8), (0 : UInt8), (0 : UInt8)]).toList)
  else
  k0 false))
noncomputable def F_law14_Awake (fuel : Nat)  (k0 : (Bool) → Option Ans) : Option Ans := Fg_law14_Awake fuel (F_file_Write fuel) k0
abbrev YF16 : Type := ((Bool) → Option Ans) → Option Ans
theorem F16_eqg (fuel : Nat) (f17 : YF17)  (k : Ev.Cont) : evalFn tab (Gg16 f17) (J16 fuel) kp16 fuel Try.f16 [] [] k = Fg_law14_Awake fuel f17 (fun r => match r with | r0 => k (.c (.bool r0), [])) := by
  kernel_rfl
theorem F16_eq (fuel : Nat)  (k : Ev.Cont) : evalFn tab (G16 fuel) (J16 fuel) kp16 fuel Try.f16 [] [] k = F_law14_Awake fuel  (fun r => match r with | r0 => k (.c (.bool r0), [])) :=
  F16_eqg fuel (F_file_Write fuel)  k
theorem hG16 (fuel : Nat) : GOK Try.prog (G16 fuel) :=
  gok_cons ⟨ok17 fuel, enters_of Try.func17 (by kernel_rfl) rfl⟩ <|
  gok_nil
theorem fok16 (fuel : Nat) : FnOK Try.prog 16 (evalFn tab (G16 fuel) (J16 fuel) kp16 fuel Try.f16) :=
  fn_ok tab_ok (hG16 fuel) mixed Try.func16 (c := (Try.f16.body).getD .skip) rfl (fun q hq => by
    rw [(by kernel_rfl : obl (J16 fuel) ((Try.f16.body).getD .skip) = [])] at hq
    cases hq)
noncomputable def mt16 : List Ev.SV → List Ev.Ob → Bool := fun args objs => match args, objs with
 | [], [] => true
 | _, _ => false
noncomputable def spg16 (F : YF16) : Ev.Spec := fun args objs k => match args, objs with
 | [], [] => bif true then F  (fun r => match r with | r0 => k (.c (.bool r0), [])) else none
 | _, _ => none
noncomputable def spec16 (fuel : Nat) : Ev.Spec := spg16 (F_law14_Awake fuel)
theorem ok16 (fuel : Nat) : FnOK Try.prog 16 (spec16 fuel) := by
  intro args objs kk r h
  unfold spec16 spg16 at h
  split at h
  · skip
    obtain ⟨hb, h⟩ := cond_some' h
    simp only [Bool.and_eq_true, Nat.beq_eq, decide_eq_true_eq] at hb
    clear hb
    exact fok16 fuel _ _ kk r ((F16_eq fuel kk).trans h)
  · cases h
end Go.Proofs.Ytihfgpfofmjbaaa

set_option linter.unusedVariables false
set_option linter.unusedSimpArgs false
set_option maxRecDepth 100000
set_option maxHeartbeats 2000000
namespace Go.Proofs.Ytihfgpfofmjbaaa
open Go Ev
def kp105 (i : Nat) : Option (List Nat) := Ev.look i [(4, [2, 3, 55, 56]), (10, [2, 3, 73, 74]), (100000, [2, 3]), (100002, []), (200006, [2, 3]), (200012, [2, 3]), (400000, [4]), (400002, [4])]
noncomputable def Gg105 (f : Nat) : Option Ev.Spec := Ev.look f []
noncomputable def G105 (fuel : Nat) : Nat → Option Ev.Spec := Gg105
noncomputable def S_ref12_Same_0 (fuel : Nat) (v : Int × Int × Int × Int × Int × (List Int) × (List Bool) × (List Int) × Int × Int × Int × (List Int) × (List Bool) × (List Int)) (c : (Int × Int × Int × Int × Int × (List Int) × (List Bool) × (List Int) × Int × Int × Int × (List Int) × (List Bool) × (List Int)) → Option Ans) (B : (Bool → Option Ans) × (Int × Int × Int × (List Int) × (List Bool) × (List Int) × Int × Int × Int × (List Int) × (List Bool) × (List Int) → Option Ans)) : Option Ans := match v, B with
 | (x0, x1, x2, x3, x4, x5, x6, x7, x8, x9, x10, x11, x12, x13), (ret, b) =>
  bif decide (x1 < x0) then
  bif decide ((0 : Int) ≤ x1 ∧ x1 < (↑x5.length : Int)) then
  bif decide ((0 : Int) ≤ x1 ∧ x1 < (↑x11.length : Int)) then
  bif x5.getD x1.toNat (0 : Int) != x11.getD x1.toNat (0 : Int) then
  ret false
  else
  c (x0, IntKind.i64.wrap (x1 + (1 : Int)), x2, x3, x4, x5, x6, x7, x8, x9, x10, x11, x12, x13)
  else none
  else none
  else
  b (x2, x3, x4, x5, x6, x7, x8, x9, x10, x11, x12, x13)
noncomputable def L_ref12_Same_0 (fuel : Nat) (v : Int × Int × Int × Int × Int × (List Int) × (List Bool) × (List Int) × Int × Int × Int × (List Int) × (List Bool) × (List Int)) (ret : (Bool → Option Ans)) (b : (Int × Int × Int × (List Int) × (List Bool) × (List Int) × Int × Int × Int × (List Int) × (List Bool) × (List Int) → Option Ans)) : Option Ans := iter (S_ref12_Same_0 fuel) fuel v (ret, b)
noncomputable def J105_0 (fuel : Nat) (i : Nat) : Option Ev.Blk := Ev.look i []
noncomputable def T105_0 (v : Int × Int × Int × Int × Int × (List Int) × (List Bool) × (List Int) × Int × Int × Int × (List Int) × (List Bool) × (List Int)) : Ev.St := match v with | (x0, x1, x2, x3, x4, x5, x6, x7, x8, x9, x10, x11, x12, x13) => ⟨[(2, .c (.ptr 0 0)), (3, .c (.ptr 1 0)), (55, .c (.int .i64 x0)), (56, .c (.int .i64 x1))], [(0, .cells 103 [.int .i64 x2, .int .i64 x3, .int .i64 x4, .sl (.int .i64) x5, .sl .bool x6, .sl (.int .u8) x7]), (1, .cells 103 [.int .i64 x8, .int .i64 x9, .int .i64 x10, .sl (.int .i64) x11, .sl .bool x12, .sl (.int .u8) x13])], 2, 0⟩
noncomputable def E105_0 (K : Ev.Ex → Ev.St → Option Ans) : (Bool → Option Ans) × (Int × Int × Int × (List Int) × (List Bool) × (List Int) × Int × Int × Int × (List Int) × (List Bool) × (List Int) → Option Ans) := ((fun v => match v with | x0 => K .ret ⟨[(4, .c (.bool x0))], [], 0, 0⟩), (fun v => match v with | (x0, x1, x2, x3, x4, x5, x6, x7, x8, x9, x10, x11) => K .normal ⟨[(2, .c (.ptr 0 0)), (3, .c (.ptr 1 0))], [(0, .cells 103 [.int .i64 x0, .int .i64 x1, .int .i64 x2, .sl (.int .i64) x3, .sl .bool x4, .sl (.int .u8) x5]), (1, .cells 103 [.int .i64 x6, .int .i64 x7, .int .i64 x8, .sl (.int .i64) x9, .sl .bool x10, .sl (.int .u8) x11])], 2, 0⟩))
theorem S105_0_ok (fuel : Nat) (R : Ev.St → Option Ans) (K : Ev.Ex → Ev.St → Option Ans) (x0 x1 : Int) (x2 x3 x4 : Int) (x5 : (List Int)) (x6 : (List Bool)) (x7 : (List Int)) (x8 x9 x10 : Int) (x11 : (List Int)) (x12 : (List Bool)) (x13 : (List Int)) : evalCode tab (G105 fuel) (J105_0 fuel) kp105 fuel (bodyOf 0 Try.f105) (T105_0 (x0, x1, x2, x3, x4, x5, x6, x7, x8, x9, x10, x11, x12, x13)) (lc kp105 4 0 R K) = S_ref12_Same_0 fuel (x0, x1, x2, x3, x4, x5, x6, x7, x8, x9, x10, x11, x12, x13) (fun v => R (T105_0 v)) (E105_0 K) := by
  kernel_rfl
noncomputable def B105_0 (fuel : Nat) : Ev.Blk := fun st K => match canonO (kp105 4) st with
 | some s => (match s with
 | ⟨[(q0, .c (.ptr q1 q2)), (q3, .c (.ptr q4 q5)), (q6, .c (.int .i64 x0)), (q7, .c (.int .i64 x1))], [(q8, .cells q9 [.int .i64 x2, .int .i64 x3, .int .i64 x4, .sl (.int .i64) x5, .sl .bool x6, .sl (.int .u8) x7]), (q10, .cells q11 [.int .i64 x8, .int .i64 x9, .int .i64 x10, .sl (.int .i64) x11, .sl .bool x12, .sl (.int .u8) x13])], q12, q13⟩ => bif Nat.beq q0 2 && Nat.beq q1 0 && Nat.beq q2 0 && Nat.beq q3 3 && Nat.beq q4 1 && Nat.beq q5 0 && Nat.beq q6 55 && Nat.beq q7 56 && Nat.beq q8 0 && Nat.beq q9 103 && Nat.beq q10 1 && Nat.beq q11 103 && Nat.beq q12 2 && Nat.beq q13 0 then iter (S_ref12_Same_0 fuel) fuel (x0, x1, x2, x3, x4, x5, x6, x7, x8, x9, x10, x11, x12, x13) (E105_0 K) else none
 | _ => none)
 | none => none
theorem B105_0_ok (fuel : Nat) (st : Ev.St) (K : Ev.Ex → Ev.St → Option Ans) (r : Ans) (h : B105_0 fuel st K = some r) : evalCode tab (G105 fuel) (J105_0 fuel) kp105 fuel (.block 0 (.loop (bodyOf 0 Try.f105))) st K = some r := by
  unfold B105_0 at h
  split at h
  · rename_i s hs
    split at h
    · skip
      obtain ⟨hb, h⟩ := cond_some' h
      simp only [Bool.and_eq_true, Nat.beq_eq, decide_eq_true_eq] at hb
      obtain ⟨⟨⟨⟨⟨⟨⟨⟨⟨⟨⟨⟨⟨rfl, rfl⟩, rfl⟩, rfl⟩, rfl⟩, rfl⟩, rfl⟩, rfl⟩, rfl⟩, rfl⟩, rfl⟩, rfl⟩, rfl⟩, rfl⟩ := hb
      exact blk_loop (S := T105_0) (ks := E105_0) (step := S_ref12_Same_0 fuel) (v := (_, _, _, _, _, _, _, _, _, _, _, _, _, _)) (by kernel_rfl) (by kernel_rfl) (fun R K v => by obtain ⟨x0, x1, x2, x3, x4, x5, x6, x7, x8, x9, x10, x11, x12, x13⟩ := v; exact S105_0_ok fuel R K x0 x1 x2 x3 x4 x5 x6 x7 x8 x9 x10 x11 x12 x13) hs h
    · cases h
  · cases h
noncomputable def S_ref12_Same_2 (fuel : Nat) (v : Int × Int × Int × Int × Int × (List Int) × (List Bool) × (List Int) × Int × Int × Int × (List Int) × (List Bool) × (List Int)) (c : (Int × Int × Int × Int × Int × (List Int) × (List Bool) × (List Int) × Int × Int × Int × (List Int) × (List Bool) × (List Int)) → Option Ans) (B : (Bool → Option Ans) × (Unit → Option Ans)) : Option Ans := match v, B with
 | (x0, x1, x2, x3, x4, x5, x6, x7, x8, x9, x10, x11, x12, x13), (ret, b) =>
  bif decide (x1 < x0) then
  bif decide ((0 : Int) ≤ x1 ∧ x1 < (↑x6.length : Int)) then
  bif decide ((0 : Int) ≤ x1 ∧ x1 < (↑x12.length : Int)) then
  bif !x6.getD x1.toNat false == x12.getD x1.toNat false then
  ret false
  else
  c (x0, IntKind.i64.wrap (x1 + (1 : Int)), x2, x3, x4, x5, x6, x7, x8, x9, x10, x11, x12, x13)
  else none
  else none
  else
  b ()
noncomputable def L_ref12_Same_2 (fuel : Nat) (v : Int × Int × Int × Int × Int × (List Int) × (List Bool) × (List Int) × Int × Int × Int × (List Int) × (List Bool) × (List Int)) (ret : (Bool → Option Ans)) (b : (Unit → Option Ans)) : Option Ans := iter (S_ref12_Same_2 fuel) fuel v (ret, b)
noncomputable def J105_2 (fuel : Nat) (i : Nat) : Option Ev.Blk := Ev.look i [(100000, B105_0 fuel)]
noncomputable def T105_2 (v : Int × Int × Int × Int × Int × (List Int) × (List Bool) × (List Int) × Int × Int × Int × (List Int) × (List Bool) × (List Int)) : Ev.St := match v with | (x0, x1, x2, x3, x4, x5, x6, x7, x8, x9, x10, x11, x12, x13) => ⟨[(2, .c (.ptr 0 0)), (3, .c (.ptr 1 0)), (73, .c (.int .i64 x0)), (74, .c (.int .i64 x1))], [(0, .cells 103 [.int .i64 x2, .int .i64 x3, .int .i64 x4, .sl (.int .i64) x5, .sl .bool x6, .sl (.int .u8) x7]), (1, .cells 103 [.int .i64 x8, .int .i64 x9, .int .i64 x10, .sl (.int .i64) x11, .sl .bool x12, .sl (.int .u8) x13])], 2, 0⟩
noncomputable def E105_2 (K : Ev.Ex → Ev.St → Option Ans) : (Bool → Option Ans) × (Unit → Option Ans) := ((fun v => match v with | x0 => K .ret ⟨[(4, .c (.bool x0))], [], 0, 0⟩), (fun v => match v with | () => K .normal ⟨[], [], 0, 0⟩))
theorem S105_2_ok (fuel : Nat) (R : Ev.St → Option Ans) (K : Ev.Ex → Ev.St → Option Ans) (x0 x1 : Int) (x2 x3 x4 : Int) (x5 : (List Int)) (x6 : (List Bool)) (x7 : (List Int)) (x8 x9 x10 : Int) (x11 : (List Int)) (x12 : (List Bool)) (x13 : (List Int)) : evalCode tab (G105 fuel) (J105_2 fuel) kp105 fuel (bodyOf 2 Try.f105) (T105_2 (x0, x1, x2, x3, x4, x5, x6, x7, x8, x9, x10, x11, x12, x13)) (lc kp105 10 2 R K) = S_ref12_Same_2 fuel (x0, x1, x2, x3, x4, x5, x6, x7, x8, x9, x10, x11, x12, x13) (fun v => R (T105_2 v)) (E105_2 K) := by
  kernel_rfl
noncomputable def B105_2 (fuel : Nat) : Ev.Blk := fun st K => match canonO (kp105 10) st with
 | some s => (match s with
 | ⟨[(q0, .c (.ptr q1 q2)), (q3, .c (.ptr q4 q5)), (q6, .c (.int .i64 x0)), (q7, .c (.int .i64 x1))], [(q8, .cells q9 [.int .i64 x2, .int .i64 x3, .int .i64 x4, .sl (.int .i64) x5, .sl .bool x6, .sl (.int .u8) x7]), (q10, .cells q11 [.int .i64 x8, .int .i64 x9, .int .i64 x10, .sl (.int .i64) x11, .sl .bool x12, .sl (.int .u8) x13])], q12, q13⟩ => bif Nat.beq q0 2 && Nat.beq q1 0 && Nat.beq q2 0 && Nat.beq q3 3 && Nat.beq q4 1 && Nat.beq q5 0 && Nat.beq q6 73 && Nat.beq q7 74 && Nat.beq q8 0 && Nat.beq q9 103 && Nat.beq q10 1 && Nat.beq q11 103 && Nat.beq q12 2 && Nat.beq q13 0 then iter (S_ref12_Same_2 fuel) fuel (x0, x1, x2, x3, x4, x5, x6, x7, x8, x9, x10, x11, x12, x13) (E105_2 K) else none
 | _ => none)
 | none => none
theorem B105_2_ok (fuel : Nat) (st : Ev.St) (K : Ev.Ex → Ev.St → Option Ans) (r : Ans) (h : B105_2 fuel st K = some r) : evalCode tab (G105 fuel) (J105_2 fuel) kp105 fuel (.block 2 (.loop (bodyOf 2 Try.f105))) st K = some r := by
  unfold B105_2 at h
  split at h
  · rename_i s hs
    split at h
    · skip
      obtain ⟨hb, h⟩ := cond_some' h
      simp only [Bool.and_eq_true, Nat.beq_eq, decide_eq_true_eq] at hb
      obtain ⟨⟨⟨⟨⟨⟨⟨⟨⟨⟨⟨⟨⟨rfl, rfl⟩, rfl⟩, rfl⟩, rfl⟩, rfl⟩, rfl⟩, rfl⟩, rfl⟩, rfl⟩, rfl⟩, rfl⟩, rfl⟩, rfl⟩ := hb
      exact blk_loop (S := T105_2) (ks := E105_2) (step := S_ref12_Same_2 fuel) (v := (_, _, _, _, _, _, _, _, _, _, _, _, _, _)) (by kernel_rfl) (by kernel_rfl) (fun R K v => by obtain ⟨x0, x1, x2, x3, x4, x5, x6, x7, x8, x9, x10, x11, x12, x13⟩ := v; exact S105_2_ok fuel R K x0 x1 x2 x3 x4 x5 x6 x7 x8 x9 x10 x11 x12 x13) hs h
    · cases h
  · cases h
noncomputable def J105 (fuel : Nat) (i : Nat) : Option Ev.Blk := Ev.look i [(100000, B105_0 fuel), (100002, B105_2 fuel)]
noncomputable def F_ref12_Same (fuel : Nat) (x0 x1 x2 : Int) (x3 : (List Int)) (x4 : (List Bool)) (x5 : (List Int)) (x6 x7 x8 : Int) (x9 : (List Int)) (x10 : (List Bool)) (x11 : (List Int)) (k0 : (Bool) → Option Ans) : Option Ans :=
  bif x0 != x6 then
  k0 false
  else
  bif x1 != x7 then
  k0 false
  else
  bif x2 != x8 then
  k0 false
  else
  bif (↑x3.length : Int) != (↑x9.length : Int) then
  k0 false
  else
  bif (↑x4.length : Int) != (↑x10.length : Int) then
  k0 false
  else
  bif !(Go.strOfNums x5).toList == (Go.strOfNums x11).toList then
  k0 false
  else
  (L_ref12_Same_0 fuel ((↑x3.length : Int), (0 : Int), x0, x1, x2, x3, x4, x5, x6, x7, x8, x9, x10, x11)
  (fun ret0_0 =>
  k0 ret0_0)
  (fun (b0_0, b0_1, b0_2, b0_3, b0_4, b0_5, b0_6, b0_7, b0_8, b0_9, b0_10, b0_11) =>
  (L_ref12_Same_2 fuel ((↑b0_4.length : Int), (0 : Int), b0_0, b0_1, b0_2, b0_3, b0_4, b0_5, b0_6, b0_7, b0_8, b0_9, b0_10, b0_11)
  (fun ret2_0 =>
  k0 ret2_0)
  (fun () =>
  k0 true))))
abbrev YF105 : Type := (Int) → (Int) → (Int) → ((List Int)) → ((List Bool)) → ((List Int)) → (Int) → (Int) → (Int) → ((List Int)) → ((List Bool)) → ((List Int)) → ((Bool) → Option Ans) → Option Ans
theorem F105_eq (fuel : Nat) (x0 x1 x2 : Int) (x3 : (List Int)) (x4 : (List Bool)) (x5 : (List Int)) (x6 x7 x8 : Int) (x9 : (List Int)) (x10 : (List Bool)) (x11 : (List Int)) (k : Ev.Cont) : evalFn tab (G105 fuel) (J105 fuel) kp105 fuel Try.f105 [.agg [.int .i64 x0, .int .i64 x1, .int .i64 x2, .sl (.int .i64) x3, .sl .bool x4, .sl (.int .u8) x5], .agg [.int .i64 x6, .int .i64 x7, .int .i64 x8, .sl (.int .i64) x9, .sl .bool x10, .sl (.int .u8) x11]] [] k = F_ref12_Same fuel x0 x1 x2 x3 x4 x5 x6 x7 x8 x9 x10 x11 (fun r => match r with | r0 => k (.c (.bool r0), [])) := by
  kernel_rfl
theorem hG105 (fuel : Nat) : GOK Try.prog (G105 fuel) :=
  gok_nil
theorem B105_0_blk (fuel : Nat) : BlkOK Try.prog Try.f105.ntmps (.block 0 (.loop (bodyOf 0 Try.f105))) (B105_0 fuel) :=
  blk_of (blk_of_code tab_ok (hG105 fuel) mixed (J := J105_0 fuel) (kp := kp105) (fuel := fuel) (by kernel_rfl) (fun q hq => by
    rw [(by kernel_rfl : obl (J105_0 fuel) (.block 0 (.loop (bodyOf 0 Try.f105))) = [])] at hq
    cases hq)) (B105_0_ok fuel)
theorem B105_2_blk (fuel : Nat) : BlkOK Try.prog Try.f105.ntmps (.block 2 (.loop (bodyOf 2 Try.f105))) (B105_2 fuel) :=
  blk_of (blk_of_code tab_ok (hG105 fuel) mixed (J := J105_2 fuel) (kp := kp105) (fuel := fuel) (by kernel_rfl) (fun q hq => by
    rw [(by kernel_rfl : obl (J105_2 fuel) (.block 2 (.loop (bodyOf 2 Try.f105))) = [])] at hq
    cases hq)) (B105_2_ok fuel)
theorem fok105 (fuel : Nat) : FnOK Try.prog 105 (evalFn tab (G105 fuel) (J105 fuel) kp105 fuel Try.f105) :=
  fn_ok tab_ok (hG105 fuel) mixed Try.func105 (c := (Try.f105.body).getD .skip) rfl (fun q hq => by
    rw [(by kernel_rfl : obl (J105 fuel) ((Try.f105.body).getD .skip) = [(.block 0 (.loop (bodyOf 0 Try.f105)), B105_0 fuel), (.block 2 (.loop (bodyOf 2 Try.f105)), B105_2 fuel)])] at hq
    simp only [List.mem_cons, List.not_mem_nil, or_false] at hq
    rcases hq with rfl | rfl
    · exact B105_0_blk fuel
    · exact B105_2_blk fuel)
noncomputable def mt105 : List Ev.SV → List Ev.Ob → Bool := fun args objs => match args, objs with
 | [.agg [.int .i64 _, .int .i64 _, .int .i64 _, .sl (.int .i64) _, .sl .bool _, .sl (.int .u8) _], .agg [.int .i64 _, .int .i64 _, .int .i64 _, .sl (.int .i64) _, .sl .bool _, .sl (.int .u8) _]], [] => true
 | _, _ => false
noncomputable def spg105 (F : YF105) : Ev.Spec := fun args objs k => match args, objs with
 | [.agg [.int .i64 x0, .int .i64 x1, .int .i64 x2, .sl (.int .i64) x3, .sl .bool x4, .sl (.int .u8) x5], .agg [.int .i64 x6, .int .i64 x7, .int .i64 x8, .sl (.int .i64) x9, .sl .bool x10, .sl (.int .u8) x11]], [] => bif true then F x0 x1 x2 x3 x4 x5 x6 x7 x8 x9 x10 x11 (fun r => match r with | r0 => k (.c (.bool r0), [])) else none
 | _, _ => none
noncomputable def spec105 (fuel : Nat) : Ev.Spec := spg105 (F_ref12_Same fuel)
theorem ok105 (fuel : Nat) : FnOK Try.prog 105 (spec105 fuel) := by
  intro args objs kk r h
  unfold spec105 spg105 at h
  split at h
  · skip
    obtain ⟨hb, h⟩ := cond_some' h
    simp only [Bool.and_eq_true, Nat.beq_eq, decide_eq_true_eq] at hb
    clear hb
    exact fok105 fuel _ _ kk r ((F105_eq fuel _ _ _ _ _ _ _ _ _ _ _ _ kk).trans h)
  · cases h
end Go.Proofs.Ytihfgpfofmjbaaa

set_option linter.unusedVariables false
set_option linter.unusedSimpArgs false
set_option maxRecDepth 100000
set_option maxHeartbeats 2000000
namespace Go.Proofs.Ytihfgpfofmjbaaa
open Go Ev
def kp36 (i : Nat) : Option (List Nat) := Ev.look i [(4, [0, 1, 12, 13]), (100000, []), (200006, [0, 1]), (400000, [4])]
noncomputable def Gg36 (f105 : YF105) (f : Nat) : Option Ev.Spec := Ev.look f [(105, spg105 f105)]
noncomputable def G36 (fuel : Nat) : Nat → Option Ev.Spec := Gg36 (F_ref12_Same fuel)
noncomputable def Sg_ref12_SameList_0 (fuel : Nat) (f105 : YF105) (x0 : (List (Int × (Int × (Int × ((List Int) × ((List Bool) × (List Int)))))))) (x1 : (List (Int × (Int × (Int × ((List Int) × ((List Bool) × (List Int)))))))) (x2 x3 : Int) (c : ((List (Int × (Int × (Int × ((List Int) × ((List Bool) × (List Int))))))) × (List (Int × (Int × (Int × ((List Int) × ((List Bool) × (List Int))))))) × Int × Int) → Option Ans) (B : (Bool → Option Ans) × (Unit → Option Ans)) : Option Ans := match B with
 | (ret, b) =>
  bif decide (x3 < x2) then
  bif decide ((0 : Int) ≤ x3 ∧ x3 < (↑x0.length : Int)) then
  bif decide ((0 : Int) ≤ x3 ∧ x3 < (↑x1.length : Int)) then
  (f105 ((x0.getD x3.toNat ((0 : Int), (0 : Int), (0 : Int), [], [], [])).fst) ((x0.getD x3.toNat ((0 : Int), (0 : Int), (0 : Int), [], [], [])).snd.fst) ((x0.getD x3.toNat ((0 : Int), (0 : Int), (0 : Int), [], [], [])).snd.snd.fst) ((x0.getD x3.toNat ((0 : Int), (0 : Int), (0 : Int), [], [], [])).snd.snd.snd.fst) ((x0.getD x3.toNat ((0 : Int), (0 : Int), (0 : Int), [], [], [])).snd.snd.snd.snd.fst) ((x0.getD x3.toNat ((0 : Int), (0 : Int), (0 : Int), [], [], [])).snd.snd.snd.snd.snd) ((x1.getD x3.toNat ((0 : Int), (0 : Int), (0 : Int), [], [], [])).fst) ((x1.getD x3.toNat ((0 : Int), (0 : Int), (0 : Int), [], [], [])).snd.fst) ((x1.getD x3.toNat ((0 : Int), (0 : Int), (0 : Int), [], [], [])).snd.snd.fst) ((x1.getD x3.toNat ((0 : Int), (0 : Int), (0 : Int), [], [], [])).snd.snd.snd.fst) ((x1.getD x3.toNat ((0 : Int), (0 : Int), (0 : Int), [], [], [])).snd.snd.snd.snd.fst) ((x1.getD x3.toNat ((0 : Int), (0 : Int), (0 : Int), [], [], [])).snd.snd.snd.snd.snd)
  (fun y5 =>
  bif !y5 then
  ret false
  else
  c (x0, x1, x2, IntKind.i64.wrap (x3 + (1 : Int)))))
  else none
  else none
  else
  b ()
noncomputable def S_ref12_SameList_0 (fuel : Nat) (v : (List (Int × (Int × (Int × ((List Int) × ((List Bool) × (List Int))))))) × (List (Int × (Int × (Int × ((List Int) × ((List Bool) × (List Int))))))) × Int × Int) (c : ((List (Int × (Int × (Int × ((List Int) × ((List Bool) × (List Int))))))) × (List (Int × (Int × (Int × ((List Int) × ((List Bool) × (List Int))))))) × Int × Int) → Option Ans) (B : (Bool → Option Ans) × (Unit → Option Ans)) : Option Ans := match v with
 | (x0, x1, x2, x3) => Sg_ref12_SameList_0 fuel (F_ref12_Same fuel) x0 x1 x2 x3 c B
noncomputable def L_ref12_SameList_0 (fuel : Nat) (v : (List (Int × (Int × (Int × ((List Int) × ((List Bool) × (List Int))))))) × (List (Int × (Int × (Int × ((List Int) × ((List Bool) × (List Int))))))) × Int × Int) (ret : (Bool → Option Ans)) (b : (Unit → Option Ans)) : Option Ans := iter (S_ref12_SameList_0 fuel) fuel v (ret, b)
noncomputable def J36_0 (fuel : Nat) (i : Nat) : Option Ev.Blk := Ev.look i []
noncomputable def T36_0 (v : (List (Int × (Int × (Int × ((List Int) × ((List Bool) × (List Int))))))) × (List (Int × (Int × (Int × ((List Int) × ((List Bool) × (List Int))))))) × Int × Int) : Ev.St := match v with | (x0, x1, x2, x3) => ⟨[(0, .c (.sl (.pair (.int .i64) (.pair (.int .i64) (.pair (.int .i64) (.pair (.sl (.int .i64)) (.pair (.sl .bool) (.sl (.int .u8))))))) x0)), (1, .c (.sl (.pair (.int .i64) (.pair (.int .i64) (.pair (.int .i64) (.pair (.sl (.int .i64)) (.pair (.sl .bool) (.sl (.int .u8))))))) x1)), (12, .c (.int .i64 x2)), (13, .c (.int .i64 x3))], [], 0, 0⟩
noncomputable def E36_0 (K : Ev.Ex → Ev.St → Option Ans) : (Bool → Option Ans) × (Unit → Option Ans) := ((fun v => match v with | x0 => K .ret ⟨[(4, .c (.bool x0))], [], 0, 0⟩), (fun v => match v with | () => K .normal ⟨[], [], 0, 0⟩))
theorem S36_0_okg (fuel : Nat) (f105 : YF105) (R : Ev.St → Option Ans) (K : Ev.Ex → Ev.St → Option Ans) (x0 : (List (Int × (Int × (Int × ((List Int) × ((List Bool) × (List Int)))))))) (x1 : (List (Int × (Int × (Int × ((List Int) × ((List Bool) × (List Int)))))))) (x2 x3 : Int) : evalCode tab (Gg36 f105) (J36_0 fuel) kp36 fuel (bodyOf 0 Try.f36) (T36_0 (x0, x1, x2, x3)) (lc kp36 4 0 R K) = Sg_ref12_SameList_0 fuel f105 x0 x1 x2 x3 (fun v => R (T36_0 v)) (E36_0 K) := by
  kernel_rfl
theorem S36_0_ok (fuel : Nat) (R : Ev.St → Option Ans) (K : Ev.Ex → Ev.St → Option Ans) (x0 : (List (Int × (Int × (Int × ((List Int) × ((List Bool) × (List Int)))))))) (x1 : (List (Int × (Int × (Int × ((List Int) × ((List Bool) × (List Int)))))))) (x2 x3 : Int) : evalCode tab (G36 fuel) (J36_0 fuel) kp36 fuel (bodyOf 0 Try.f36) (T36_0 (x0, x1, x2, x3)) (lc kp36 4 0 R K) = S_ref12_SameList_0 fuel (x0, x1, x2, x3) (fun v => R (T36_0 v)) (E36_0 K) :=
  S36_0_okg fuel (F_ref12_Same fuel) R K x0 x1 x2 x3
noncomputable def B36_0 (fuel : Nat) : Ev.Blk := fun st K => match canonO (kp36 4) st with
 | some s => (match s with
 | ⟨[(q0, .c (.sl (.pair (.int .i64) (.pair (.int .i64) (.pair (.int .i64) (.pair (.sl (.int .i64)) (.pair (.sl .bool) (.sl (.int .u8))))))) x0)), (q1, .c (.sl (.pair (.int .i64) (.pair (.int .i64) (.pair (.int .i64) (.pair (.sl (.int .i64)) (.pair (.sl .bool) (.sl (.int .u8))))))) x1)), (q2, .c (.int .i64 x2)), (q3, .c (.int .i64 x3))], [], q4, q5⟩ => bif Nat.beq q0 0 && Nat.beq q1 1 && Nat.beq q2 12 && Nat.beq q3 13 && Nat.beq q4 0 && Nat.beq q5 0 then iter (S_ref12_SameList_0 fuel) fuel (x0, x1, x2, x3) (E36_0 K) else none
 | _ => none)
 | none => none
theorem B36_0_ok (fuel : Nat) (st : Ev.St) (K : Ev.Ex → Ev.St → Option Ans) (r : Ans) (h : B36_0 fuel st K = some r) : evalCode tab (G36 fuel) (J36_0 fuel) kp36 fuel (.block 0 (.loop (bodyOf 0 Try.f36))) st K = some r := by
  unfold B36_0 at h
  split at h
  · rename_i s hs
    split at h
    · skip
      obtain ⟨hb, h⟩ := cond_some' h
      simp only [Bool.and_eq_true, Nat.beq_eq, decide_eq_true_eq] at hb
      obtain ⟨⟨⟨⟨⟨rfl, rfl⟩, rfl⟩, rfl⟩, rfl⟩, rfl⟩ := hb
      exact blk_loop (S := T36_0) (ks := E36_0) (step := S_ref12_SameList_0 fuel) (v := (_, _, _, _)) (by kernel_rfl) (by kernel_rfl) (fun R K v => by obtain ⟨x0, x1, x2, x3⟩ := v; exact S36_0_ok fuel R K x0 x1 x2 x3) hs h
    · cases h
  · cases h
noncomputable def J36 (fuel : Nat) (i : Nat) : Option Ev.Blk := Ev.look i [(100000, B36_0 fuel)]
noncomputable def Fg_ref12_SameList (fuel : Nat) (f105 : YF105) (x0 : (List (Int × Int × Int × (List Int) × (List Bool) × (List Int)))) (x1 : (List (Int × Int × Int × (List Int) × (List Bool) × (List Int)))) (k0 : (Bool) → Option Ans) : Option Ans :=
  bif (↑x0.length : Int) != (↑x1.length : Int) then
  k0 false
  else
  (L_ref12_SameList_0 fuel (x0, x1, (↑x0.length : Int), (0 : Int))
  (fun ret0_0 =>
  k0 ret0_0)
  (fun () =>
  k0 true))
noncomputable def F_ref12_SameList (fuel : Nat) (x0 : (List (Int × Int × Int × (List Int) × (List Bool) × (List Int)))) (x1 : (List (Int × Int × Int × (List Int) × (List Bool) × (List Int)))) (k0 : (Bool) → Option Ans) : Option Ans := Fg_ref12_SameList fuel (F_ref12_Same fuel) x0 x1 k0
abbrev YF36 : Type := ((List (Int × Int × Int × (List Int) × (List Bool) × (List Int)))) → ((List (Int × Int × Int × (List Int) × (List Bool) × (List Int)))) → ((Bool) → Option Ans) → Option Ans
theorem F36_eqg (fuel : Nat) (f105 : YF105) (x0 : (List (Int × Int × Int × (List Int) × (List Bool) × (List Int)))) (x1 : (List (Int × Int × Int × (List Int) × (List Bool) × (List Int)))) (k : Ev.Cont) : evalFn tab (Gg36 f105) (J36 fuel) kp36 fuel Try.f36 [.c (.sl (.pair (.int .i64) (.pair (.int .i64) (.pair (.int .i64) (.pair (.sl (.int .i64)) (.pair (.sl .bool) (.sl (.int .u8))))))) x0), .c (.sl (.pair (.int .i64) (.pair (.int .i64) (.pair (.int .i64) (.pair (.sl (.int .i64)) (.pair (.sl .bool) (.sl (.int .u8))))))) x1)] [] k = Fg_ref12_SameList fuel f105 x0 x1 (fun r => match r with | r0 => k (.c (.bool r0), [])) := by
  kernel_rfl
theorem F36_eq (fuel : Nat) (x0 : (List (Int × Int × Int × (List Int) × (List Bool) × (List Int)))) (x1 : (List (Int × Int × Int × (List Int) × (List Bool) × (List Int)))) (k : Ev.Cont) : evalFn tab (G36 fuel) (J36 fuel) kp36 fuel Try.f36 [.c (.sl (.pair (.int .i64) (.pair (.int .i64) (.pair (.int .i64) (.pair (.sl (.int .i64)) (.pair (.sl .bool) (.sl (.int .u8))))))) x0), .c (.sl (.pair (.int .i64) (.pair (.int .i64) (.pair (.int .i64) (.pair (.sl (.int .i64)) (.pair (.sl .bool) (.sl (.int .u8))))))) x1)] [] k = F_ref12_SameList fuel x0 x1 (fun r => match r with | r0 => k (.c (.bool r0), [])) :=
  F36_eqg fuel (F_ref12_Same fuel) x0 x1 k
theorem hG36 (fuel : Nat) : GOK Try.prog (G36 fuel) :=
  gok_cons ⟨ok105 fuel, enters_of Try.func105 (by kernel_rfl) rfl⟩ <|
  gok_nil
theorem B36_0_blk (fuel : Nat) : BlkOK Try.prog Try.f36.ntmps (.block 0 (.loop (bodyOf 0 Try.f36))) (B36_0 fuel) :=
  blk_of (blk_of_code tab_ok (hG36 fuel) mixed (J := J36_0 fuel) (kp := kp36) (fuel := fuel) (by kernel_rfl) (fun q hq => by
    rw [(by kernel_rfl : obl (J36_0 fuel) (.block 0 (.loop (bodyOf 0 Try.f36))) = [])] at hq
    cases hq)) (B36_0_ok fuel)
theorem fok36 (fuel : Nat) : FnOK Try.prog 36 (evalFn tab (G36 fuel) (J36 fuel) kp36 fuel Try.f36) :=
  fn_ok tab_ok (hG36 fuel) mixed Try.func36 (c := (Try.f36.body).getD .skip) rfl (fun q hq => by
    rw [(by kernel_rfl : obl (J36 fuel) ((Try.f36.body).getD .skip) = [(.block 0 (.loop (bodyOf 0 Try.f36)), B36_0 fuel)])] at hq
    simp only [List.mem_cons, List.not_mem_nil, or_false] at hq
    subst hq
    · exact B36_0_blk fuel)
noncomputable def mt36 : List Ev.SV → List Ev.Ob → Bool := fun args objs => match args, objs with
 | [.c (.sl (.pair (.int .i64) (.pair (.int .i64) (.pair (.int .i64) (.pair (.sl (.int .i64)) (.pair (.sl .bool) (.sl (.int .u8))))))) _), .c (.sl (.pair (.int .i64) (.pair (.int .i64) (.pair (.int .i64) (.pair (.sl (.int .i64)) (.pair (.sl .bool) (.sl (.int .u8))))))) _)], [] => true
 | _, _ => false
noncomputable def spg36 (F : YF36) : Ev.Spec := fun args objs k => match args, objs with
 | [.c (.sl (.pair (.int .i64) (.pair (.int .i64) (.pair (.int .i64) (.pair (.sl (.int .i64)) (.pair (.sl .bool) (.sl (.int .u8))))))) x0), .c (.sl (.pair (.int .i64) (.pair (.int .i64) (.pair (.int .i64) (.pair (.sl (.int .i64)) (.pair (.sl .bool) (.sl (.int .u8))))))) x1)], [] => bif true then F x0 x1 (fun r => match r with | r0 => k (.c (.bool r0), [])) else none
 | _, _ => none
noncomputable def spec36 (fuel : Nat) : Ev.Spec := spg36 (F_ref12_SameList fuel)
theorem ok36 (fuel : Nat) : FnOK Try.prog 36 (spec36 fuel) := by
  intro args objs kk r h
  unfold spec36 spg36 at h
  split at h
  · skip
    obtain ⟨hb, h⟩ := cond_some' h
    simp only [Bool.and_eq_true, Nat.beq_eq, decide_eq_true_eq] at hb
    clear hb
    exact fok36 fuel _ _ kk r ((F36_eq fuel _ _ kk).trans h)
  · cases h
end Go.Proofs.Ytihfgpfofmjbaaa

set_option linter.unusedVariables false
set_option linter.unusedSimpArgs false
set_option maxRecDepth 100000
set_option maxHeartbeats 2000000
namespace Go.Proofs.Ytihfgpfofmjbaaa
open Go Ev
def kp174_6fe (i : Nat) : Option (List Nat) := Ev.look i []
noncomputable def Gg174_6fe (f : Nat) : Option Ev.Spec := Ev.look f []
noncomputable def G174_6fe (fuel : Nat) : Nat → Option Ev.Spec := Gg174_6fe
noncomputable def J174_6fe (fuel : Nat) (i : Nat) : Option Ev.Blk := Ev.look i []
noncomputable def F_ref14_Parsed_failed_6fe (fuel : Nat) (x0 x1 : Int) (x2 x3 x4 : Int) (x5 : (List (Int × (Int × (Int × ((List Int) × ((List Bool) × (List Int)))))))) (x6 : (List Int)) (x7 : (List (Int × Int))) (k0 : (Int × Int × Int × (List (Int × (Int × (Int × ((List Int) × ((List Bool) × (List Int))))))) × (List Int) × (List (Int × Int))) → Option Ans) : Option Ans :=
  k0 (x2, x1, x0, x5, x6, x7)
abbrev YF174_6fe : Type := (Int) → (Int) → (Int) → (Int) → (Int) → ((List (Int × (Int × (Int × ((List Int) × ((List Bool) × (List Int)))))))) → ((List Int)) → ((List (Int × Int))) → ((Int × Int × Int × (List (Int × (Int × (Int × ((List Int) × ((List Bool) × (List Int))))))) × (List Int) × (List (Int × Int))) → Option Ans) → Option Ans
theorem F174_6fe_eq (fuel : Nat) (x0 x1 : Int) (x2 x3 x4 : Int) (x5 : (List (Int × (Int × (Int × ((List Int) × ((List Bool) × (List Int)))))))) (x6 : (List Int)) (x7 : (List (Int × Int))) (k : Ev.Cont) : evalFn tab (G174_6fe fuel) (J174_6fe fuel) kp174_6fe fuel Try.f174 [.c (.ptr 0 0), .c (.int .i64 x0), .c (.int .i64 x1)] [.cells 145 [.int .i64 x2, .own 1, .own 2, .own 3, .int .i64 x3, .int .i64 x4], .vec 103 (.pair (.int .i64) (.pair (.int .i64) (.pair (.int .i64) (.pair (.sl (.int .i64)) (.pair (.sl .bool) (.sl (.int .u8))))))) x5 false, .vec 3 (.int .i64) x6 false, .vec 44 (.pair (.int .i64) (.int .i64)) x7 false] k = F_ref14_Parsed_failed_6fe fuel x0 x1 x2 x3 x4 x5 x6 x7 (fun r => match r with | (r0, r1, r2, r3, r4, r5) => k (.c (.ptr 0 0), [.cells 145 [.int .i64 r0, .own 1, .own 2, .own 3, .int .i64 r1, .int .i64 r2], .vec 103 (.pair (.int .i64) (.pair (.int .i64) (.pair (.int .i64) (.pair (.sl (.int .i64)) (.pair (.sl .bool) (.sl (.int .u8))))))) r3 false, .vec 3 (.int .i64) r4 false, .vec 44 (.pair (.int .i64) (.int .i64)) r5 false])) := by
  kernel_rfl
theorem hG174_6fe (fuel : Nat) : GOK Try.prog (G174_6fe fuel) :=
  gok_nil
theorem fok174_6fe (fuel : Nat) : FnOK Try.prog 174 (evalFn tab (G174_6fe fuel) (J174_6fe fuel) kp174_6fe fuel Try.f174) :=
  fn_ok tab_ok (hG174_6fe fuel) mixed Try.func174 (c := (Try.f174.body).getD .skip) rfl (fun q hq => by
    rw [(by kernel_rfl : obl (J174_6fe fuel) ((Try.f174.body).getD .skip) = [])] at hq
    cases hq)
noncomputable def mt174_6fe : List Ev.SV → List Ev.Ob → Bool := fun args objs => match args, objs with
 | [.c (.ptr q0 q1), .c (.int .i64 _), .c (.int .i64 _)], [.cells q2 [.int .i64 _, .own q3, .own q4, .own q5, .int .i64 _, .int .i64 _], .vec q6 (.pair (.int .i64) (.pair (.int .i64) (.pair (.int .i64) (.pair (.sl (.int .i64)) (.pair (.sl .bool) (.sl (.int .u8))))))) _ false, .vec q7 (.int .i64) _ false, .vec q8 (.pair (.int .i64) (.int .i64)) _ false] => Nat.beq q0 0 && Nat.beq q1 0 && Nat.beq q2 145 && Nat.beq q3 1 && Nat.beq q4 2 && Nat.beq q5 3 && Nat.beq q6 103 && Nat.beq q7 3 && Nat.beq q8 44
 | _, _ => false
noncomputable def spg174_6fe (F : YF174_6fe) : Ev.Spec := fun args objs k => match args, objs with
 | [.c (.ptr q0 q1), .c (.int .i64 x0), .c (.int .i64 x1)], [.cells q2 [.int .i64 x2, .own q3, .own q4, .own q5, .int .i64 x3, .int .i64 x4], .vec q6 (.pair (.int .i64) (.pair (.int .i64) (.pair (.int .i64) (.pair (.sl (.int .i64)) (.pair (.sl .bool) (.sl (.int .u8))))))) x5 false, .vec q7 (.int .i64) x6 false, .vec q8 (.pair (.int .i64) (.int .i64)) x7 false] => bif Nat.beq q0 0 && Nat.beq q1 0 && Nat.beq q2 145 && Nat.beq q3 1 && Nat.beq q4 2 && Nat.beq q5 3 && Nat.beq q6 103 && Nat.beq q7 3 && Nat.beq q8 44 then F x0 x1 x2 x3 x4 x5 x6 x7 (fun r => match r with | (r0, r1, r2, r3, r4, r5) => k (.c (.ptr 0 0), [.cells 145 [.int .i64 r0, .own 1, .own 2, .own 3, .int .i64 r1, .int .i64 r2], .vec 103 (.pair (.int .i64) (.pair (.int .i64) (.pair (.int .i64) (.pair (.sl (.int .i64)) (.pair (.sl .bool) (.sl (.int .u8))))))) r3 false, .vec 3 (.int .i64) r4 false, .vec 44 (.pair (.int .i64) (.int .i64)) r5 false])) else none
 | _, _ => none
noncomputable def spec174_6fe (fuel : Nat) : Ev.Spec := spg174_6fe (F_ref14_Parsed_failed_6fe fuel)
theorem ok174_6fe (fuel : Nat) : FnOK Try.prog 174 (spec174_6fe fuel) := by
  intro args objs kk r h
  unfold spec174_6fe spg174_6fe at h
  split at h
  · skip
    obtain ⟨hb, h⟩ := cond_some' h
    simp only [Bool.and_eq_true, Nat.beq_eq, decide_eq_true_eq] at hb
    obtain ⟨⟨⟨⟨⟨⟨⟨⟨rfl, rfl⟩, rfl⟩, rfl⟩, rfl⟩, rfl⟩, rfl⟩, rfl⟩, rfl⟩ := hb
    exact fok174_6fe fuel _ _ kk r ((F174_6fe_eq fuel _ _ _ _ _ _ _ _ kk).trans h)
  · cases h
end Go.Proofs.Ytihfgpfofmjbaaa

set_option linter.unusedVariables false
set_option linter.unusedSimpArgs false
set_option maxRecDepth 100000
set_option maxHeartbeats 2000000
namespace Go.Proofs.Ytihfgpfofmjbaaa
open Go Ev
def kp176_4ba (i : Nat) : Option (List Nat) := Ev.look i [(200006, [0])]
noncomputable def Gg176_4ba (f174_6fe : YF174_6fe) (f : Nat) : Option Ev.Spec := Ev.look f [(174, spg174_6fe f174_6fe)]
noncomputable def G176_4ba (fuel : Nat) : Nat → Option Ev.Spec := Gg176_4ba (F_ref14_Parsed_failed_6fe fuel)
noncomputable def J176_4ba (fuel : Nat) (i : Nat) : Option Ev.Blk := Ev.look i []
noncomputable def Fg_ref14_Parsed_data_4ba (fuel : Nat) (f174_6fe : YF174_6fe) (x0 : (List Int)) (x1 x2 : Int) (x3 x4 x5 : Int) (x6 : (List (Int × (Int × (Int × ((List Int) × ((List Bool) × (List Int)))))))) (x7 : (List Int)) (x8 : (List (Int × Int))) (k0 : (Int × Bool × Int × Int × Int × (List (Int × (Int × (Int × ((List Int) × ((List Bool) × (List Int))))))) × (List Int) × (List (Int × Int))) → Option Ans) : Option Ans :=
  bif decide ((0 : Int) ≤ x1 ∧ x1 < (↑x8.length : Int)) then
  bif decide ((x8.getD x1.toNat ((0 : Int), (0 : Int))).snd > IntKind.i64.wrap ((↑x0.length : Int) - x2)) then
  (f174_6fe (x2) ((6 : Int)) (x3) (x4) (x5) (x6) (x7) (x8)
  (fun (y4_0, y4_1, y4_2, y4_3, y4_4, y4_5) =>
  k0 ((0 : Int), false, y4_0, y4_1, y4_2, y4_3, y4_4, y4_5)))
  else
  bif decide ((0 : Int) ≤ x1 ∧ x1 < (↑x8.length : Int)) then
  bif decide ((0 : Int) ≤ Ev.loOf (some x2) ∧ Ev.loOf (some x2) ≤ Ev.hiOf (some (IntKind.i64.wrap (x2 + (x8.getD x1.toNat ((0 : Int), (0 : Int))).snd))) (↑x0.length : Int) ∧ Ev.hiOf (some (IntKind.i64.wrap (x2 + (x8.getD x1.toNat ((0 : Int), (0 : Int))).snd))) (↑x0.length : Int) ≤ (↑x0.length : Int)) then
  bif decide (((0 : Nat) + (List.take (Ev.hiOf (some (IntKind.i64.wrap (x2 + (x8.getD x1.toNat ((0 : Int), (0 : Int))).snd))) (↑x0.length : Int) - Ev.loOf (some x2)).toNat (List.drop (Ev.loOf (some x2)).toNat x0)).length) * (1 : Nat) ≤ (140737488355328 : Nat) ∧ (0 : Nat) + (List.take (Ev.hiOf (some (IntKind.i64.wrap (x2 + (x8.getD x1.toNat ((0 : Int), (0 : Int))).snd))) (↑x0.length : Int) - Ev.loOf (some x2)).toNat (List.drop (Ev.loOf (some x2)).toNat x0)).length ≤ (140737488355328 : Nat)) then
  bif decide ((0 : Int) ≤ x1 ∧ x1 < (↑x6.length : Int)) then
  k0 (IntKind.i64.wrap (x2 + (x8.getD x1.toNat ((0 : Int), (0 : Int))).snd), true, x3, x4, x5, x6.set x1.toNat ((x6.getD x1.toNat ((0 : Int), (0 : Int), (0 : Int), [], [], [])).fst, (x6.getD x1.toNat ((0 : Int), (0 : Int), (0 : Int), [], [], [])).snd.fst, (x6.getD x1.toNat ((0 : Int), (0 : Int), (0 : Int), [], [], [])).snd.snd.fst, (x6.getD x1.toNat ((0 : Int), (0 : Int), (0 : Int), [], [], [])).snd.snd.snd.fst, (x6.getD x1.toNat ((0 : Int), (0 : Int), (0 : Int), [], [], [])).snd.snd.snd.snd.fst, [] ++ List.take (Ev.hiOf (some (IntKind.i64.wrap (x2 + (x8.getD x1.toNat ((0 : Int), (0 : Int))).snd))) (↑x0.length : Int) - Ev.loOf (some x2)).toNat (List.drop (Ev.loOf (some x2)).toNat x0)), x7, x8.set x1.toNat (x2, (x8.getD x1.toNat ((0 : Int), (0 : Int))).snd))
  else none
  else none
  else none
  else none
  else none
noncomputable def F_ref14_Parsed_data_4ba (fuel : Nat) (x0 : (List Int)) (x1 x2 : Int) (x3 x4 x5 : Int) (x6 : (List (Int × (Int × (Int × ((List Int) × ((List Bool) × (List Int)))))))) (x7 : (List Int)) (x8 : (List (Int × Int))) (k0 : (Int × Bool × Int × Int × Int × (List (Int × (Int × (Int × ((List Int) × ((List Bool) × (List Int))))))) × (List Int) × (List (Int × Int))) → Option Ans) : Option Ans := Fg_ref14_Parsed_data_4ba fuel (F_ref14_Parsed_failed_6fe fuel) x0 x1 x2 x3 x4 x5 x6 x7 x8 k0
abbrev YF176_4ba : Type := ((List Int)) → (Int) → (Int) → (Int) → (Int) → (Int) → ((List (Int × (Int × (Int × ((List Int) × ((List Bool) × (List Int)))))))) → ((List Int)) → ((List (Int × Int))) → ((Int × Bool × Int × Int × Int × (List (Int × (Int × (Int × ((List Int) × ((List Bool) × (List Int))))))) × (List Int) × (List (Int × Int))) → Option Ans) → Option Ans
theorem F176_4ba_eqg (fuel : Nat) (f174_6fe : YF174_6fe) (x0 : (List Int)) (x1 x2 : Int) (x3 x4 x5 : Int) (x6 : (List (Int × (Int × (Int × ((List Int) × ((List Bool) × (List Int)))))))) (x7 : (List Int)) (x8 : (List (Int × Int))) (k : Ev.Cont) : evalFn tab (Gg176_4ba f174_6fe) (J176_4ba fuel) kp176_4ba fuel Try.f176 [.c (.ptr 0 0), .c (.sl (.int .u8) x0), .c (.int .i64 x1), .c (.int .i64 x2)] [.cells 145 [.int .i64 x3, .own 1, .own 2, .own 3, .int .i64 x4, .int .i64 x5], .vec 103 (.pair (.int .i64) (.pair (.int .i64) (.pair (.int .i64) (.pair (.sl (.int .i64)) (.pair (.sl .bool) (.sl (.int .u8))))))) x6 false, .vec 3 (.int .i64) x7 false, .vec 44 (.pair (.int .i64) (.int .i64)) x8 false] k = Fg_ref14_Parsed_data_4ba fuel f174_6fe x0 x1 x2 x3 x4 x5 x6 x7 x8 (fun r => match r with | (r0, r1, r2, r3, r4, r5, r6, r7) => k (.tup [(false, [.int .i64 r0]), (false, [.bool r1])], [.cells 145 [.int .i64 r2, .own 1, .own 2, .own 3, .int .i64 r3, .int .i64 r4], .vec 103 (.pair (.int .i64) (.pair (.int .i64) (.pair (.int .i64) (.pair (.sl (.int .i64)) (.pair (.sl .bool) (.sl (.int .u8))))))) r5 false, .vec 3 (.int .i64) r6 false, .vec 44 (.pair (.int .i64) (.int .i64)) r7 false])) := by
  kernel_rfl
theorem F176_4ba_eq (fuel : Nat) (x0 : (List Int)) (x1 x2 : Int) (x3 x4 x5 : Int) (x6 : (List (Int × (Int × (Int × ((List Int) × ((List Bool) × (List Int)))))))) (x7 : (List Int)) (x8 : (List (Int × Int))) (k : Ev.Cont) : evalFn tab (G176_4ba fuel) (J176_4ba fuel) kp176_4ba fuel Try.f176 [.c (.ptr 0 0), .c (.sl (.int .u8) x0), .c (.int .i64 x1), .c (.int .i64 x2)] [.cells 145 [.int .i64 x3, .own 1, .own 2, .own 3, .int .i64 x4, .int .i64 x5], .vec 103 (.pair (.int .i64) (.pair (.int .i64) (.pair (.int .i64) (.pair (.sl (.int .i64)) (.pair (.sl .bool) (.sl (.int .u8))))))) x6 false, .vec 3 (.int .i64) x7 false, .vec 44 (.pair (.int .i64) (.int .i64)) x8 false] k = F_ref14_Parsed_data_4ba fuel x0 x1 x2 x3 x4 x5 x6 x7 x8 (fun r => match r with | (r0, r1, r2, r3, r4, r5, r6, r7) => k (.tup [(false, [.int .i64 r0]), (false, [.bool r1])], [.cells 145 [.int .i64 r2, .own 1, .own 2, .own 3, .int .i64 r3, .int .i64 r4], .vec 103 (.pair (.int .i64) (.pair (.int .i64) (.pair (.int .i64) (.pair (.sl (.int .i64)) (.pair (.sl .bool) (.sl (.int .u8))))))) r5 false, .vec 3 (.int .i64) r6 false, .vec 44 (.pair (.int .i64) (.int .i64)) r7 false])) :=
  F176_4ba_eqg fuel (F_ref14_Parsed_failed_6fe fuel) x0 x1 x2 x3 x4 x5 x6 x7 x8 k
theorem hG176_4ba (fuel : Nat) : GOK Try.prog (G176_4ba fuel) :=
  gok_cons ⟨ok174_6fe fuel, enters_of Try.func174 (by kernel_rfl) rfl⟩ <|
  gok_nil
theorem fok176_4ba (fuel : Nat) : FnOK Try.prog 176 (evalFn tab (G176_4ba fuel) (J176_4ba fuel) kp176_4ba fuel Try.f176) :=
  fn_ok tab_ok (hG176_4ba fuel) mixed Try.func176 (c := (Try.f176.body).getD .skip) rfl (fun q hq => by
    rw [(by kernel_rfl : obl (J176_4ba fuel) ((Try.f176.body).getD .skip) = [])] at hq
    cases hq)
noncomputable def mt176_4ba : List Ev.SV → List Ev.Ob → Bool := fun args objs => match args, objs with
 | [.c (.ptr q0 q1), .c (.sl (.int .u8) _), .c (.int .i64 _), .c (.int .i64 _)], [.cells q2 [.int .i64 _, .own q3, .own q4, .own q5, .int .i64 _, .int .i64 _], .vec q6 (.pair (.int .i64) (.pair (.int .i64) (.pair (.int .i64) (.pair (.sl (.int .i64)) (.pair (.sl .bool) (.sl (.int .u8))))))) _ false, .vec q7 (.int .i64) _ false, .vec q8 (.pair (.int .i64) (.int .i64)) _ false] => Nat.beq q0 0 && Nat.beq q1 0 && Nat.beq q2 145 && Nat.beq q3 1 && Nat.beq q4 2 && Nat.beq q5 3 && Nat.beq q6 103 && Nat.beq q7 3 && Nat.beq q8 44
 | _, _ => false
noncomputable def spg176_4ba (F : YF176_4ba) : Ev.Spec := fun args objs k => match args, objs with
 | [.c (.ptr q0 q1), .c (.sl (.int .u8) x0), .c (.int .i64 x1), .c (.int .i64 x2)], [.cells q2 [.int .i64 x3, .own q3, .own q4, .own q5, .int .i64 x4, .int .i64 x5], .vec q6 (.pair (.int .i64) (.pair (.int .i64) (.pair (.int .i64) (.pair (.sl (.int .i64)) (.pair (.sl .bool) (.sl (.int .u8))))))) x6 false, .vec q7 (.int .i64) x7 false, .vec q8 (.pair (.int .i64) (.int .i64)) x8 false] => bif Nat.beq q0 0 && Nat.beq q1 0 && Nat.beq q2 145 && Nat.beq q3 1 && Nat.beq q4 2 && Nat.beq q5 3 && Nat.beq q6 103 && Nat.beq q7 3 && Nat.beq q8 44 then F x0 x1 x2 x3 x4 x5 x6 x7 x8 (fun r => match r with | (r0, r1, r2, r3, r4, r5, r6, r7) => k (.tup [(false, [.int .i64 r0]), (false, [.bool r1])], [.cells 145 [.int .i64 r2, .own 1, .own 2, .own 3, .int .i64 r3, .int .i64 r4], .vec 103 (.pair (.int .i64) (.pair (.int .i64) (.pair (.int .i64) (.pair (.sl (.int .i64)) (.pair (.sl .bool) (.sl (.int .u8))))))) r5 false, .vec 3 (.int .i64) r6 false, .vec 44 (.pair (.int .i64) (.int .i64)) r7 false])) else none
 | _, _ => none
noncomputable def spec176_4ba (fuel : Nat) : Ev.Spec := spg176_4ba (F_ref14_Parsed_data_4ba fuel)
theorem ok176_4ba (fuel : Nat) : FnOK Try.prog 176 (spec176_4ba fuel) := by
  intro args objs kk r h
  unfold spec176_4ba spg176_4ba at h
  split at h
  · skip
    obtain ⟨hb, h⟩ := cond_some' h
    simp only [Bool.and_eq_true, Nat.beq_eq, decide_eq_true_eq] at hb
    obtain ⟨⟨⟨⟨⟨⟨⟨⟨rfl, rfl⟩, rfl⟩, rfl⟩, rfl⟩, rfl⟩, rfl⟩, rfl⟩, rfl⟩ := hb
    exact fok176_4ba fuel _ _ kk r ((F176_4ba_eq fuel _ _ _ _ _ _ _ _ _ kk).trans h)
  · cases h
end Go.Proofs.Ytihfgpfofmjbaaa

set_option linter.unusedVariables false
set_option linter.unusedSimpArgs false
set_option maxRecDepth 100000
set_option maxHeartbeats 2000000
namespace Go.Proofs.Ytihfgpfofmjbaaa
open Go Ev
def kp218 (i : Nat) : Option (List Nat) := Ev.look i [(6, [0, 1, 2, 9, 10, 11]), (100000, [1, 9, 10]), (200008, [0]), (400000, [6, 7, 8])]
noncomputable def Gg218 (f : Nat) : Option Ev.Spec := Ev.look f []
noncomputable def G218 (fuel : Nat) : Nat → Option Ev.Spec := Gg218
noncomputable def S_ref12_keeps_0 (fuel : Nat) (v : (List Int) × Int × Int × Int × Int × (List Bool)) (c : ((List Int) × Int × Int × Int × Int × (List Bool)) → Option Ans) (B : (Int × Int × (List Bool) → Option Ans) × (Int × Int × (List Bool) → Option Ans)) : Option Ans := match v, B with
 | (x0, x1, x2, x3, x4, x5), (ret, b) =>
  bif decide (x4 < IntKind.i64.wrap ((8 : Int) * x3)) then
  bif decide ((0 : Int) ≤ IntKind.i64.wrap (x1 + IntKind.i64.wrap (x4.tdiv (8 : Int))) ∧ IntKind.i64.wrap (x1 + IntKind.i64.wrap (x4.tdiv (8 : Int))) < (↑x0.length : Int)) then
  bif decide (x4.tmod (8 : Int) < (0 : Int)) then
  none
  else
  bif decide (x4 < x2) then
  bif decide ((x5.length + [decide (Ev.iand IntKind.u8 (x0.getD (IntKind.i64.wrap (x1 + IntKind.i64.wrap (x4.tdiv (8 : Int)))).toNat (0 : Int)) (Ev.ishr IntKind.u8 (128 : Int) (x4.tmod (8 : Int))) > (0 : Int))].length) * (1 : Nat) ≤ (140737488355328 : Nat) ∧ x5.length + [decide (Ev.iand IntKind.u8 (x0.getD (IntKind.i64.wrap (x1 + IntKind.i64.wrap (x4.tdiv (8 : Int)))).toNat (0 : Int)) (Ev.ishr IntKind.u8 (128 : Int) (x4.tmod (8 : Int))) > (0 : Int))].length ≤ (140737488355328 : Nat)) then
  c (x0, x1, x2, x3, IntKind.i64.wrap (x4 + (1 : Int)), x5 ++ [decide (Ev.iand IntKind.u8 (x0.getD (IntKind.i64.wrap (x1 + IntKind.i64.wrap (x4.tdiv (8 : Int)))).toNat (0 : Int)) (Ev.ishr IntKind.u8 (128 : Int) (x4.tmod (8 : Int))) > (0 : Int))])
  else none
  else
  bif decide (Ev.iand IntKind.u8 (x0.getD (IntKind.i64.wrap (x1 + IntKind.i64.wrap (x4.tdiv (8 : Int)))).toNat (0 : Int)) (Ev.ishr IntKind.u8 (128 : Int) (x4.tmod (8 : Int))) > (0 : Int)) then
  ret ((0 : Int), (3 : Int), [])
  else
  c (x0, x1, x2, x3, IntKind.i64.wrap (x4 + (1 : Int)), x5)
  else none
  else
  b (x1, x3, x5)
noncomputable def L_ref12_keeps_0 (fuel : Nat) (v : (List Int) × Int × Int × Int × Int × (List Bool)) (ret : (Int × Int × (List Bool) → Option Ans)) (b : (Int × Int × (List Bool) → Option Ans)) : Option Ans := iter (S_ref12_keeps_0 fuel) fuel v (ret, b)
noncomputable def J218_0 (fuel : Nat) (i : Nat) : Option Ev.Blk := Ev.look i []
noncomputable def T218_0 (v : (List Int) × Int × Int × Int × Int × (List Bool)) : Ev.St := match v with | (x0, x1, x2, x3, x4, x5) => ⟨[(0, .c (.sl (.int .u8) x0)), (1, .c (.int .i64 x1)), (2, .c (.int .i64 x2)), (9, .c (.int .i64 x3)), (10, .c (.own 0)), (11, .c (.int .i64 x4))], [(0, .vec 4 .bool x5 true)], 1, 0⟩
noncomputable def E218_0 (K : Ev.Ex → Ev.St → Option Ans) : (Int × Int × (List Bool) → Option Ans) × (Int × Int × (List Bool) → Option Ans) := ((fun v => match v with | (x0, x1, x2) => K .ret ⟨[(6, .c (.own 0)), (7, .c (.int .i64 x0)), (8, .c (.int .i64 x1))], [(0, .vec 4 .bool x2 true)], 1, 0⟩), (fun v => match v with | (x0, x1, x2) => K .normal ⟨[(1, .c (.int .i64 x0)), (9, .c (.int .i64 x1)), (10, .c (.own 0))], [(0, .vec 4 .bool x2 true)], 1, 0⟩))
theorem S218_0_ok (fuel : Nat) (R : Ev.St → Option Ans) (K : Ev.Ex → Ev.St → Option Ans) (x0 : (List Int)) (x1 x2 : Int) (x3 x4 : Int) (x5 : (List Bool)) : evalCode tab (G218 fuel) (J218_0 fuel) kp218 fuel (bodyOf 0 Try.f218) (T218_0 (x0, x1, x2, x3, x4, x5)) (lc kp218 6 0 R K) = S_ref12_keeps_0 fuel (x0, x1, x2, x3, x4, x5) (fun v => R (T218_0 v)) (E218_0 K) := by
  kernel_rfl
noncomputable def B218_0 (fuel : Nat) : Ev.Blk := fun st K => match canonO (kp218 6) st with
 | some s => (match s with
 | ⟨[(q0, .c (.sl (.int .u8) x0)), (q1, .c (.int .i64 x1)), (q2, .c (.int .i64 x2)), (q3, .c (.int .i64 x3)), (q4, .c (.own q5)), (q6, .c (.int .i64 x4))], [(q7, .vec q8 .bool x5 true)], q9, q10⟩ => bif Nat.beq q0 0 && Nat.beq q1 1 && Nat.beq q2 2 && Nat.beq q3 9 && Nat.beq q4 10 && Nat.beq q5 0 && Nat.beq q6 11 && Nat.beq q7 0 && Nat.beq q8 4 && Nat.beq q9 1 && Nat.beq q10 0 then iter (S_ref12_keeps_0 fuel) fuel (x0, x1, x2, x3, x4, x5) (E218_0 K) else none
 | _ => none)
 | none => none
theorem B218_0_ok (fuel : Nat) (st : Ev.St) (K : Ev.Ex → Ev.St → Option Ans) (r : Ans) (h : B218_0 fuel st K = some r) : evalCode tab (G218 fuel) (J218_0 fuel) kp218 fuel (.block 0 (.loop (bodyOf 0 Try.f218))) st K = some r := by
  unfold B218_0 at h
  split at h
  · rename_i s hs
    split at h
    · skip
      obtain ⟨hb, h⟩ := cond_some' h
      simp only [Bool.and_eq_true, Nat.beq_eq, decide_eq_true_eq] at hb
      obtain ⟨⟨⟨⟨⟨⟨⟨⟨⟨⟨rfl, rfl⟩, rfl⟩, rfl⟩, rfl⟩, rfl⟩, rfl⟩, rfl⟩, rfl⟩, rfl⟩, rfl⟩ := hb
      exact blk_loop (S := T218_0) (ks := E218_0) (step := S_ref12_keeps_0 fuel) (v := (_, _, _, _, _, _)) (by kernel_rfl) (by kernel_rfl) (fun R K v => by obtain ⟨x0, x1, x2, x3, x4, x5⟩ := v; exact S218_0_ok fuel R K x0 x1 x2 x3 x4 x5) hs h
    · cases h
  · cases h
noncomputable def J218 (fuel : Nat) (i : Nat) : Option Ev.Blk := Ev.look i [(100000, B218_0 fuel)]
noncomputable def F_ref12_keeps (fuel : Nat) (x0 : (List Int)) (x1 x2 : Int) (k0 : (Int × Int × (List Bool)) → Option Ans) : Option Ans :=
  bif decide (IntKind.i64.wrap (x1 + IntKind.i64.wrap ((IntKind.i64.wrap (x2 + (7 : Int))).tdiv (8 : Int))) > (↑x0.length : Int)) then
  k0 ((0 : Int), (6 : Int), [])
  else
  (L_ref12_keeps_0 fuel (x0, x1, x2, IntKind.i64.wrap ((IntKind.i64.wrap (x2 + (7 : Int))).tdiv (8 : Int)), (0 : Int), [])
  (fun (ret0_0, ret0_1, ret0_2) =>
  k0 (ret0_0, ret0_1, ret0_2))
  (fun (b0_0, b0_1, b0_2) =>
  k0 (IntKind.i64.wrap (b0_0 + b0_1), (0 : Int), b0_2)))
abbrev YF218 : Type := ((List Int)) → (Int) → (Int) → ((Int × Int × (List Bool)) → Option Ans) → Option Ans
theorem F218_eq (fuel : Nat) (x0 : (List Int)) (x1 x2 : Int) (k : Ev.Cont) : evalFn tab (G218 fuel) (J218 fuel) kp218 fuel Try.f218 [.c (.sl (.int .u8) x0), .c (.int .i64 x1), .c (.int .i64 x2)] [] k = F_ref12_keeps fuel x0 x1 x2 (fun r => match r with | (r0, r1, r2) => k (.tup [(false, [.own 0]), (false, [.int .i64 r0]), (false, [.int .i64 r1])], [.vec 4 .bool r2 true])) := by
  kernel_rfl
theorem hG218 (fuel : Nat) : GOK Try.prog (G218 fuel) :=
  gok_nil
theorem B218_0_blk (fuel : Nat) : BlkOK Try.prog Try.f218.ntmps (.block 0 (.loop (bodyOf 0 Try.f218))) (B218_0 fuel) :=
  blk_of (blk_of_code tab_ok (hG218 fuel) mixed (J := J218_0 fuel) (kp := kp218) (fuel := fuel) (by kernel_rfl) (fun q hq => by
    rw [(by kernel_rfl : obl (J218_0 fuel) (.block 0 (.loop (bodyOf 0 Try.f218))) = [])] at hq
    cases hq)) (B218_0_ok fuel)
theorem fok218 (fuel : Nat) : FnOK Try.prog 218 (evalFn tab (G218 fuel) (J218 fuel) kp218 fuel Try.f218) :=
  fn_ok tab_ok (hG218 fuel) mixed Try.func218 (c := (Try.f218.body).getD .skip) rfl (fun q hq => by
    rw [(by kernel_rfl : obl (J218 fuel) ((Try.f218.body).getD .skip) = [(.block 0 (.loop (bodyOf 0 Try.f218)), B218_0 fuel)])] at hq
    simp only [List.mem_cons, List.not_mem_nil, or_false] at hq
    subst hq
    · exact B218_0_blk fuel)
noncomputable def mt218 : List Ev.SV → List Ev.Ob → Bool := fun args objs => match args, objs with
 | [.c (.sl (.int .u8) _), .c (.int .i64 _), .c (.int .i64 _)], [] => true
 | _, _ => false
noncomputable def spg218 (F : YF218) : Ev.Spec := fun args objs k => match args, objs with
 | [.c (.sl (.int .u8) x0), .c (.int .i64 x1), .c (.int .i64 x2)], [] => bif true then F x0 x1 x2 (fun r => match r with | (r0, r1, r2) => k (.tup [(false, [.own 0]), (false, [.int .i64 r0]), (false, [.int .i64 r1])], [.vec 4 .bool r2 true])) else none
 | _, _ => none
noncomputable def spec218 (fuel : Nat) : Ev.Spec := spg218 (F_ref12_keeps fuel)
theorem ok218 (fuel : Nat) : FnOK Try.prog 218 (spec218 fuel) := by
  intro args objs kk r h
  unfold spec218 spg218 at h
  split at h
  · skip
    obtain ⟨hb, h⟩ := cond_some' h
    simp only [Bool.and_eq_true, Nat.beq_eq, decide_eq_true_eq] at hb
    clear hb
    exact fok218 fuel _ _ kk r ((F218_eq fuel _ _ _ kk).trans h)
  · cases h
end Go.Proofs.Ytihfgpfofmjbaaa

set_option linter.unusedVariables false
set_option linter.unusedSimpArgs false
set_option maxRecDepth 100000
set_option maxHeartbeats 2000000
namespace Go.Proofs.Ytihfgpfofmjbaaa
open Go Ev
def kp219 (i : Nat) : Option (List Nat) := Ev.look i [(5, [0, 1, 7, 8]), (100000, []), (400000, [4, 5, 6])]
noncomputable def Gg219 (f : Nat) : Option Ev.Spec := Ev.look f []
noncomputable def G219 (fuel : Nat) : Nat → Option Ev.Spec := Gg219
noncomputable def S_ref01_GetSize_0 (fuel : Nat) (v : (List Int) × Int × Int × Int) (c : ((List Int) × Int × Int × Int) → Option Ans) (B : (Int × Int × Int → Option Ans) × (Unit → Option Ans)) : Option Ans := match v, B with
 | (x0, x1, x2, x3), (ret, b) =>
  bif decide (x3 < (5 : Int)) then
  bif decide (IntKind.i64.wrap (x1 + x3) ≥ (↑x0.length : Int)) then
  ret ((0 : Int), (0 : Int), (6 : Int))
  else
  bif decide ((0 : Int) ≤ IntKind.i64.wrap (x1 + x3) ∧ IntKind.i64.wrap (x1 + x3) < (↑x0.length : Int)) then
  bif decide (IntKind.i64.wrap (x0.getD (IntKind.i64.wrap (x1 + x3)).toNat (0 : Int)) < (128 : Int)) then
  bif decide (IntKind.i64.wrap (IntKind.i64.wrap ((128 : Int) * x2) + (IntKind.i64.wrap (x0.getD (IntKind.i64.wrap (x1 + x3)).toNat (0 : Int))).tmod (128 : Int)) > (2147483647 : Int)) then
  ret ((0 : Int), (0 : Int), (3 : Int))
  else
  bif decide (x3 > (0 : Int)) then
  bif decide ((0 : Int) ≤ x1 ∧ x1 < (↑x0.length : Int)) then
  bif x0.getD x1.toNat (0 : Int) == (128 : Int) then
  ret ((0 : Int), (0 : Int), (3 : Int))
  else
  ret (IntKind.i64.wrap (IntKind.i64.wrap ((128 : Int) * x2) + (IntKind.i64.wrap (x0.getD (IntKind.i64.wrap (x1 + x3)).toNat (0 : Int))).tmod (128 : Int)), IntKind.i64.wrap (IntKind.i64.wrap (x1 + x3) + (1 : Int)), (0 : Int))
  else none
  else
  ret (IntKind.i64.wrap (IntKind.i64.wrap ((128 : Int) * x2) + (IntKind.i64.wrap (x0.getD (IntKind.i64.wrap (x1 + x3)).toNat (0 : Int))).tmod (128 : Int)), IntKind.i64.wrap (IntKind.i64.wrap (x1 + x3) + (1 : Int)), (0 : Int))
  else
  c (x0, x1, IntKind.i64.wrap (IntKind.i64.wrap ((128 : Int) * x2) + (IntKind.i64.wrap (x0.getD (IntKind.i64.wrap (x1 + x3)).toNat (0 : Int))).tmod (128 : Int)), IntKind.i64.wrap (x3 + (1 : Int)))
  else none
  else
  b ()
noncomputable def L_ref01_GetSize_0 (fuel : Nat) (v : (List Int) × Int × Int × Int) (ret : (Int × Int × Int → Option Ans)) (b : (Unit → Option Ans)) : Option Ans := iter (S_ref01_GetSize_0 fuel) fuel v (ret, b)
noncomputable def J219_0 (fuel : Nat) (i : Nat) : Option Ev.Blk := Ev.look i []
noncomputable def T219_0 (v : (List Int) × Int × Int × Int) : Ev.St := match v with | (x0, x1, x2, x3) => ⟨[(0, .c (.sl (.int .u8) x0)), (1, .c (.int .i64 x1)), (7, .c (.int .i64 x2)), (8, .c (.int .i64 x3))], [], 0, 0⟩
noncomputable def E219_0 (K : Ev.Ex → Ev.St → Option Ans) : (Int × Int × Int → Option Ans) × (Unit → Option Ans) := ((fun v => match v with | (x0, x1, x2) => K .ret ⟨[(4, .c (.int .i64 x0)), (5, .c (.int .i64 x1)), (6, .c (.int .i64 x2))], [], 0, 0⟩), (fun v => match v with | () => K .normal ⟨[], [], 0, 0⟩))
theorem S219_0_ok (fuel : Nat) (R : Ev.St → Option Ans) (K : Ev.Ex → Ev.St → Option Ans) (x0 : (List Int)) (x1 x2 x3 : Int) : evalCode tab (G219 fuel) (J219_0 fuel) kp219 fuel (bodyOf 0 Try.f219) (T219_0 (x0, x1, x2, x3)) (lc kp219 5 0 R K) = S_ref01_GetSize_0 fuel (x0, x1, x2, x3) (fun v => R (T219_0 v)) (E219_0 K) := by
  kernel_rfl
noncomputable def B219_0 (fuel : Nat) : Ev.Blk := fun st K => match canonO (kp219 5) st with
 | some s => (match s with
 | ⟨[(q0, .c (.sl (.int .u8) x0)), (q1, .c (.int .i64 x1)), (q2, .c (.int .i64 x2)), (q3, .c (.int .i64 x3))], [], q4, q5⟩ => bif Nat.beq q0 0 && Nat.beq q1 1 && Nat.beq q2 7 && Nat.beq q3 8 && Nat.beq q4 0 && Nat.beq q5 0 then iter (S_ref01_GetSize_0 fuel) fuel (x0, x1, x2, x3) (E219_0 K) else none
 | _ => none)
 | none => none
theorem B219_0_ok (fuel : Nat) (st : Ev.St) (K : Ev.Ex → Ev.St → Option Ans) (r : Ans) (h : B219_0 fuel st K = some r) : evalCode tab (G219 fuel) (J219_0 fuel) kp219 fuel (.block 0 (.loop (bodyOf 0 Try.f219))) st K = some r := by
  unfold B219_0 at h
  split at h
  · rename_i s hs
    split at h
    · skip
      obtain ⟨hb, h⟩ := cond_some' h
      simp only [Bool.and_eq_true, Nat.beq_eq, decide_eq_true_eq] at hb
      obtain ⟨⟨⟨⟨⟨rfl, rfl⟩, rfl⟩, rfl⟩, rfl⟩, rfl⟩ := hb
      exact blk_loop (S := T219_0) (ks := E219_0) (step := S_ref01_GetSize_0 fuel) (v := (_, _, _, _)) (by kernel_rfl) (by kernel_rfl) (fun R K v => by obtain ⟨x0, x1, x2, x3⟩ := v; exact S219_0_ok fuel R K x0 x1 x2 x3) hs h
    · cases h
  · cases h
noncomputable def J219 (fuel : Nat) (i : Nat) : Option Ev.Blk := Ev.look i [(100000, B219_0 fuel)]
noncomputable def F_ref01_GetSize (fuel : Nat) (x0 : (List Int)) (x1 : Int) (k0 : (Int × Int × Int) → Option Ans) : Option Ans :=
  bif decide (x1 < (0 : Int)) then
  k0 ((0 : Int), (0 : Int), (2 : Int))
  else
  bif decide (x1 > (↑x0.length : Int)) then
  k0 ((0 : Int), (0 : Int), (2 : Int))
  else
  (L_ref01_GetSize_0 fuel (x0, x1, (0 : Int), (0 : Int))
  (fun (ret0_0, ret0_1, ret0_2) =>
  k0 (ret0_0, ret0_1, ret0_2))
  (fun () =>
  k0 ((0 : Int), (0 : Int), (3 : Int))))
abbrev YF219 : Type := ((List Int)) → (Int) → ((Int × Int × Int) → Option Ans) → Option Ans
theorem F219_eq (fuel : Nat) (x0 : (List Int)) (x1 : Int) (k : Ev.Cont) : evalFn tab (G219 fuel) (J219 fuel) kp219 fuel Try.f219 [.c (.sl (.int .u8) x0), .c (.int .i64 x1)] [] k = F_ref01_GetSize fuel x0 x1 (fun r => match r with | (r0, r1, r2) => k (.tup [(false, [.int .i64 r0]), (false, [.int .i64 r1]), (false, [.int .i64 r2])], [])) := by
  kernel_rfl
theorem hG219 (fuel : Nat) : GOK Try.prog (G219 fuel) :=
  gok_nil
theorem B219_0_blk (fuel : Nat) : BlkOK Try.prog Try.f219.ntmps (.block 0 (.loop (bodyOf 0 Try.f219))) (B219_0 fuel) :=
  blk_of (blk_of_code tab_ok (hG219 fuel) mixed (J := J219_0 fuel) (kp := kp219) (fuel := fuel) (by kernel_rfl) (fun q hq => by
    rw [(by kernel_rfl : obl (J219_0 fuel) (.block 0 (.loop (bodyOf 0 Try.f219))) = [])] at hq
    cases hq)) (B219_0_ok fuel)
theorem fok219 (fuel : Nat) : FnOK Try.prog 219 (evalFn tab (G219 fuel) (J219 fuel) kp219 fuel Try.f219) :=
  fn_ok tab_ok (hG219 fuel) mixed Try.func219 (c := (Try.f219.body).getD .skip) rfl (fun q hq => by
    rw [(by kernel_rfl : obl (J219 fuel) ((Try.f219.body).getD .skip) = [(.block 0 (.loop (bodyOf 0 Try.f219)), B219_0 fuel)])] at hq
    simp only [List.mem_cons, List.not_mem_nil, or_false] at hq
    subst hq
    · exact B219_0_blk fuel)
noncomputable def mt219 : List Ev.SV → List Ev.Ob → Bool := fun args objs => match args, objs with
 | [.c (.sl (.int .u8) _), .c (.int .i64 _)], [] => true
 | _, _ => false
noncomputable def spg219 (F : YF219) : Ev.Spec := fun args objs k => match args, objs with
 | [.c (.sl (.int .u8) x0), .c (.int .i64 x1)], [] => bif true then F x0 x1 (fun r => match r with | (r0, r1, r2) => k (.tup [(false, [.int .i64 r0]), (false, [.int .i64 r1]), (false, [.int .i64 r2])], [])) else none
 | _, _ => none
noncomputable def spec219 (fuel : Nat) : Ev.Spec := spg219 (F_ref01_GetSize fuel)
theorem ok219 (fuel : Nat) : FnOK Try.prog 219 (spec219 fuel) := by
  intro args objs kk r h
  unfold spec219 spg219 at h
  split at h
  · skip
    obtain ⟨hb, h⟩ := cond_some' h
    simp only [Bool.and_eq_true, Nat.beq_eq, decide_eq_true_eq] at hb
    clear hb
    exact fok219 fuel _ _ kk r ((F219_eq fuel _ _ kk).trans h)
  · cases h
end Go.Proofs.Ytihfgpfofmjbaaa

set_option linter.unusedVariables false
set_option linter.unusedSimpArgs false
set_option maxRecDepth 100000
set_option maxHeartbeats 2000000
namespace Go.Proofs.Ytihfgpfofmjbaaa
open Go Ev
def kp216 (i : Nat) : Option (List Nat) := Ev.look i []
noncomputable def Gg216 (f219 : YF219) (f : Nat) : Option Ev.Spec := Ev.look f [(219, spg219 f219)]
noncomputable def G216 (fuel : Nat) : Nat → Option Ev.Spec := Gg216 (F_ref01_GetSize fuel)
noncomputable def J216 (fuel : Nat) (i : Nat) : Option Ev.Blk := Ev.look i []
noncomputable def Fg_ref12_number (fuel : Nat) (f219 : YF219) (x0 : (List Int)) (x1 x2 : Int) (k0 : (Int × Int × Int) → Option Ans) : Option Ans :=
  (f219 (x0) (x1)
  (fun (y2_0, y2_1, y2_2) =>
  bif y2_2 == (0 : Int) then
  bif decide (y2_0 > x2) then
  k0 (y2_0, y2_1, (3 : Int))
  else
  k0 (y2_0, y2_1, y2_2)
  else
  k0 (y2_0, y2_1, y2_2)))
noncomputable def F_ref12_number (fuel : Nat) (x0 : (List Int)) (x1 x2 : Int) (k0 : (Int × Int × Int) → Option Ans) : Option Ans := Fg_ref12_number fuel (F_ref01_GetSize fuel) x0 x1 x2 k0
abbrev YF216 : Type := ((List Int)) → (Int) → (Int) → ((Int × Int × Int) → Option Ans) → Option Ans
theorem F216_eqg (fuel : Nat) (f219 : YF219) (x0 : (List Int)) (x1 x2 : Int) (k : Ev.Cont) : evalFn tab (Gg216 f219) (J216 fuel) kp216 fuel Try.f216 [.c (.sl (.int .u8) x0), .c (.int .i64 x1), .c (.int .i64 x2)] [] k = Fg_ref12_number fuel f219 x0 x1 x2 (fun r => match r with | (r0, r1, r2) => k (.tup [(false, [.int .i64 r0]), (false, [.int .i64 r1]), (false, [.int .i64 r2])], [])) := by
  kernel_rfl
theorem F216_eq (fuel : Nat) (x0 : (List Int)) (x1 x2 : Int) (k : Ev.Cont) : evalFn tab (G216 fuel) (J216 fuel) kp216 fuel Try.f216 [.c (.sl (.int .u8) x0), .c (.int .i64 x1), .c (.int .i64 x2)] [] k = F_ref12_number fuel x0 x1 x2 (fun r => match r with | (r0, r1, r2) => k (.tup [(false, [.int .i64 r0]), (false, [.int .i64 r1]), (false, [.int .i64 r2])], [])) :=
  F216_eqg fuel (F_ref01_GetSize fuel) x0 x1 x2 k
theorem hG216 (fuel : Nat) : GOK Try.prog (G216 fuel) :=
  gok_cons ⟨ok219 fuel, enters_of Try.func219 (by kernel_rfl) rfl⟩ <|
  gok_nil
theorem fok216 (fuel : Nat) : FnOK Try.prog 216 (evalFn tab (G216 fuel) (J216 fuel) kp216 fuel Try.f216) :=
  fn_ok tab_ok (hG216 fuel) mixed Try.func216 (c := (Try.f216.body).getD .skip) rfl (fun q hq => by
    rw [(by kernel_rfl : obl (J216 fuel) ((Try.f216.body).getD .skip) = [])] at hq
    cases hq)
noncomputable def mt216 : List Ev.SV → List Ev.Ob → Bool := fun args objs => match args, objs with
 | [.c (.sl (.int .u8) _), .c (.int .i64 _), .c (.int .i64 _)], [] => true
 | _, _ => false
noncomputable def spg216 (F : YF216) : Ev.Spec := fun args objs k => match args, objs with
 | [.c (.sl (.int .u8) x0), .c (.int .i64 x1), .c (.int .i64 x2)], [] => bif true then F x0 x1 x2 (fun r => match r with | (r0, r1, r2) => k (.tup [(false, [.int .i64 r0]), (false, [.int .i64 r1]), (false, [.int .i64 r2])], [])) else none
 | _, _ => none
noncomputable def spec216 (fuel : Nat) : Ev.Spec := spg216 (F_ref12_number fuel)
theorem ok216 (fuel : Nat) : FnOK Try.prog 216 (spec216 fuel) := by
  intro args objs kk r h
  unfold spec216 spg216 at h
  split at h
  · skip
    obtain ⟨hb, h⟩ := cond_some' h
    simp only [Bool.and_eq_true, Nat.beq_eq, decide_eq_true_eq] at hb
    clear hb
    exact fok216 fuel _ _ kk r ((F216_eq fuel _ _ _ kk).trans h)
  · cases h
end Go.Proofs.Ytihfgpfofmjbaaa

