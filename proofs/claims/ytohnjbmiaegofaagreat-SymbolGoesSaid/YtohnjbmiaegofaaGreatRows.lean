/-
  No cell of these rows narrows 'for every input' (looked for: loops, veiled, ifaces, maps, wideKeys, modest, calm, conditions, laid).
  DERIVED. THE GIVEN ROWS OF THIS SEAT. 4 by the template 'for every input the law returns true; each argument reads behind the call as it read before'; 0 by the template 'total and deterministic' (their statements: YtohnjbmiaegofaaGreatTotals.lean).
  GIVEN WITH THE SEED: the statements are not yours to turn. If you find one false, say at which input.
  Laid BY PROGRAM, IN A SANDBOX (cutbox-rows.mjs): the forced cells as the released guide's own fill.sh prints them over the translation a6b8b4035daf35c9… (all of the seat's roots in one cut). By AI agents, Wed Nov 11 2026. No macro, syntax, notation, axiom, sorry.
-/
import Derived.Test.YtohnjbmiaegofaaGreatChecked
import GoSem.Claim
import GoSem.ClaimJoined
import GoSem.ClaimMapViews
import Derived.JoinedTies
import Derived.KernelRfl
namespace Go.Proofs.YtohnjbmiaegofaaGreat
/- THE CELL 'sum', in the pinned program and in every row, IS THE sha256 OF THE DUMP (.gsa) THAT YtohnjbmiaegofaaGreatProg.lean LOADS. Nothing in Lean hashes anything: it is a label: what it is worth is what the hold of that sum in a sandbox is worth. -/
noncomputable def Tryz.pinned : Pinned := { name := "ytohnjbmiaegofaagreat", sum := "a6b8b4035daf35c977b97a4a597c946f90be74490346c163b1c5d41787143d98", checked := Tryz.checked }
namespace Rows
def none {H : Type} : Left H := { results := [], args := [] }

/-- 'incunablelaw09.SymbolRefines': WHATEVER THE INPUT: true; the input reads as it did. -/
def symbolRefinesSpec : ChangeSpec := { name := "symbolRefines", fn := fun _ => fun
  | [d1, d2, d3] => { results := [.lit (.bool true)], args := [d1, d2, d3] }
  | _ => none }
def symbolRefinesRow : OpenClaim := { program := "ytohnjbmiaegofaagreat", sum := "a6b8b4035daf35c977b97a4a597c946f90be74490346c163b1c5d41787143d98", func := "incunable/incunablelaw09.SymbolRefines", spec := "symbolRefines", unfollowed := true, recurses := true, apart := false }
def SymbolRefinesSaid : Prop := symbolRefinesRow.holds Tryz.pinned (OpenSpec.ofChange symbolRefinesSpec)

/-- ITS FALSE NEIGHBOUR: 'it returns false'. Refute it at one input. -/
def symbolRefinesWrong : ChangeSpec := { name := "symbolRefines", fn := fun _ => fun
  | [d1, d2, d3] => { results := [.lit (.bool false)], args := [d1, d2, d3] }
  | _ => none }
def SymbolRefinesWrongFalsely : Prop := symbolRefinesRow.holds Tryz.pinned (OpenSpec.ofChange symbolRefinesWrong)

/-- 'incunablelaw09.SymbolGoes': WHATEVER THE INPUT: true; the input reads as it did. -/
def symbolGoesSpec : ChangeSpec := { name := "symbolGoes", fn := fun _ => fun
  | [d1, d2, d3] => { results := [.lit (.bool true)], args := [d1, d2, d3] }
  | _ => none }
def symbolGoesRow : OpenClaim := { program := "ytohnjbmiaegofaagreat", sum := "a6b8b4035daf35c977b97a4a597c946f90be74490346c163b1c5d41787143d98", func := "incunable/incunablelaw09.SymbolGoes", spec := "symbolGoes", unfollowed := true, recurses := true, apart := false }
def SymbolGoesSaid : Prop := symbolGoesRow.holds Tryz.pinned (OpenSpec.ofChange symbolGoesSpec)

/-- ITS FALSE NEIGHBOUR: 'it returns false'. Refute it at one input. -/
def symbolGoesWrong : ChangeSpec := { name := "symbolGoes", fn := fun _ => fun
  | [d1, d2, d3] => { results := [.lit (.bool false)], args := [d1, d2, d3] }
  | _ => none }
def SymbolGoesWrongFalsely : Prop := symbolGoesRow.holds Tryz.pinned (OpenSpec.ofChange symbolGoesWrong)

/-- 'incunablelaw09.SymbolEncodes': WHATEVER THE INPUT: true; the input reads as it did. -/
def symbolEncodesSpec : ChangeSpec := { name := "symbolEncodes", fn := fun _ => fun
  | [d] => { results := [.lit (.bool true)], args := [d] }
  | _ => none }
def symbolEncodesRow : OpenClaim := { program := "ytohnjbmiaegofaagreat", sum := "a6b8b4035daf35c977b97a4a597c946f90be74490346c163b1c5d41787143d98", func := "incunable/incunablelaw09.SymbolEncodes", spec := "symbolEncodes", unfollowed := true, recurses := true, apart := false }
def SymbolEncodesSaid : Prop := symbolEncodesRow.holds Tryz.pinned (OpenSpec.ofChange symbolEncodesSpec)

/-- ITS FALSE NEIGHBOUR: 'it returns false'. Refute it at one input. -/
def symbolEncodesWrong : ChangeSpec := { name := "symbolEncodes", fn := fun _ => fun
  | [d] => { results := [.lit (.bool false)], args := [d] }
  | _ => none }
def SymbolEncodesWrongFalsely : Prop := symbolEncodesRow.holds Tryz.pinned (OpenSpec.ofChange symbolEncodesWrong)

/-- 'incunablelaw09.SymbolDecodes': WHATEVER THE INPUT: true; the input reads as it did. -/
def symbolDecodesSpec : ChangeSpec := { name := "symbolDecodes", fn := fun _ => fun
  | [d1, d2, d3] => { results := [.lit (.bool true)], args := [d1, d2, d3] }
  | _ => none }
def symbolDecodesRow : OpenClaim := { program := "ytohnjbmiaegofaagreat", sum := "a6b8b4035daf35c977b97a4a597c946f90be74490346c163b1c5d41787143d98", func := "incunable/incunablelaw09.SymbolDecodes", spec := "symbolDecodes", unfollowed := true, recurses := true, apart := false }
def SymbolDecodesSaid : Prop := symbolDecodesRow.holds Tryz.pinned (OpenSpec.ofChange symbolDecodesSpec)

/-- ITS FALSE NEIGHBOUR: 'it returns false'. Refute it at one input. -/
def symbolDecodesWrong : ChangeSpec := { name := "symbolDecodes", fn := fun _ => fun
  | [d1, d2, d3] => { results := [.lit (.bool false)], args := [d1, d2, d3] }
  | _ => none }
def SymbolDecodesWrongFalsely : Prop := symbolDecodesRow.holds Tryz.pinned (OpenSpec.ofChange symbolDecodesWrong)

/- THE SECOND FORM. 'bulk': how many values and letters a reading holds, each counted each time it is reached (what is shared counts as often as it is met; a slice's spare places count too). A statement '..UptoSaid' is the law's where the arguments, and the package variables that the reading takes, are together of bulk at most 1048576: NARROWER than '..Said'. Prove '..Said' where nothing that the law and all that it calls make is longer than what came in: it says more and counts as full. Else prove '..UptoSaid'. A law counts once. -/
mutual
def uptoBulk {H : Type} : DataW H → Nat
  | .lit (.string bytes) => bytes.length + 1
  | .lit _ => 1
  | .nil => 1
  | .ptr d => uptoBulk d + 1
  | .slice elems spare => uptoBulkAll elems + uptoBulkAll spare + 1
  | .agg parts => uptoBulkAll parts + 1
  | .iface _ d => uptoBulk d + 1
  | .map entries => uptoBulkEntries entries + 1
  | .held _ => 1
def uptoBulkAll {H : Type} : List (DataW H) → Nat
  | [] => 0
  | d :: r => uptoBulk d + uptoBulkAll r
def uptoBulkEntries {H : Type} : List (Lit × DataW H) → Nat
  | [] => 0
  | x :: r => uptoBulkEntry x + uptoBulkEntries r
def uptoBulkEntry {H : Type} : Lit × DataW H → Nat
  | (.string bytes, d) => bytes.length + uptoBulk d + 1
  | (_, d) => uptoBulk d + 1
 end
def uptoSmall : (H : Type) → List (DataW H) → Bool := fun _ ds => decide (uptoBulkAll ds ≤ 1048576)
def OpenSpec.upto (s : _root_.Go.ChangeSpec) : _root_.Go.OpenSpec := { _root_.Go.OpenSpec.ofChange s with cond := some uptoSmall }

/-- 'incunablelaw09.SymbolRefines', WHERE WHAT IT READS IS OF BULK AT MOST 1048576: true; the input reads as it did. -/
def symbolRefinesUptoRow : OpenClaim := { program := "ytohnjbmiaegofaagreat", sum := "a6b8b4035daf35c977b97a4a597c946f90be74490346c163b1c5d41787143d98", func := "incunable/incunablelaw09.SymbolRefines", spec := "symbolRefines", unfollowed := true, recurses := true, apart := false, narrowed := true }
def SymbolRefinesUptoSaid : Prop := symbolRefinesUptoRow.holds Tryz.pinned (OpenSpec.upto symbolRefinesSpec)

/-- 'incunablelaw09.SymbolGoes', WHERE WHAT IT READS IS OF BULK AT MOST 1048576: true; the input reads as it did. -/
def symbolGoesUptoRow : OpenClaim := { program := "ytohnjbmiaegofaagreat", sum := "a6b8b4035daf35c977b97a4a597c946f90be74490346c163b1c5d41787143d98", func := "incunable/incunablelaw09.SymbolGoes", spec := "symbolGoes", unfollowed := true, recurses := true, apart := false, narrowed := true }
def SymbolGoesUptoSaid : Prop := symbolGoesUptoRow.holds Tryz.pinned (OpenSpec.upto symbolGoesSpec)

/-- 'incunablelaw09.SymbolEncodes', WHERE WHAT IT READS IS OF BULK AT MOST 1048576: true; the input reads as it did. -/
def symbolEncodesUptoRow : OpenClaim := { program := "ytohnjbmiaegofaagreat", sum := "a6b8b4035daf35c977b97a4a597c946f90be74490346c163b1c5d41787143d98", func := "incunable/incunablelaw09.SymbolEncodes", spec := "symbolEncodes", unfollowed := true, recurses := true, apart := false, narrowed := true }
def SymbolEncodesUptoSaid : Prop := symbolEncodesUptoRow.holds Tryz.pinned (OpenSpec.upto symbolEncodesSpec)

/-- 'incunablelaw09.SymbolDecodes', WHERE WHAT IT READS IS OF BULK AT MOST 1048576: true; the input reads as it did. -/
def symbolDecodesUptoRow : OpenClaim := { program := "ytohnjbmiaegofaagreat", sum := "a6b8b4035daf35c977b97a4a597c946f90be74490346c163b1c5d41787143d98", func := "incunable/incunablelaw09.SymbolDecodes", spec := "symbolDecodes", unfollowed := true, recurses := true, apart := false, narrowed := true }
def SymbolDecodesUptoSaid : Prop := symbolDecodesUptoRow.holds Tryz.pinned (OpenSpec.upto symbolDecodesSpec)

end Rows
end Go.Proofs.YtohnjbmiaegofaaGreat
