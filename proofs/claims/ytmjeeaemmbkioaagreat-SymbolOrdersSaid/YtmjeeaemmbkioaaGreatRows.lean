/-
  No cell of these rows narrows 'for every input' (looked for: loops, veiled, ifaces, maps, wideKeys, modest, calm, conditions, laid).
  DERIVED. THE GIVEN ROWS OF THIS SEAT. 4 by the template 'for every input the law returns true; each argument reads behind the call as it read before'; 0 by the template 'total and deterministic' (their statements: YtmjeeaemmbkioaaGreatTotals.lean).
  GIVEN WITH THE SEED: the statements are not yours to turn. If you find one false, say at which input.
  Laid BY PROGRAM, IN A SANDBOX (cutbox-rows.mjs): the forced cells as the released guide's own fill.sh prints them over the translation 461528bc7b81cac6… (all of the seat's roots in one cut). By AI agents, Wed Nov 11 2026. No macro, syntax, notation, axiom, sorry.
-/
import Derived.Test.YtmjeeaemmbkioaaGreatChecked
import GoSem.Claim
import GoSem.ClaimJoined
import GoSem.ClaimMapViews
import Derived.JoinedTies
import Derived.KernelRfl
namespace Go.Proofs.YtmjeeaemmbkioaaGreat
/- THE CELL 'sum', in the pinned program and in every row, IS THE sha256 OF THE DUMP (.gsa) THAT YtmjeeaemmbkioaaGreatProg.lean LOADS. Nothing in Lean hashes anything: it is a label: what it is worth is what the hold of that sum in a sandbox is worth. -/
noncomputable def Tryz.pinned : Pinned := { name := "ytmjeeaemmbkioaagreat", sum := "461528bc7b81cac6daa6a5e1c3dedaadb13a49777607f93fec329d802e6f413f", checked := Tryz.checked }
namespace Rows
def none {H : Type} : Left H := { results := [], args := [] }

/-- 'incunablelaw09.SymbolOptions': WHATEVER THE INPUT: true; the input reads as it did. -/
def symbolOptionsSpec : ChangeSpec := { name := "symbolOptions", fn := fun _ => fun
  | [d] => { results := [.lit (.bool true)], args := [d] }
  | _ => none }
def symbolOptionsRow : OpenClaim := { program := "ytmjeeaemmbkioaagreat", sum := "461528bc7b81cac6daa6a5e1c3dedaadb13a49777607f93fec329d802e6f413f", func := "incunable/incunablelaw09.SymbolOptions", spec := "symbolOptions", unfollowed := true, recurses := true, apart := false }
def SymbolOptionsSaid : Prop := symbolOptionsRow.holds Tryz.pinned (OpenSpec.ofChange symbolOptionsSpec)

/-- ITS FALSE NEIGHBOUR: 'it returns false'. Refute it at one input. -/
def symbolOptionsWrong : ChangeSpec := { name := "symbolOptions", fn := fun _ => fun
  | [d] => { results := [.lit (.bool false)], args := [d] }
  | _ => none }
def SymbolOptionsWrongFalsely : Prop := symbolOptionsRow.holds Tryz.pinned (OpenSpec.ofChange symbolOptionsWrong)

/-- 'incunablelaw09.SymbolExported': WHATEVER THE INPUT: true; the input reads as it did. -/
def symbolExportedSpec : ChangeSpec := { name := "symbolExported", fn := fun _ => fun
  | [d] => { results := [.lit (.bool true)], args := [d] }
  | _ => none }
def symbolExportedRow : OpenClaim := { program := "ytmjeeaemmbkioaagreat", sum := "461528bc7b81cac6daa6a5e1c3dedaadb13a49777607f93fec329d802e6f413f", func := "incunable/incunablelaw09.SymbolExported", spec := "symbolExported", unfollowed := true, recurses := true, apart := false }
def SymbolExportedSaid : Prop := symbolExportedRow.holds Tryz.pinned (OpenSpec.ofChange symbolExportedSpec)

/-- ITS FALSE NEIGHBOUR: 'it returns false'. Refute it at one input. -/
def symbolExportedWrong : ChangeSpec := { name := "symbolExported", fn := fun _ => fun
  | [d] => { results := [.lit (.bool false)], args := [d] }
  | _ => none }
def SymbolExportedWrongFalsely : Prop := symbolExportedRow.holds Tryz.pinned (OpenSpec.ofChange symbolExportedWrong)

/-- 'incunablelaw09.SymbolOrders': WHATEVER THE INPUT: true; the input reads as it did. -/
def symbolOrdersSpec : ChangeSpec := { name := "symbolOrders", fn := fun _ => fun
  | [d] => { results := [.lit (.bool true)], args := [d] }
  | _ => none }
def symbolOrdersRow : OpenClaim := { program := "ytmjeeaemmbkioaagreat", sum := "461528bc7b81cac6daa6a5e1c3dedaadb13a49777607f93fec329d802e6f413f", func := "incunable/incunablelaw09.SymbolOrders", spec := "symbolOrders", unfollowed := true, recurses := true, apart := false }
def SymbolOrdersSaid : Prop := symbolOrdersRow.holds Tryz.pinned (OpenSpec.ofChange symbolOrdersSpec)

/-- ITS FALSE NEIGHBOUR: 'it returns false'. Refute it at one input. -/
def symbolOrdersWrong : ChangeSpec := { name := "symbolOrders", fn := fun _ => fun
  | [d] => { results := [.lit (.bool false)], args := [d] }
  | _ => none }
def SymbolOrdersWrongFalsely : Prop := symbolOrdersRow.holds Tryz.pinned (OpenSpec.ofChange symbolOrdersWrong)

/-- 'incunablelaw10.TextOrder': WHATEVER THE INPUT: true; the input reads as it did. -/
def textOrderSpec : ChangeSpec := { name := "textOrder", fn := fun _ => fun
  | [d1, d2] => { results := [.lit (.bool true)], args := [d1, d2] }
  | _ => none }
def textOrderRow : OpenClaim := { program := "ytmjeeaemmbkioaagreat", sum := "461528bc7b81cac6daa6a5e1c3dedaadb13a49777607f93fec329d802e6f413f", func := "incunable/incunablelaw10.TextOrder", spec := "textOrder", unfollowed := true, recurses := true, apart := false }
def TextOrderSaid : Prop := textOrderRow.holds Tryz.pinned (OpenSpec.ofChange textOrderSpec)

/-- ITS FALSE NEIGHBOUR: 'it returns false'. Refute it at one input. -/
def textOrderWrong : ChangeSpec := { name := "textOrder", fn := fun _ => fun
  | [d1, d2] => { results := [.lit (.bool false)], args := [d1, d2] }
  | _ => none }
def TextOrderWrongFalsely : Prop := textOrderRow.holds Tryz.pinned (OpenSpec.ofChange textOrderWrong)

/- THE SECOND FORM. 'bulk': how many values and letters a reading holds, each counted each time it is reached (what is shared counts as often as it is met; a slice's spare places count too). A statement '..UptoSaid' is the law's where the arguments, and the package variables that the reading takes, are together of bulk at most 1048576: NARROWER than '..Said'. Prove '..Said' where nothing that the law and all that it calls make is longer than what came in: it says more and counts as full. Else prove '..UptoSaid'. A law counts once. -/
mutual
def uptoBulk {H : Type} : DataW H → Nat
  | .lit (.string bytes) => bytes.length + 1
  | .lit _ => 1
  | .nil => 1
  | .ptr d => uptoBulk d + 1
  | .slice elems spare => uptoBulkAll elems + uptoBulkAll spare + 1
  | .agg parts => uptoBulkAll parts + 1
  | .iface _ d => uptoBulk d + 1
  | .map entries => uptoBulkEntries entries + 1
  | .held _ => 1
def uptoBulkAll {H : Type} : List (DataW H) → Nat
  | [] => 0
  | d :: r => uptoBulk d + uptoBulkAll r
def uptoBulkEntries {H : Type} : List (Lit × DataW H) → Nat
  | [] => 0
  | x :: r => uptoBulkEntry x + uptoBulkEntries r
def uptoBulkEntry {H : Type} : Lit × DataW H → Nat
  | (.string bytes, d) => bytes.length + uptoBulk d + 1
  | (_, d) => uptoBulk d + 1
 end
def uptoSmall : (H : Type) → List (DataW H) → Bool := fun _ ds => decide (uptoBulkAll ds ≤ 1048576)
def OpenSpec.upto (s : _root_.Go.ChangeSpec) : _root_.Go.OpenSpec := { _root_.Go.OpenSpec.ofChange s with cond := some uptoSmall }

/-- 'incunablelaw09.SymbolOptions', WHERE WHAT IT READS IS OF BULK AT MOST 1048576: true; the input reads as it did. -/
def symbolOptionsUptoRow : OpenClaim := { program := "ytmjeeaemmbkioaagreat", sum := "461528bc7b81cac6daa6a5e1c3dedaadb13a49777607f93fec329d802e6f413f", func := "incunable/incunablelaw09.SymbolOptions", spec := "symbolOptions", unfollowed := true, recurses := true, apart := false, narrowed := true }
def SymbolOptionsUptoSaid : Prop := symbolOptionsUptoRow.holds Tryz.pinned (OpenSpec.upto symbolOptionsSpec)

/-- 'incunablelaw09.SymbolExported', WHERE WHAT IT READS IS OF BULK AT MOST 1048576: true; the input reads as it did. -/
def symbolExportedUptoRow : OpenClaim := { program := "ytmjeeaemmbkioaagreat", sum := "461528bc7b81cac6daa6a5e1c3dedaadb13a49777607f93fec329d802e6f413f", func := "incunable/incunablelaw09.SymbolExported", spec := "symbolExported", unfollowed := true, recurses := true, apart := false, narrowed := true }
def SymbolExportedUptoSaid : Prop := symbolExportedUptoRow.holds Tryz.pinned (OpenSpec.upto symbolExportedSpec)

/-- 'incunablelaw09.SymbolOrders', WHERE WHAT IT READS IS OF BULK AT MOST 1048576: true; the input reads as it did. -/
def symbolOrdersUptoRow : OpenClaim := { program := "ytmjeeaemmbkioaagreat", sum := "461528bc7b81cac6daa6a5e1c3dedaadb13a49777607f93fec329d802e6f413f", func := "incunable/incunablelaw09.SymbolOrders", spec := "symbolOrders", unfollowed := true, recurses := true, apart := false, narrowed := true }
def SymbolOrdersUptoSaid : Prop := symbolOrdersUptoRow.holds Tryz.pinned (OpenSpec.upto symbolOrdersSpec)

/-- 'incunablelaw10.TextOrder', WHERE WHAT IT READS IS OF BULK AT MOST 1048576: true; the input reads as it did. -/
def textOrderUptoRow : OpenClaim := { program := "ytmjeeaemmbkioaagreat", sum := "461528bc7b81cac6daa6a5e1c3dedaadb13a49777607f93fec329d802e6f413f", func := "incunable/incunablelaw10.TextOrder", spec := "textOrder", unfollowed := true, recurses := true, apart := false, narrowed := true }
def TextOrderUptoSaid : Prop := textOrderUptoRow.holds Tryz.pinned (OpenSpec.upto textOrderSpec)

end Rows
end Go.Proofs.YtmjeeaemmbkioaaGreat
