/-
  No cell of these rows narrows 'for every input' (looked for: loops, veiled, ifaces, maps, wideKeys, modest, calm, conditions, laid).
  DERIVED. THE GIVEN ROWS OF THIS SEAT. 3 by the template 'for every input the law returns true; each argument reads behind the call as it read before'; 0 by the template 'total and deterministic' (their statements: YtipdidpalcmlhaaTotals.lean).
  GIVEN WITH THE SEED: the statements are not yours to turn. If you find one false, say at which input.
  Laid BY PROGRAM, IN A SANDBOX (cutbox-rows.mjs): the forced cells as the released guide's own fill.sh prints them over the translation 7800af55c039f40c… (all of the seat's roots in one cut). By AI agents, Wed Nov 11 2026. No macro, syntax, notation, axiom, sorry.
-/
import Derived.Test.YtipdidpalcmlhaaChecked
import GoSem.Claim
import GoSem.ClaimJoined
import GoSem.ClaimMapViews
import Derived.JoinedTies
import Derived.KernelRfl
namespace Go.Proofs.Ytipdidpalcmlhaa
/- THE CELL 'sum', in the pinned program and in every row, IS THE sha256 OF THE DUMP (.gsa) THAT YtipdidpalcmlhaaProg.lean LOADS. Nothing in Lean hashes anything: it is a label: what it is worth is what the hold of that sum in a sandbox is worth. -/
noncomputable def Try.pinned : Pinned := { name := "ytipdidpalcmlhaa", sum := "7800af55c039f40c05f2c1134ecefdf79bd6ec661940af8bf4990b68bef15264", checked := Try.checked }
namespace Rows
def none {H : Type} : Left H := { results := [], args := [] }

/-- 'incunablelaw11.TonePatterns': WHATEVER THE INPUT: true; the input reads as it did. -/
def tonePatternsSpec : ChangeSpec := { name := "tonePatterns", fn := fun _ => fun
  | [d1, d2] => { results := [.lit (.bool true)], args := [d1, d2] }
  | _ => none }
def tonePatternsRow : OpenClaim := { program := "ytipdidpalcmlhaa", sum := "7800af55c039f40c05f2c1134ecefdf79bd6ec661940af8bf4990b68bef15264", func := "incunable/incunablelaw11.TonePatterns", spec := "tonePatterns", unfollowed := true, recurses := true, apart := false }
def TonePatternsSaid : Prop := tonePatternsRow.holds Try.pinned (OpenSpec.ofChange tonePatternsSpec)

/-- ITS FALSE NEIGHBOUR: 'it returns false'. Refute it at one input. -/
def tonePatternsWrong : ChangeSpec := { name := "tonePatterns", fn := fun _ => fun
  | [d1, d2] => { results := [.lit (.bool false)], args := [d1, d2] }
  | _ => none }
def TonePatternsWrongFalsely : Prop := tonePatternsRow.holds Try.pinned (OpenSpec.ofChange tonePatternsWrong)

/-- 'incunablelaw11.ToneScreens': WHATEVER THE INPUT: true; the input reads as it did. -/
def toneScreensSpec : ChangeSpec := { name := "toneScreens", fn := fun _ => fun
  | [d1, d2, d3] => { results := [.lit (.bool true)], args := [d1, d2, d3] }
  | _ => none }
def toneScreensRow : OpenClaim := { program := "ytipdidpalcmlhaa", sum := "7800af55c039f40c05f2c1134ecefdf79bd6ec661940af8bf4990b68bef15264", func := "incunable/incunablelaw11.ToneScreens", spec := "toneScreens", unfollowed := true, recurses := true, apart := false }
def ToneScreensSaid : Prop := toneScreensRow.holds Try.pinned (OpenSpec.ofChange toneScreensSpec)

/-- ITS FALSE NEIGHBOUR: 'it returns false'. Refute it at one input. -/
def toneScreensWrong : ChangeSpec := { name := "toneScreens", fn := fun _ => fun
  | [d1, d2, d3] => { results := [.lit (.bool false)], args := [d1, d2, d3] }
  | _ => none }
def ToneScreensWrongFalsely : Prop := toneScreensRow.holds Try.pinned (OpenSpec.ofChange toneScreensWrong)

/-- 'incunablelaw10.TextBack': WHATEVER THE INPUT: true; the input reads as it did. -/
def textBackSpec : ChangeSpec := { name := "textBack", fn := fun _ => fun
  | [d1, d2, d3] => { results := [.lit (.bool true)], args := [d1, d2, d3] }
  | _ => none }
def textBackRow : OpenClaim := { program := "ytipdidpalcmlhaa", sum := "7800af55c039f40c05f2c1134ecefdf79bd6ec661940af8bf4990b68bef15264", func := "incunable/incunablelaw10.TextBack", spec := "textBack", unfollowed := true, recurses := true, apart := false }
def TextBackSaid : Prop := textBackRow.holds Try.pinned (OpenSpec.ofChange textBackSpec)

/-- ITS FALSE NEIGHBOUR: 'it returns false'. Refute it at one input. -/
def textBackWrong : ChangeSpec := { name := "textBack", fn := fun _ => fun
  | [d1, d2, d3] => { results := [.lit (.bool false)], args := [d1, d2, d3] }
  | _ => none }
def TextBackWrongFalsely : Prop := textBackRow.holds Try.pinned (OpenSpec.ofChange textBackWrong)

/- THE SECOND FORM. 'bulk': how many values and letters a reading holds, each counted each time it is reached (what is shared counts as often as it is met; a slice's spare places count too). A statement '..UptoSaid' is the law's where the arguments, and the package variables that the reading takes, are together of bulk at most 1048576: NARROWER than '..Said'. Prove '..Said' where nothing that the law and all that it calls make is longer than what came in: it says more and counts as full. Else prove '..UptoSaid'. A law counts once. -/
mutual
def uptoBulk {H : Type} : DataW H → Nat
  | .lit (.string bytes) => bytes.length + 1
  | .lit _ => 1
  | .nil => 1
  | .ptr d => uptoBulk d + 1
  | .slice elems spare => uptoBulkAll elems + uptoBulkAll spare + 1
  | .agg parts => uptoBulkAll parts + 1
  | .iface _ d => uptoBulk d + 1
  | .map entries => uptoBulkEntries entries + 1
  | .held _ => 1
def uptoBulkAll {H : Type} : List (DataW H) → Nat
  | [] => 0
  | d :: r => uptoBulk d + uptoBulkAll r
def uptoBulkEntries {H : Type} : List (Lit × DataW H) → Nat
  | [] => 0
  | x :: r => uptoBulkEntry x + uptoBulkEntries r
def uptoBulkEntry {H : Type} : Lit × DataW H → Nat
  | (.string bytes, d) => bytes.length + uptoBulk d + 1
  | (_, d) => uptoBulk d + 1
 end
def uptoSmall : (H : Type) → List (DataW H) → Bool := fun _ ds => decide (uptoBulkAll ds ≤ 1048576)
def OpenSpec.upto (s : _root_.Go.ChangeSpec) : _root_.Go.OpenSpec := { _root_.Go.OpenSpec.ofChange s with cond := some uptoSmall }

/-- 'incunablelaw11.TonePatterns', WHERE WHAT IT READS IS OF BULK AT MOST 1048576: true; the input reads as it did. -/
def tonePatternsUptoRow : OpenClaim := { program := "ytipdidpalcmlhaa", sum := "7800af55c039f40c05f2c1134ecefdf79bd6ec661940af8bf4990b68bef15264", func := "incunable/incunablelaw11.TonePatterns", spec := "tonePatterns", unfollowed := true, recurses := true, apart := false, narrowed := true }
def TonePatternsUptoSaid : Prop := tonePatternsUptoRow.holds Try.pinned (OpenSpec.upto tonePatternsSpec)

/-- 'incunablelaw11.ToneScreens', WHERE WHAT IT READS IS OF BULK AT MOST 1048576: true; the input reads as it did. -/
def toneScreensUptoRow : OpenClaim := { program := "ytipdidpalcmlhaa", sum := "7800af55c039f40c05f2c1134ecefdf79bd6ec661940af8bf4990b68bef15264", func := "incunable/incunablelaw11.ToneScreens", spec := "toneScreens", unfollowed := true, recurses := true, apart := false, narrowed := true }
def ToneScreensUptoSaid : Prop := toneScreensUptoRow.holds Try.pinned (OpenSpec.upto toneScreensSpec)

/-- 'incunablelaw10.TextBack', WHERE WHAT IT READS IS OF BULK AT MOST 1048576: true; the input reads as it did. -/
def textBackUptoRow : OpenClaim := { program := "ytipdidpalcmlhaa", sum := "7800af55c039f40c05f2c1134ecefdf79bd6ec661940af8bf4990b68bef15264", func := "incunable/incunablelaw10.TextBack", spec := "textBack", unfollowed := true, recurses := true, apart := false, narrowed := true }
def TextBackUptoSaid : Prop := textBackUptoRow.holds Try.pinned (OpenSpec.upto textBackSpec)

end Rows
end Go.Proofs.Ytipdidpalcmlhaa
