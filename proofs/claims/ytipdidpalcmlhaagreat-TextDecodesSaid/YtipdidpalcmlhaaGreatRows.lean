/-
  No cell of these rows narrows 'for every input' (looked for: loops, veiled, ifaces, maps, wideKeys, modest, calm, conditions, laid).
  DERIVED. THE GIVEN ROWS OF THIS SEAT. 9 by the template 'for every input the law returns true; each argument reads behind the call as it read before'; 0 by the template 'total and deterministic' (their statements: YtipdidpalcmlhaaGreatTotals.lean).
  GIVEN WITH THE SEED: the statements are not yours to turn. If you find one false, say at which input.
  Laid BY PROGRAM, IN A SANDBOX (cutbox-rows.mjs): the forced cells as the released guide's own fill.sh prints them over the translation 466598417f2ed03c… (all of the seat's roots in one cut). By AI agents, Wed Nov 11 2026. No macro, syntax, notation, axiom, sorry.
-/
import Derived.Test.YtipdidpalcmlhaaGreatChecked
import GoSem.Claim
import GoSem.ClaimJoined
import GoSem.ClaimMapViews
import Derived.JoinedTies
import Derived.KernelRfl
namespace Go.Proofs.YtipdidpalcmlhaaGreat
/- THE CELL 'sum', in the pinned program and in every row, IS THE sha256 OF THE DUMP (.gsa) THAT YtipdidpalcmlhaaGreatProg.lean LOADS. Nothing in Lean hashes anything: it is a label: what it is worth is what the hold of that sum in a sandbox is worth. -/
noncomputable def Tryz.pinned : Pinned := { name := "ytipdidpalcmlhaagreat", sum := "466598417f2ed03c423f5fe647392fe4fdf6b3036ad338368af032857f139446", checked := Tryz.checked }
namespace Rows
def none {H : Type} : Left H := { results := [], args := [] }

/-- 'incunablelaw11.ToneEncodes': WHATEVER THE INPUT: true; the input reads as it did. -/
def toneEncodesSpec : ChangeSpec := { name := "toneEncodes", fn := fun _ => fun
  | [d] => { results := [.lit (.bool true)], args := [d] }
  | _ => none }
def toneEncodesRow : OpenClaim := { program := "ytipdidpalcmlhaagreat", sum := "466598417f2ed03c423f5fe647392fe4fdf6b3036ad338368af032857f139446", func := "incunable/incunablelaw11.ToneEncodes", spec := "toneEncodes", unfollowed := true, recurses := true, apart := false }
def ToneEncodesSaid : Prop := toneEncodesRow.holds Tryz.pinned (OpenSpec.ofChange toneEncodesSpec)

/-- ITS FALSE NEIGHBOUR: 'it returns false'. Refute it at one input. -/
def toneEncodesWrong : ChangeSpec := { name := "toneEncodes", fn := fun _ => fun
  | [d] => { results := [.lit (.bool false)], args := [d] }
  | _ => none }
def ToneEncodesWrongFalsely : Prop := toneEncodesRow.holds Tryz.pinned (OpenSpec.ofChange toneEncodesWrong)

/-- 'incunablelaw11.ToneDecodes': WHATEVER THE INPUT: true; the input reads as it did. -/
def toneDecodesSpec : ChangeSpec := { name := "toneDecodes", fn := fun _ => fun
  | [d1, d2] => { results := [.lit (.bool true)], args := [d1, d2] }
  | _ => none }
def toneDecodesRow : OpenClaim := { program := "ytipdidpalcmlhaagreat", sum := "466598417f2ed03c423f5fe647392fe4fdf6b3036ad338368af032857f139446", func := "incunable/incunablelaw11.ToneDecodes", spec := "toneDecodes", unfollowed := true, recurses := true, apart := false }
def ToneDecodesSaid : Prop := toneDecodesRow.holds Tryz.pinned (OpenSpec.ofChange toneDecodesSpec)

/-- ITS FALSE NEIGHBOUR: 'it returns false'. Refute it at one input. -/
def toneDecodesWrong : ChangeSpec := { name := "toneDecodes", fn := fun _ => fun
  | [d1, d2] => { results := [.lit (.bool false)], args := [d1, d2] }
  | _ => none }
def ToneDecodesWrongFalsely : Prop := toneDecodesRow.holds Tryz.pinned (OpenSpec.ofChange toneDecodesWrong)

/-- 'incunablelaw10.TextEncodes': WHATEVER THE INPUT: true; the input reads as it did. -/
def textEncodesSpec : ChangeSpec := { name := "textEncodes", fn := fun _ => fun
  | [d1, d2, d3] => { results := [.lit (.bool true)], args := [d1, d2, d3] }
  | _ => none }
def textEncodesRow : OpenClaim := { program := "ytipdidpalcmlhaagreat", sum := "466598417f2ed03c423f5fe647392fe4fdf6b3036ad338368af032857f139446", func := "incunable/incunablelaw10.TextEncodes", spec := "textEncodes", unfollowed := true, recurses := true, apart := false }
def TextEncodesSaid : Prop := textEncodesRow.holds Tryz.pinned (OpenSpec.ofChange textEncodesSpec)

/-- ITS FALSE NEIGHBOUR: 'it returns false'. Refute it at one input. -/
def textEncodesWrong : ChangeSpec := { name := "textEncodes", fn := fun _ => fun
  | [d1, d2, d3] => { results := [.lit (.bool false)], args := [d1, d2, d3] }
  | _ => none }
def TextEncodesWrongFalsely : Prop := textEncodesRow.holds Tryz.pinned (OpenSpec.ofChange textEncodesWrong)

/-- 'incunablelaw10.TextDecodes': WHATEVER THE INPUT: true; the input reads as it did. -/
def textDecodesSpec : ChangeSpec := { name := "textDecodes", fn := fun _ => fun
  | [d1, d2, d3, d4] => { results := [.lit (.bool true)], args := [d1, d2, d3, d4] }
  | _ => none }
def textDecodesRow : OpenClaim := { program := "ytipdidpalcmlhaagreat", sum := "466598417f2ed03c423f5fe647392fe4fdf6b3036ad338368af032857f139446", func := "incunable/incunablelaw10.TextDecodes", spec := "textDecodes", unfollowed := true, recurses := true, apart := false }
def TextDecodesSaid : Prop := textDecodesRow.holds Tryz.pinned (OpenSpec.ofChange textDecodesSpec)

/-- ITS FALSE NEIGHBOUR: 'it returns false'. Refute it at one input. -/
def textDecodesWrong : ChangeSpec := { name := "textDecodes", fn := fun _ => fun
  | [d1, d2, d3, d4] => { results := [.lit (.bool false)], args := [d1, d2, d3, d4] }
  | _ => none }
def TextDecodesWrongFalsely : Prop := textDecodesRow.holds Tryz.pinned (OpenSpec.ofChange textDecodesWrong)

/-- 'incunablelaw10.TextOptions': WHATEVER THE INPUT: true; the input reads as it did. -/
def textOptionsSpec : ChangeSpec := { name := "textOptions", fn := fun _ => fun
  | [d1, d2, d3] => { results := [.lit (.bool true)], args := [d1, d2, d3] }
  | _ => none }
def textOptionsRow : OpenClaim := { program := "ytipdidpalcmlhaagreat", sum := "466598417f2ed03c423f5fe647392fe4fdf6b3036ad338368af032857f139446", func := "incunable/incunablelaw10.TextOptions", spec := "textOptions", unfollowed := true, recurses := true, apart := false }
def TextOptionsSaid : Prop := textOptionsRow.holds Tryz.pinned (OpenSpec.ofChange textOptionsSpec)

/-- ITS FALSE NEIGHBOUR: 'it returns false'. Refute it at one input. -/
def textOptionsWrong : ChangeSpec := { name := "textOptions", fn := fun _ => fun
  | [d1, d2, d3] => { results := [.lit (.bool false)], args := [d1, d2, d3] }
  | _ => none }
def TextOptionsWrongFalsely : Prop := textOptionsRow.holds Tryz.pinned (OpenSpec.ofChange textOptionsWrong)

/-- 'incunablelaw10.TextAt': WHATEVER THE INPUT: true; the input reads as it did. -/
def textAtSpec : ChangeSpec := { name := "textAt", fn := fun _ => fun
  | [d1, d2, d3, d4, d5] => { results := [.lit (.bool true)], args := [d1, d2, d3, d4, d5] }
  | _ => none }
def textAtRow : OpenClaim := { program := "ytipdidpalcmlhaagreat", sum := "466598417f2ed03c423f5fe647392fe4fdf6b3036ad338368af032857f139446", func := "incunable/incunablelaw10.TextAt", spec := "textAt", unfollowed := true, recurses := true, apart := false }
def TextAtSaid : Prop := textAtRow.holds Tryz.pinned (OpenSpec.ofChange textAtSpec)

/-- ITS FALSE NEIGHBOUR: 'it returns false'. Refute it at one input. -/
def textAtWrong : ChangeSpec := { name := "textAt", fn := fun _ => fun
  | [d1, d2, d3, d4, d5] => { results := [.lit (.bool false)], args := [d1, d2, d3, d4, d5] }
  | _ => none }
def TextAtWrongFalsely : Prop := textAtRow.holds Tryz.pinned (OpenSpec.ofChange textAtWrong)

/-- 'incunablelaw10.TextRenders': WHATEVER THE INPUT: true; the input reads as it did. -/
def textRendersSpec : ChangeSpec := { name := "textRenders", fn := fun _ => fun
  | [d1, d2, d3, d4, d5] => { results := [.lit (.bool true)], args := [d1, d2, d3, d4, d5] }
  | _ => none }
def textRendersRow : OpenClaim := { program := "ytipdidpalcmlhaagreat", sum := "466598417f2ed03c423f5fe647392fe4fdf6b3036ad338368af032857f139446", func := "incunable/incunablelaw10.TextRenders", spec := "textRenders", unfollowed := true, recurses := true, apart := false }
def TextRendersSaid : Prop := textRendersRow.holds Tryz.pinned (OpenSpec.ofChange textRendersSpec)

/-- ITS FALSE NEIGHBOUR: 'it returns false'. Refute it at one input. -/
def textRendersWrong : ChangeSpec := { name := "textRenders", fn := fun _ => fun
  | [d1, d2, d3, d4, d5] => { results := [.lit (.bool false)], args := [d1, d2, d3, d4, d5] }
  | _ => none }
def TextRendersWrongFalsely : Prop := textRendersRow.holds Tryz.pinned (OpenSpec.ofChange textRendersWrong)

/-- 'incunablelaw10.TextTurned': WHATEVER THE INPUT: true; the input reads as it did. -/
def textTurnedSpec : ChangeSpec := { name := "textTurned", fn := fun _ => fun
  | [d1, d2, d3, d4, d5] => { results := [.lit (.bool true)], args := [d1, d2, d3, d4, d5] }
  | _ => none }
def textTurnedRow : OpenClaim := { program := "ytipdidpalcmlhaagreat", sum := "466598417f2ed03c423f5fe647392fe4fdf6b3036ad338368af032857f139446", func := "incunable/incunablelaw10.TextTurned", spec := "textTurned", unfollowed := true, recurses := true, apart := false }
def TextTurnedSaid : Prop := textTurnedRow.holds Tryz.pinned (OpenSpec.ofChange textTurnedSpec)

/-- ITS FALSE NEIGHBOUR: 'it returns false'. Refute it at one input. -/
def textTurnedWrong : ChangeSpec := { name := "textTurned", fn := fun _ => fun
  | [d1, d2, d3, d4, d5] => { results := [.lit (.bool false)], args := [d1, d2, d3, d4, d5] }
  | _ => none }
def TextTurnedWrongFalsely : Prop := textTurnedRow.holds Tryz.pinned (OpenSpec.ofChange textTurnedWrong)

/-- 'incunablelaw10.TextOne': WHATEVER THE INPUT: true; the input reads as it did. -/
def textOneSpec : ChangeSpec := { name := "textOne", fn := fun _ => fun
  | [d1, d2, d3, d4] => { results := [.lit (.bool true)], args := [d1, d2, d3, d4] }
  | _ => none }
def textOneRow : OpenClaim := { program := "ytipdidpalcmlhaagreat", sum := "466598417f2ed03c423f5fe647392fe4fdf6b3036ad338368af032857f139446", func := "incunable/incunablelaw10.TextOne", spec := "textOne", unfollowed := true, recurses := true, apart := false }
def TextOneSaid : Prop := textOneRow.holds Tryz.pinned (OpenSpec.ofChange textOneSpec)

/-- ITS FALSE NEIGHBOUR: 'it returns false'. Refute it at one input. -/
def textOneWrong : ChangeSpec := { name := "textOne", fn := fun _ => fun
  | [d1, d2, d3, d4] => { results := [.lit (.bool false)], args := [d1, d2, d3, d4] }
  | _ => none }
def TextOneWrongFalsely : Prop := textOneRow.holds Tryz.pinned (OpenSpec.ofChange textOneWrong)

/- THE SECOND FORM. 'bulk': how many values and letters a reading holds, each counted each time it is reached (what is shared counts as often as it is met; a slice's spare places count too). A statement '..UptoSaid' is the law's where the arguments, and the package variables that the reading takes, are together of bulk at most 1048576: NARROWER than '..Said'. Prove '..Said' where nothing that the law and all that it calls make is longer than what came in: it says more and counts as full. Else prove '..UptoSaid'. A law counts once. -/
mutual
def uptoBulk {H : Type} : DataW H → Nat
  | .lit (.string bytes) => bytes.length + 1
  | .lit _ => 1
  | .nil => 1
  | .ptr d => uptoBulk d + 1
  | .slice elems spare => uptoBulkAll elems + uptoBulkAll spare + 1
  | .agg parts => uptoBulkAll parts + 1
  | .iface _ d => uptoBulk d + 1
  | .map entries => uptoBulkEntries entries + 1
  | .held _ => 1
def uptoBulkAll {H : Type} : List (DataW H) → Nat
  | [] => 0
  | d :: r => uptoBulk d + uptoBulkAll r
def uptoBulkEntries {H : Type} : List (Lit × DataW H) → Nat
  | [] => 0
  | x :: r => uptoBulkEntry x + uptoBulkEntries r
def uptoBulkEntry {H : Type} : Lit × DataW H → Nat
  | (.string bytes, d) => bytes.length + uptoBulk d + 1
  | (_, d) => uptoBulk d + 1
 end
def uptoSmall : (H : Type) → List (DataW H) → Bool := fun _ ds => decide (uptoBulkAll ds ≤ 1048576)
def OpenSpec.upto (s : _root_.Go.ChangeSpec) : _root_.Go.OpenSpec := { _root_.Go.OpenSpec.ofChange s with cond := some uptoSmall }

/-- 'incunablelaw11.ToneEncodes', WHERE WHAT IT READS IS OF BULK AT MOST 1048576: true; the input reads as it did. -/
def toneEncodesUptoRow : OpenClaim := { program := "ytipdidpalcmlhaagreat", sum := "466598417f2ed03c423f5fe647392fe4fdf6b3036ad338368af032857f139446", func := "incunable/incunablelaw11.ToneEncodes", spec := "toneEncodes", unfollowed := true, recurses := true, apart := false, narrowed := true }
def ToneEncodesUptoSaid : Prop := toneEncodesUptoRow.holds Tryz.pinned (OpenSpec.upto toneEncodesSpec)

/-- 'incunablelaw11.ToneDecodes', WHERE WHAT IT READS IS OF BULK AT MOST 1048576: true; the input reads as it did. -/
def toneDecodesUptoRow : OpenClaim := { program := "ytipdidpalcmlhaagreat", sum := "466598417f2ed03c423f5fe647392fe4fdf6b3036ad338368af032857f139446", func := "incunable/incunablelaw11.ToneDecodes", spec := "toneDecodes", unfollowed := true, recurses := true, apart := false, narrowed := true }
def ToneDecodesUptoSaid : Prop := toneDecodesUptoRow.holds Tryz.pinned (OpenSpec.upto toneDecodesSpec)

/-- 'incunablelaw10.TextEncodes', WHERE WHAT IT READS IS OF BULK AT MOST 1048576: true; the input reads as it did. -/
def textEncodesUptoRow : OpenClaim := { program := "ytipdidpalcmlhaagreat", sum := "466598417f2ed03c423f5fe647392fe4fdf6b3036ad338368af032857f139446", func := "incunable/incunablelaw10.TextEncodes", spec := "textEncodes", unfollowed := true, recurses := true, apart := false, narrowed := true }
def TextEncodesUptoSaid : Prop := textEncodesUptoRow.holds Tryz.pinned (OpenSpec.upto textEncodesSpec)

/-- 'incunablelaw10.TextDecodes', WHERE WHAT IT READS IS OF BULK AT MOST 1048576: true; the input reads as it did. -/
def textDecodesUptoRow : OpenClaim := { program := "ytipdidpalcmlhaagreat", sum := "466598417f2ed03c423f5fe647392fe4fdf6b3036ad338368af032857f139446", func := "incunable/incunablelaw10.TextDecodes", spec := "textDecodes", unfollowed := true, recurses := true, apart := false, narrowed := true }
def TextDecodesUptoSaid : Prop := textDecodesUptoRow.holds Tryz.pinned (OpenSpec.upto textDecodesSpec)

/-- 'incunablelaw10.TextOptions', WHERE WHAT IT READS IS OF BULK AT MOST 1048576: true; the input reads as it did. -/
def textOptionsUptoRow : OpenClaim := { program := "ytipdidpalcmlhaagreat", sum := "466598417f2ed03c423f5fe647392fe4fdf6b3036ad338368af032857f139446", func := "incunable/incunablelaw10.TextOptions", spec := "textOptions", unfollowed := true, recurses := true, apart := false, narrowed := true }
def TextOptionsUptoSaid : Prop := textOptionsUptoRow.holds Tryz.pinned (OpenSpec.upto textOptionsSpec)

/-- 'incunablelaw10.TextAt', WHERE WHAT IT READS IS OF BULK AT MOST 1048576: true; the input reads as it did. -/
def textAtUptoRow : OpenClaim := { program := "ytipdidpalcmlhaagreat", sum := "466598417f2ed03c423f5fe647392fe4fdf6b3036ad338368af032857f139446", func := "incunable/incunablelaw10.TextAt", spec := "textAt", unfollowed := true, recurses := true, apart := false, narrowed := true }
def TextAtUptoSaid : Prop := textAtUptoRow.holds Tryz.pinned (OpenSpec.upto textAtSpec)

/-- 'incunablelaw10.TextRenders', WHERE WHAT IT READS IS OF BULK AT MOST 1048576: true; the input reads as it did. -/
def textRendersUptoRow : OpenClaim := { program := "ytipdidpalcmlhaagreat", sum := "466598417f2ed03c423f5fe647392fe4fdf6b3036ad338368af032857f139446", func := "incunable/incunablelaw10.TextRenders", spec := "textRenders", unfollowed := true, recurses := true, apart := false, narrowed := true }
def TextRendersUptoSaid : Prop := textRendersUptoRow.holds Tryz.pinned (OpenSpec.upto textRendersSpec)

/-- 'incunablelaw10.TextTurned', WHERE WHAT IT READS IS OF BULK AT MOST 1048576: true; the input reads as it did. -/
def textTurnedUptoRow : OpenClaim := { program := "ytipdidpalcmlhaagreat", sum := "466598417f2ed03c423f5fe647392fe4fdf6b3036ad338368af032857f139446", func := "incunable/incunablelaw10.TextTurned", spec := "textTurned", unfollowed := true, recurses := true, apart := false, narrowed := true }
def TextTurnedUptoSaid : Prop := textTurnedUptoRow.holds Tryz.pinned (OpenSpec.upto textTurnedSpec)

/-- 'incunablelaw10.TextOne', WHERE WHAT IT READS IS OF BULK AT MOST 1048576: true; the input reads as it did. -/
def textOneUptoRow : OpenClaim := { program := "ytipdidpalcmlhaagreat", sum := "466598417f2ed03c423f5fe647392fe4fdf6b3036ad338368af032857f139446", func := "incunable/incunablelaw10.TextOne", spec := "textOne", unfollowed := true, recurses := true, apart := false, narrowed := true }
def TextOneUptoSaid : Prop := textOneUptoRow.holds Tryz.pinned (OpenSpec.upto textOneSpec)

end Rows
end Go.Proofs.YtipdidpalcmlhaaGreat
