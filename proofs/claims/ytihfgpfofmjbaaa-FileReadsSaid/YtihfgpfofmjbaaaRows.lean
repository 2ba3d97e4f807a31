/-
  No cell of these rows narrows 'for every input' (looked for: loops, veiled, ifaces, maps, wideKeys, modest, calm, conditions, laid).
  DERIVED. THE GIVEN ROWS OF THIS SEAT. 12 by the template 'for every input the law returns true; each argument reads behind the call as it read before'; 0 by the template 'total and deterministic' (their statements: YtihfgpfofmjbaaaTotals.lean).
  GIVEN WITH THE SEED: the statements are not yours to turn. If you find one false, say at which input.
  Laid BY PROGRAM, IN A SANDBOX (cutbox-rows.mjs): the forced cells as the released guide's own fill.sh prints them over the translation 158bbcf03888951f… (all of the seat's roots in one cut). By AI agents, Wed Nov 11 2026. No macro, syntax, notation, axiom, sorry.
-/
import Derived.Test.YtihfgpfofmjbaaaChecked
import GoSem.Claim
import GoSem.ClaimJoined
import GoSem.ClaimMapViews
import Derived.JoinedTies
import Derived.KernelRfl
namespace Go.Proofs.Ytihfgpfofmjbaaa
/- THE CELL 'sum', in the pinned program and in every row, IS THE sha256 OF THE DUMP (.gsa) THAT YtihfgpfofmjbaaaProg.lean LOADS. Nothing in Lean hashes anything: it is a label: what it is worth is what the hold of that sum in a sandbox is worth. -/
noncomputable def Try.pinned : Pinned := { name := "ytihfgpfofmjbaaa", sum := "158bbcf03888951fbd6f671dcab34bfd241be213b282865c044672408e2520d9", checked := Try.checked }
namespace Rows
def none {H : Type} : Left H := { results := [], args := [] }

/-- 'incunablelaw14.FileWrites': WHATEVER THE INPUT: true; the input reads as it did. -/
def fileWritesSpec : ChangeSpec := { name := "fileWrites", fn := fun _ => fun
  | [d1, d2] => { results := [.lit (.bool true)], args := [d1, d2] }
  | _ => none }
def fileWritesRow : OpenClaim := { program := "ytihfgpfofmjbaaa", sum := "158bbcf03888951fbd6f671dcab34bfd241be213b282865c044672408e2520d9", func := "incunable/incunablelaw14.FileWrites", spec := "fileWrites", unfollowed := true, recurses := true, apart := false }
def FileWritesSaid : Prop := fileWritesRow.holds Try.pinned (OpenSpec.ofChange fileWritesSpec)

/-- ITS FALSE NEIGHBOUR: 'it returns false'. Refute it at one input. -/
def fileWritesWrong : ChangeSpec := { name := "fileWrites", fn := fun _ => fun
  | [d1, d2] => { results := [.lit (.bool false)], args := [d1, d2] }
  | _ => none }
def FileWritesWrongFalsely : Prop := fileWritesRow.holds Try.pinned (OpenSpec.ofChange fileWritesWrong)

/-- 'incunablelaw11.ToneRenders': WHATEVER THE INPUT: true; the input reads as it did. -/
def toneRendersSpec : ChangeSpec := { name := "toneRenders", fn := fun _ => fun
  | [d] => { results := [.lit (.bool true)], args := [d] }
  | _ => none }
def toneRendersRow : OpenClaim := { program := "ytihfgpfofmjbaaa", sum := "158bbcf03888951fbd6f671dcab34bfd241be213b282865c044672408e2520d9", func := "incunable/incunablelaw11.ToneRenders", spec := "toneRenders", unfollowed := true, recurses := true, apart := false }
def ToneRendersSaid : Prop := toneRendersRow.holds Try.pinned (OpenSpec.ofChange toneRendersSpec)

/-- ITS FALSE NEIGHBOUR: 'it returns false'. Refute it at one input. -/
def toneRendersWrong : ChangeSpec := { name := "toneRenders", fn := fun _ => fun
  | [d] => { results := [.lit (.bool false)], args := [d] }
  | _ => none }
def ToneRendersWrongFalsely : Prop := toneRendersRow.holds Try.pinned (OpenSpec.ofChange toneRendersWrong)

/-- 'incunablelaw07.GenericBest': WHATEVER THE INPUT: true; the input reads as it did. -/
def genericBestSpec : ChangeSpec := { name := "genericBest", fn := fun _ => fun
  | [d] => { results := [.lit (.bool true)], args := [d] }
  | _ => none }
def genericBestRow : OpenClaim := { program := "ytihfgpfofmjbaaa", sum := "158bbcf03888951fbd6f671dcab34bfd241be213b282865c044672408e2520d9", func := "incunable/incunablelaw07.GenericBest", spec := "genericBest", apart := false }
def GenericBestSaid : Prop := genericBestRow.holds Try.pinned (OpenSpec.ofChange genericBestSpec)

/-- ITS FALSE NEIGHBOUR: 'it returns false'. Refute it at one input. -/
def genericBestWrong : ChangeSpec := { name := "genericBest", fn := fun _ => fun
  | [d] => { results := [.lit (.bool false)], args := [d] }
  | _ => none }
def GenericBestWrongFalsely : Prop := genericBestRow.holds Try.pinned (OpenSpec.ofChange genericBestWrong)

/-- 'incunablelaw07.GenericNil': WHATEVER THE INPUT: true; the input reads as it did. -/
def genericNilSpec : ChangeSpec := { name := "genericNil", fn := fun _ => fun
  | [d] => { results := [.lit (.bool true)], args := [d] }
  | _ => none }
def genericNilRow : OpenClaim := { program := "ytihfgpfofmjbaaa", sum := "158bbcf03888951fbd6f671dcab34bfd241be213b282865c044672408e2520d9", func := "incunable/incunablelaw07.GenericNil", spec := "genericNil", apart := false }
def GenericNilSaid : Prop := genericNilRow.holds Try.pinned (OpenSpec.ofChange genericNilSpec)

/-- ITS FALSE NEIGHBOUR: 'it returns false'. Refute it at one input. -/
def genericNilWrong : ChangeSpec := { name := "genericNil", fn := fun _ => fun
  | [d] => { results := [.lit (.bool false)], args := [d] }
  | _ => none }
def GenericNilWrongFalsely : Prop := genericNilRow.holds Try.pinned (OpenSpec.ofChange genericNilWrong)

/-- 'incunablelaw14.FileEmbedded': WHATEVER THE INPUT: true; the input reads as it did. -/
def fileEmbeddedSpec : ChangeSpec := { name := "fileEmbedded", fn := fun _ => fun
  | [d] => { results := [.lit (.bool true)], args := [d] }
  | _ => none }
def fileEmbeddedRow : OpenClaim := { program := "ytihfgpfofmjbaaa", sum := "158bbcf03888951fbd6f671dcab34bfd241be213b282865c044672408e2520d9", func := "incunable/incunablelaw14.FileEmbedded", spec := "fileEmbedded", unfollowed := true, recurses := true, apart := false }
def FileEmbeddedSaid : Prop := fileEmbeddedRow.holds Try.pinned (OpenSpec.ofChange fileEmbeddedSpec)

/-- ITS FALSE NEIGHBOUR: 'it returns false'. Refute it at one input. -/
def fileEmbeddedWrong : ChangeSpec := { name := "fileEmbedded", fn := fun _ => fun
  | [d] => { results := [.lit (.bool false)], args := [d] }
  | _ => none }
def FileEmbeddedWrongFalsely : Prop := fileEmbeddedRow.holds Try.pinned (OpenSpec.ofChange fileEmbeddedWrong)

/-- 'incunablelaw11.ToneGets': WHATEVER THE INPUT: true; the input reads as it did. -/
def toneGetsSpec : ChangeSpec := { name := "toneGets", fn := fun _ => fun
  | [d] => { results := [.lit (.bool true)], args := [d] }
  | _ => none }
def toneGetsRow : OpenClaim := { program := "ytihfgpfofmjbaaa", sum := "158bbcf03888951fbd6f671dcab34bfd241be213b282865c044672408e2520d9", func := "incunable/incunablelaw11.ToneGets", spec := "toneGets", unfollowed := true, recurses := true, apart := false }
def ToneGetsSaid : Prop := toneGetsRow.holds Try.pinned (OpenSpec.ofChange toneGetsSpec)

/-- ITS FALSE NEIGHBOUR: 'it returns false'. Refute it at one input. -/
def toneGetsWrong : ChangeSpec := { name := "toneGets", fn := fun _ => fun
  | [d] => { results := [.lit (.bool false)], args := [d] }
  | _ => none }
def ToneGetsWrongFalsely : Prop := toneGetsRow.holds Try.pinned (OpenSpec.ofChange toneGetsWrong)

/-- 'incunablelaw07.GenericGets': WHATEVER THE INPUT: true; the input reads as it did. -/
def genericGetsSpec : ChangeSpec := { name := "genericGets", fn := fun _ => fun
  | [d] => { results := [.lit (.bool true)], args := [d] }
  | _ => none }
def genericGetsRow : OpenClaim := { program := "ytihfgpfofmjbaaa", sum := "158bbcf03888951fbd6f671dcab34bfd241be213b282865c044672408e2520d9", func := "incunable/incunablelaw07.GenericGets", spec := "genericGets", apart := false }
def GenericGetsSaid : Prop := genericGetsRow.holds Try.pinned (OpenSpec.ofChange genericGetsSpec)

/-- ITS FALSE NEIGHBOUR: 'it returns false'. Refute it at one input. -/
def genericGetsWrong : ChangeSpec := { name := "genericGets", fn := fun _ => fun
  | [d] => { results := [.lit (.bool false)], args := [d] }
  | _ => none }
def GenericGetsWrongFalsely : Prop := genericGetsRow.holds Try.pinned (OpenSpec.ofChange genericGetsWrong)

/-- 'incunablelaw07.GenericEncodes': WHATEVER THE INPUT: true; the input reads as it did. -/
def genericEncodesSpec : ChangeSpec := { name := "genericEncodes", fn := fun _ => fun
  | [d1, d2, d3] => { results := [.lit (.bool true)], args := [d1, d2, d3] }
  | _ => none }
def genericEncodesRow : OpenClaim := { program := "ytihfgpfofmjbaaa", sum := "158bbcf03888951fbd6f671dcab34bfd241be213b282865c044672408e2520d9", func := "incunable/incunablelaw07.GenericEncodes", spec := "genericEncodes", apart := false }
def GenericEncodesSaid : Prop := genericEncodesRow.holds Try.pinned (OpenSpec.ofChange genericEncodesSpec)

/-- ITS FALSE NEIGHBOUR: 'it returns false'. Refute it at one input. -/
def genericEncodesWrong : ChangeSpec := { name := "genericEncodes", fn := fun _ => fun
  | [d1, d2, d3] => { results := [.lit (.bool false)], args := [d1, d2, d3] }
  | _ => none }
def GenericEncodesWrongFalsely : Prop := genericEncodesRow.holds Try.pinned (OpenSpec.ofChange genericEncodesWrong)

/-- 'incunablelaw07.GenericDecodes': WHATEVER THE INPUT: true; the input reads as it did. -/
def genericDecodesSpec : ChangeSpec := { name := "genericDecodes", fn := fun _ => fun
  | [d] => { results := [.lit (.bool true)], args := [d] }
  | _ => none }
def genericDecodesRow : OpenClaim := { program := "ytihfgpfofmjbaaa", sum := "158bbcf03888951fbd6f671dcab34bfd241be213b282865c044672408e2520d9", func := "incunable/incunablelaw07.GenericDecodes", spec := "genericDecodes", apart := false }
def GenericDecodesSaid : Prop := genericDecodesRow.holds Try.pinned (OpenSpec.ofChange genericDecodesSpec)

/-- ITS FALSE NEIGHBOUR: 'it returns false'. Refute it at one input. -/
def genericDecodesWrong : ChangeSpec := { name := "genericDecodes", fn := fun _ => fun
  | [d] => { results := [.lit (.bool false)], args := [d] }
  | _ => none }
def GenericDecodesWrongFalsely : Prop := genericDecodesRow.holds Try.pinned (OpenSpec.ofChange genericDecodesWrong)

/-- 'incunablelaw14.FileTurns': WHATEVER THE INPUT: true; the input reads as it did. -/
def fileTurnsSpec : ChangeSpec := { name := "fileTurns", fn := fun _ => fun
  | [d1, d2] => { results := [.lit (.bool true)], args := [d1, d2] }
  | _ => none }
def fileTurnsRow : OpenClaim := { program := "ytihfgpfofmjbaaa", sum := "158bbcf03888951fbd6f671dcab34bfd241be213b282865c044672408e2520d9", func := "incunable/incunablelaw14.FileTurns", spec := "fileTurns", unfollowed := true, recurses := true, apart := false }
def FileTurnsSaid : Prop := fileTurnsRow.holds Try.pinned (OpenSpec.ofChange fileTurnsSpec)

/-- ITS FALSE NEIGHBOUR: 'it returns false'. Refute it at one input. -/
def fileTurnsWrong : ChangeSpec := { name := "fileTurns", fn := fun _ => fun
  | [d1, d2] => { results := [.lit (.bool false)], args := [d1, d2] }
  | _ => none }
def FileTurnsWrongFalsely : Prop := fileTurnsRow.holds Try.pinned (OpenSpec.ofChange fileTurnsWrong)

/-- 'incunablelaw14.FileReads': WHATEVER THE INPUT: true; the input reads as it did. -/
def fileReadsSpec : ChangeSpec := { name := "fileReads", fn := fun _ => fun
  | [d] => { results := [.lit (.bool true)], args := [d] }
  | _ => none }
def fileReadsRow : OpenClaim := { program := "ytihfgpfofmjbaaa", sum := "158bbcf03888951fbd6f671dcab34bfd241be213b282865c044672408e2520d9", func := "incunable/incunablelaw14.FileReads", spec := "fileReads", unfollowed := true, recurses := true, apart := false }
def FileReadsSaid : Prop := fileReadsRow.holds Try.pinned (OpenSpec.ofChange fileReadsSpec)

/-- ITS FALSE NEIGHBOUR: 'it returns false'. Refute it at one input. -/
def fileReadsWrong : ChangeSpec := { name := "fileReads", fn := fun _ => fun
  | [d] => { results := [.lit (.bool false)], args := [d] }
  | _ => none }
def FileReadsWrongFalsely : Prop := fileReadsRow.holds Try.pinned (OpenSpec.ofChange fileReadsWrong)

/-- 'incunablelaw14.FileBack': WHATEVER THE INPUT: true; the input reads as it did. -/
def fileBackSpec : ChangeSpec := { name := "fileBack", fn := fun _ => fun
  | [d1, d2] => { results := [.lit (.bool true)], args := [d1, d2] }
  | _ => none }
def fileBackRow : OpenClaim := { program := "ytihfgpfofmjbaaa", sum := "158bbcf03888951fbd6f671dcab34bfd241be213b282865c044672408e2520d9", func := "incunable/incunablelaw14.FileBack", spec := "fileBack", unfollowed := true, recurses := true, apart := false }
def FileBackSaid : Prop := fileBackRow.holds Try.pinned (OpenSpec.ofChange fileBackSpec)

/-- ITS FALSE NEIGHBOUR: 'it returns false'. Refute it at one input. -/
def fileBackWrong : ChangeSpec := { name := "fileBack", fn := fun _ => fun
  | [d1, d2] => { results := [.lit (.bool false)], args := [d1, d2] }
  | _ => none }
def FileBackWrongFalsely : Prop := fileBackRow.holds Try.pinned (OpenSpec.ofChange fileBackWrong)

/- THE SECOND FORM. 'bulk': how many values and letters a reading holds, each counted each time it is reached (what is shared counts as often as it is met; a slice's spare places count too). A statement '..UptoSaid' is the law's where the arguments, and the package variables that the reading takes, are together of bulk at most 1048576: NARROWER than '..Said'. Prove '..Said' where nothing that the law and all that it calls make is longer than what came in: it says more and counts as full. Else prove '..UptoSaid'. A law counts once. -/
mutual
def uptoBulk {H : Type} : DataW H → Nat
  | .lit (.string bytes) => bytes.length + 1
  | .lit _ => 1
  | .nil => 1
  | .ptr d => uptoBulk d + 1
  | .slice elems spare => uptoBulkAll elems + uptoBulkAll spare + 1
  | .agg parts => uptoBulkAll parts + 1
  | .iface _ d => uptoBulk d + 1
  | .map entries => uptoBulkEntries entries + 1
  | .held _ => 1
def uptoBulkAll {H : Type} : List (DataW H) → Nat
  | [] => 0
  | d :: r => uptoBulk d + uptoBulkAll r
def uptoBulkEntries {H : Type} : List (Lit × DataW H) → Nat
  | [] => 0
  | x :: r => uptoBulkEntry x + uptoBulkEntries r
def uptoBulkEntry {H : Type} : Lit × DataW H → Nat
  | (.string bytes, d) => bytes.length + uptoBulk d + 1
  | (_, d) => uptoBulk d + 1
 end
def uptoSmall : (H : Type) → List (DataW H) → Bool := fun _ ds => decide (uptoBulkAll ds ≤ 1048576)
def OpenSpec.upto (s : _root_.Go.ChangeSpec) : _root_.Go.OpenSpec := { _root_.Go.OpenSpec.ofChange s with cond := some uptoSmall }

/-- 'incunablelaw14.FileWrites', WHERE WHAT IT READS IS OF BULK AT MOST 1048576: true; the input reads as it did. -/
def fileWritesUptoRow : OpenClaim := { program := "ytihfgpfofmjbaaa", sum := "158bbcf03888951fbd6f671dcab34bfd241be213b282865c044672408e2520d9", func := "incunable/incunablelaw14.FileWrites", spec := "fileWrites", unfollowed := true, recurses := true, apart := false, narrowed := true }
def FileWritesUptoSaid : Prop := fileWritesUptoRow.holds Try.pinned (OpenSpec.upto fileWritesSpec)

/-- 'incunablelaw11.ToneRenders', WHERE WHAT IT READS IS OF BULK AT MOST 1048576: true; the input reads as it did. -/
def toneRendersUptoRow : OpenClaim := { program := "ytihfgpfofmjbaaa", sum := "158bbcf03888951fbd6f671dcab34bfd241be213b282865c044672408e2520d9", func := "incunable/incunablelaw11.ToneRenders", spec := "toneRenders", unfollowed := true, recurses := true, apart := false, narrowed := true }
def ToneRendersUptoSaid : Prop := toneRendersUptoRow.holds Try.pinned (OpenSpec.upto toneRendersSpec)

/-- 'incunablelaw07.GenericBest', WHERE WHAT IT READS IS OF BULK AT MOST 1048576: true; the input reads as it did. -/
def genericBestUptoRow : OpenClaim := { program := "ytihfgpfofmjbaaa", sum := "158bbcf03888951fbd6f671dcab34bfd241be213b282865c044672408e2520d9", func := "incunable/incunablelaw07.GenericBest", spec := "genericBest", apart := false, narrowed := true }
def GenericBestUptoSaid : Prop := genericBestUptoRow.holds Try.pinned (OpenSpec.upto genericBestSpec)

/-- 'incunablelaw07.GenericNil', WHERE WHAT IT READS IS OF BULK AT MOST 1048576: true; the input reads as it did. -/
def genericNilUptoRow : OpenClaim := { program := "ytihfgpfofmjbaaa", sum := "158bbcf03888951fbd6f671dcab34bfd241be213b282865c044672408e2520d9", func := "incunable/incunablelaw07.GenericNil", spec := "genericNil", apart := false, narrowed := true }
def GenericNilUptoSaid : Prop := genericNilUptoRow.holds Try.pinned (OpenSpec.upto genericNilSpec)

/-- 'incunablelaw14.FileEmbedded', WHERE WHAT IT READS IS OF BULK AT MOST 1048576: true; the input reads as it did. -/
def fileEmbeddedUptoRow : OpenClaim := { program := "ytihfgpfofmjbaaa", sum := "158bbcf03888951fbd6f671dcab34bfd241be213b282865c044672408e2520d9", func := "incunable/incunablelaw14.FileEmbedded", spec := "fileEmbedded", unfollowed := true, recurses := true, apart := false, narrowed := true }
def FileEmbeddedUptoSaid : Prop := fileEmbeddedUptoRow.holds Try.pinned (OpenSpec.upto fileEmbeddedSpec)

/-- 'incunablelaw11.ToneGets', WHERE WHAT IT READS IS OF BULK AT MOST 1048576: true; the input reads as it did. -/
def toneGetsUptoRow : OpenClaim := { program := "ytihfgpfofmjbaaa", sum := "158bbcf03888951fbd6f671dcab34bfd241be213b282865c044672408e2520d9", func := "incunable/incunablelaw11.ToneGets", spec := "toneGets", unfollowed := true, recurses := true, apart := false, narrowed := true }
def ToneGetsUptoSaid : Prop := toneGetsUptoRow.holds Try.pinned (OpenSpec.upto toneGetsSpec)

/-- 'incunablelaw07.GenericGets', WHERE WHAT IT READS IS OF BULK AT MOST 1048576: true; the input reads as it did. -/
def genericGetsUptoRow : OpenClaim := { program := "ytihfgpfofmjbaaa", sum := "158bbcf03888951fbd6f671dcab34bfd241be213b282865c044672408e2520d9", func := "incunable/incunablelaw07.GenericGets", spec := "genericGets", apart := false, narrowed := true }
def GenericGetsUptoSaid : Prop := genericGetsUptoRow.holds Try.pinned (OpenSpec.upto genericGetsSpec)

/-- 'incunablelaw07.GenericEncodes', WHERE WHAT IT READS IS OF BULK AT MOST 1048576: true; the input reads as it did. -/
def genericEncodesUptoRow : OpenClaim := { program := "ytihfgpfofmjbaaa", sum := "158bbcf03888951fbd6f671dcab34bfd241be213b282865c044672408e2520d9", func := "incunable/incunablelaw07.GenericEncodes", spec := "genericEncodes", apart := false, narrowed := true }
def GenericEncodesUptoSaid : Prop := genericEncodesUptoRow.holds Try.pinned (OpenSpec.upto genericEncodesSpec)

/-- 'incunablelaw07.GenericDecodes', WHERE WHAT IT READS IS OF BULK AT MOST 1048576: true; the input reads as it did. -/
def genericDecodesUptoRow : OpenClaim := { program := "ytihfgpfofmjbaaa", sum := "158bbcf03888951fbd6f671dcab34bfd241be213b282865c044672408e2520d9", func := "incunable/incunablelaw07.GenericDecodes", spec := "genericDecodes", apart := false, narrowed := true }
def GenericDecodesUptoSaid : Prop := genericDecodesUptoRow.holds Try.pinned (OpenSpec.upto genericDecodesSpec)

/-- 'incunablelaw14.FileTurns', WHERE WHAT IT READS IS OF BULK AT MOST 1048576: true; the input reads as it did. -/
def fileTurnsUptoRow : OpenClaim := { program := "ytihfgpfofmjbaaa", sum := "158bbcf03888951fbd6f671dcab34bfd241be213b282865c044672408e2520d9", func := "incunable/incunablelaw14.FileTurns", spec := "fileTurns", unfollowed := true, recurses := true, apart := false, narrowed := true }
def FileTurnsUptoSaid : Prop := fileTurnsUptoRow.holds Try.pinned (OpenSpec.upto fileTurnsSpec)

/-- 'incunablelaw14.FileReads', WHERE WHAT IT READS IS OF BULK AT MOST 1048576: true; the input reads as it did. -/
def fileReadsUptoRow : OpenClaim := { program := "ytihfgpfofmjbaaa", sum := "158bbcf03888951fbd6f671dcab34bfd241be213b282865c044672408e2520d9", func := "incunable/incunablelaw14.FileReads", spec := "fileReads", unfollowed := true, recurses := true, apart := false, narrowed := true }
def FileReadsUptoSaid : Prop := fileReadsUptoRow.holds Try.pinned (OpenSpec.upto fileReadsSpec)

/-- 'incunablelaw14.FileBack', WHERE WHAT IT READS IS OF BULK AT MOST 1048576: true; the input reads as it did. -/
def fileBackUptoRow : OpenClaim := { program := "ytihfgpfofmjbaaa", sum := "158bbcf03888951fbd6f671dcab34bfd241be213b282865c044672408e2520d9", func := "incunable/incunablelaw14.FileBack", spec := "fileBack", unfollowed := true, recurses := true, apart := false, narrowed := true }
def FileBackUptoSaid : Prop := fileBackUptoRow.holds Try.pinned (OpenSpec.upto fileBackSpec)

end Rows
end Go.Proofs.Ytihfgpfofmjbaaa
