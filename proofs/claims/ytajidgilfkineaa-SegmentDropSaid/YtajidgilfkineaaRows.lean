/-
  No cell of these rows narrows 'for every input' (looked for: loops, veiled, ifaces, maps, wideKeys, modest, calm, conditions, laid).
  DERIVED. THE GIVEN ROWS OF THIS SEAT. 12 by the template 'for every input the law returns true; each argument reads behind the call as it read before'; 0 by the template 'total and deterministic' (their statements: YtajidgilfkineaaTotals.lean).
  GIVEN WITH THE SEED: the statements are not yours to turn. If you find one false, say at which input.
  Laid BY PROGRAM, IN A SANDBOX (cutbox-rows.mjs): the forced cells as the released guide's own fill.sh prints them over the translation 0f7bd728e655072c… (all of the seat's roots in one cut). By AI agents, Wed Nov 11 2026. No macro, syntax, notation, axiom, sorry.
-/
import Derived.Test.YtajidgilfkineaaChecked
import GoSem.Claim
import GoSem.ClaimJoined
import GoSem.ClaimMapViews
import Derived.JoinedTies
import Derived.KernelRfl
namespace Go.Proofs.Ytajidgilfkineaa
/- THE CELL 'sum', in the pinned program and in every row, IS THE sha256 OF THE DUMP (.gsa) THAT YtajidgilfkineaaProg.lean LOADS. Nothing in Lean hashes anything: it is a label: what it is worth is what the hold of that sum in a sandbox is worth. -/
noncomputable def Try.pinned : Pinned := { name := "ytajidgilfkineaa", sum := "0f7bd728e655072c4516013a9ba8c6a265d5ec8b6b2854bea2ce04c5637caabc", checked := Try.checked }
namespace Rows
def none {H : Type} : Left H := { results := [], args := [] }

/-- 'incunablelaw11.ToneBits': WHATEVER THE INPUT: true; the input reads as it did. -/
def toneBitsSpec : ChangeSpec := { name := "toneBits", fn := fun _ => fun
  | [d] => { results := [.lit (.bool true)], args := [d] }
  | _ => none }
def toneBitsRow : OpenClaim := { program := "ytajidgilfkineaa", sum := "0f7bd728e655072c4516013a9ba8c6a265d5ec8b6b2854bea2ce04c5637caabc", func := "incunable/incunablelaw11.ToneBits", spec := "toneBits", unfollowed := true, recurses := true, apart := false }
def ToneBitsSaid : Prop := toneBitsRow.holds Try.pinned (OpenSpec.ofChange toneBitsSpec)

/-- ITS FALSE NEIGHBOUR: 'it returns false'. Refute it at one input. -/
def toneBitsWrong : ChangeSpec := { name := "toneBits", fn := fun _ => fun
  | [d] => { results := [.lit (.bool false)], args := [d] }
  | _ => none }
def ToneBitsWrongFalsely : Prop := toneBitsRow.holds Try.pinned (OpenSpec.ofChange toneBitsWrong)

/-- 'incunablelaw11.TonePlanes': WHATEVER THE INPUT: true; the input reads as it did. -/
def tonePlanesSpec : ChangeSpec := { name := "tonePlanes", fn := fun _ => fun
  | [d1, d2] => { results := [.lit (.bool true)], args := [d1, d2] }
  | _ => none }
def tonePlanesRow : OpenClaim := { program := "ytajidgilfkineaa", sum := "0f7bd728e655072c4516013a9ba8c6a265d5ec8b6b2854bea2ce04c5637caabc", func := "incunable/incunablelaw11.TonePlanes", spec := "tonePlanes", unfollowed := true, recurses := true, apart := false }
def TonePlanesSaid : Prop := tonePlanesRow.holds Try.pinned (OpenSpec.ofChange tonePlanesSpec)

/-- ITS FALSE NEIGHBOUR: 'it returns false'. Refute it at one input. -/
def tonePlanesWrong : ChangeSpec := { name := "tonePlanes", fn := fun _ => fun
  | [d1, d2] => { results := [.lit (.bool false)], args := [d1, d2] }
  | _ => none }
def TonePlanesWrongFalsely : Prop := tonePlanesRow.holds Try.pinned (OpenSpec.ofChange tonePlanesWrong)

/-- 'incunablelaw11.ToneFrom': WHATEVER THE INPUT: true; the input reads as it did. -/
def toneFromSpec : ChangeSpec := { name := "toneFrom", fn := fun _ => fun
  | [d] => { results := [.lit (.bool true)], args := [d] }
  | _ => none }
def toneFromRow : OpenClaim := { program := "ytajidgilfkineaa", sum := "0f7bd728e655072c4516013a9ba8c6a265d5ec8b6b2854bea2ce04c5637caabc", func := "incunable/incunablelaw11.ToneFrom", spec := "toneFrom", unfollowed := true, recurses := true, apart := false }
def ToneFromSaid : Prop := toneFromRow.holds Try.pinned (OpenSpec.ofChange toneFromSpec)

/-- ITS FALSE NEIGHBOUR: 'it returns false'. Refute it at one input. -/
def toneFromWrong : ChangeSpec := { name := "toneFrom", fn := fun _ => fun
  | [d] => { results := [.lit (.bool false)], args := [d] }
  | _ => none }
def ToneFromWrongFalsely : Prop := toneFromRow.holds Try.pinned (OpenSpec.ofChange toneFromWrong)

/-- 'incunablelaw11.ToneScreens': WHATEVER THE INPUT: true; the input reads as it did. -/
def toneScreensSpec : ChangeSpec := { name := "toneScreens", fn := fun _ => fun
  | [d1, d2, d3] => { results := [.lit (.bool true)], args := [d1, d2, d3] }
  | _ => none }
def toneScreensRow : OpenClaim := { program := "ytajidgilfkineaa", sum := "0f7bd728e655072c4516013a9ba8c6a265d5ec8b6b2854bea2ce04c5637caabc", func := "incunable/incunablelaw11.ToneScreens", spec := "toneScreens", unfollowed := true, recurses := true, apart := false }
def ToneScreensSaid : Prop := toneScreensRow.holds Try.pinned (OpenSpec.ofChange toneScreensSpec)

/-- ITS FALSE NEIGHBOUR: 'it returns false'. Refute it at one input. -/
def toneScreensWrong : ChangeSpec := { name := "toneScreens", fn := fun _ => fun
  | [d1, d2, d3] => { results := [.lit (.bool false)], args := [d1, d2, d3] }
  | _ => none }
def ToneScreensWrongFalsely : Prop := toneScreensRow.holds Try.pinned (OpenSpec.ofChange toneScreensWrong)

/-- 'incunablelaw07.GenericContext': WHATEVER THE INPUT: true; the input reads as it did. -/
def genericContextSpec : ChangeSpec := { name := "genericContext", fn := fun _ => fun
  | [d] => { results := [.lit (.bool true)], args := [d] }
  | _ => none }
def genericContextRow : OpenClaim := { program := "ytajidgilfkineaa", sum := "0f7bd728e655072c4516013a9ba8c6a265d5ec8b6b2854bea2ce04c5637caabc", func := "incunable/incunablelaw07.GenericContext", spec := "genericContext", apart := false }
def GenericContextSaid : Prop := genericContextRow.holds Try.pinned (OpenSpec.ofChange genericContextSpec)

/-- ITS FALSE NEIGHBOUR: 'it returns false'. Refute it at one input. -/
def genericContextWrong : ChangeSpec := { name := "genericContext", fn := fun _ => fun
  | [d] => { results := [.lit (.bool false)], args := [d] }
  | _ => none }
def GenericContextWrongFalsely : Prop := genericContextRow.holds Try.pinned (OpenSpec.ofChange genericContextWrong)

/-- 'incunablelaw07.GenericOptions': WHATEVER THE INPUT: true; the input reads as it did. -/
def genericOptionsSpec : ChangeSpec := { name := "genericOptions", fn := fun _ => fun
  | [d1, d2] => { results := [.lit (.bool true)], args := [d1, d2] }
  | _ => none }
def genericOptionsRow : OpenClaim := { program := "ytajidgilfkineaa", sum := "0f7bd728e655072c4516013a9ba8c6a265d5ec8b6b2854bea2ce04c5637caabc", func := "incunable/incunablelaw07.GenericOptions", spec := "genericOptions", apart := false }
def GenericOptionsSaid : Prop := genericOptionsRow.holds Try.pinned (OpenSpec.ofChange genericOptionsSpec)

/-- ITS FALSE NEIGHBOUR: 'it returns false'. Refute it at one input. -/
def genericOptionsWrong : ChangeSpec := { name := "genericOptions", fn := fun _ => fun
  | [d1, d2] => { results := [.lit (.bool false)], args := [d1, d2] }
  | _ => none }
def GenericOptionsWrongFalsely : Prop := genericOptionsRow.holds Try.pinned (OpenSpec.ofChange genericOptionsWrong)

/-- 'incunablelaw12.SegmentHeader': WHATEVER THE INPUT: true; the input reads as it did. -/
def segmentHeaderSpec : ChangeSpec := { name := "segmentHeader", fn := fun _ => fun
  | [d1, d2] => { results := [.lit (.bool true)], args := [d1, d2] }
  | _ => none }
def segmentHeaderRow : OpenClaim := { program := "ytajidgilfkineaa", sum := "0f7bd728e655072c4516013a9ba8c6a265d5ec8b6b2854bea2ce04c5637caabc", func := "incunable/incunablelaw12.SegmentHeader", spec := "segmentHeader", unfollowed := true, recurses := true, apart := false }
def SegmentHeaderSaid : Prop := segmentHeaderRow.holds Try.pinned (OpenSpec.ofChange segmentHeaderSpec)

/-- ITS FALSE NEIGHBOUR: 'it returns false'. Refute it at one input. -/
def segmentHeaderWrong : ChangeSpec := { name := "segmentHeader", fn := fun _ => fun
  | [d1, d2] => { results := [.lit (.bool false)], args := [d1, d2] }
  | _ => none }
def SegmentHeaderWrongFalsely : Prop := segmentHeaderRow.holds Try.pinned (OpenSpec.ofChange segmentHeaderWrong)

/-- 'incunablelaw12.SegmentDrop': WHATEVER THE INPUT: true; the input reads as it did. -/
def segmentDropSpec : ChangeSpec := { name := "segmentDrop", fn := fun _ => fun
  | [d] => { results := [.lit (.bool true)], args := [d] }
  | _ => none }
def segmentDropRow : OpenClaim := { program := "ytajidgilfkineaa", sum := "0f7bd728e655072c4516013a9ba8c6a265d5ec8b6b2854bea2ce04c5637caabc", func := "incunable/incunablelaw12.SegmentDrop", spec := "segmentDrop", unfollowed := true, recurses := true, apart := false }
def SegmentDropSaid : Prop := segmentDropRow.holds Try.pinned (OpenSpec.ofChange segmentDropSpec)

/-- ITS FALSE NEIGHBOUR: 'it returns false'. Refute it at one input. -/
def segmentDropWrong : ChangeSpec := { name := "segmentDrop", fn := fun _ => fun
  | [d] => { results := [.lit (.bool false)], args := [d] }
  | _ => none }
def SegmentDropWrongFalsely : Prop := segmentDropRow.holds Try.pinned (OpenSpec.ofChange segmentDropWrong)

/-- 'incunablelaw12.SegmentGets': WHATEVER THE INPUT: true; the input reads as it did. -/
def segmentGetsSpec : ChangeSpec := { name := "segmentGets", fn := fun _ => fun
  | [d1, d2] => { results := [.lit (.bool true)], args := [d1, d2] }
  | _ => none }
def segmentGetsRow : OpenClaim := { program := "ytajidgilfkineaa", sum := "0f7bd728e655072c4516013a9ba8c6a265d5ec8b6b2854bea2ce04c5637caabc", func := "incunable/incunablelaw12.SegmentGets", spec := "segmentGets", unfollowed := true, recurses := true, apart := false }
def SegmentGetsSaid : Prop := segmentGetsRow.holds Try.pinned (OpenSpec.ofChange segmentGetsSpec)

/-- ITS FALSE NEIGHBOUR: 'it returns false'. Refute it at one input. -/
def segmentGetsWrong : ChangeSpec := { name := "segmentGets", fn := fun _ => fun
  | [d1, d2] => { results := [.lit (.bool false)], args := [d1, d2] }
  | _ => none }
def SegmentGetsWrongFalsely : Prop := segmentGetsRow.holds Try.pinned (OpenSpec.ofChange segmentGetsWrong)

/-- 'incunablelaw12.SegmentBack': WHATEVER THE INPUT: true; the input reads as it did. -/
def segmentBackSpec : ChangeSpec := { name := "segmentBack", fn := fun _ => fun
  | [d1, d2, d3] => { results := [.lit (.bool true)], args := [d1, d2, d3] }
  | _ => none }
def segmentBackRow : OpenClaim := { program := "ytajidgilfkineaa", sum := "0f7bd728e655072c4516013a9ba8c6a265d5ec8b6b2854bea2ce04c5637caabc", func := "incunable/incunablelaw12.SegmentBack", spec := "segmentBack", unfollowed := true, recurses := true, apart := false }
def SegmentBackSaid : Prop := segmentBackRow.holds Try.pinned (OpenSpec.ofChange segmentBackSpec)

/-- ITS FALSE NEIGHBOUR: 'it returns false'. Refute it at one input. -/
def segmentBackWrong : ChangeSpec := { name := "segmentBack", fn := fun _ => fun
  | [d1, d2, d3] => { results := [.lit (.bool false)], args := [d1, d2, d3] }
  | _ => none }
def SegmentBackWrongFalsely : Prop := segmentBackRow.holds Try.pinned (OpenSpec.ofChange segmentBackWrong)

/-- 'incunablelaw12.SegmentAgain': WHATEVER THE INPUT: true; the input reads as it did. -/
def segmentAgainSpec : ChangeSpec := { name := "segmentAgain", fn := fun _ => fun
  | [d1, d2] => { results := [.lit (.bool true)], args := [d1, d2] }
  | _ => none }
def segmentAgainRow : OpenClaim := { program := "ytajidgilfkineaa", sum := "0f7bd728e655072c4516013a9ba8c6a265d5ec8b6b2854bea2ce04c5637caabc", func := "incunable/incunablelaw12.SegmentAgain", spec := "segmentAgain", unfollowed := true, recurses := true, apart := false }
def SegmentAgainSaid : Prop := segmentAgainRow.holds Try.pinned (OpenSpec.ofChange segmentAgainSpec)

/-- ITS FALSE NEIGHBOUR: 'it returns false'. Refute it at one input. -/
def segmentAgainWrong : ChangeSpec := { name := "segmentAgain", fn := fun _ => fun
  | [d1, d2] => { results := [.lit (.bool false)], args := [d1, d2] }
  | _ => none }
def SegmentAgainWrongFalsely : Prop := segmentAgainRow.holds Try.pinned (OpenSpec.ofChange segmentAgainWrong)

/-- 'incunablelaw14.FileWrites': WHATEVER THE INPUT: true; the input reads as it did. -/
def fileWritesSpec : ChangeSpec := { name := "fileWrites", fn := fun _ => fun
  | [d1, d2] => { results := [.lit (.bool true)], args := [d1, d2] }
  | _ => none }
def fileWritesRow : OpenClaim := { program := "ytajidgilfkineaa", sum := "0f7bd728e655072c4516013a9ba8c6a265d5ec8b6b2854bea2ce04c5637caabc", func := "incunable/incunablelaw14.FileWrites", spec := "fileWrites", unfollowed := true, recurses := true, apart := false }
def FileWritesSaid : Prop := fileWritesRow.holds Try.pinned (OpenSpec.ofChange fileWritesSpec)

/-- ITS FALSE NEIGHBOUR: 'it returns false'. Refute it at one input. -/
def fileWritesWrong : ChangeSpec := { name := "fileWrites", fn := fun _ => fun
  | [d1, d2] => { results := [.lit (.bool false)], args := [d1, d2] }
  | _ => none }
def FileWritesWrongFalsely : Prop := fileWritesRow.holds Try.pinned (OpenSpec.ofChange fileWritesWrong)

/- THE SECOND FORM. 'bulk': how many values and letters a reading holds, each counted each time it is reached (what is shared counts as often as it is met; a slice's spare places count too). A statement '..UptoSaid' is the law's where the arguments, and the package variables that the reading takes, are together of bulk at most 1048576: NARROWER than '..Said'. Prove '..Said' where nothing that the law and all that it calls make is longer than what came in: it says more and counts as full. Else prove '..UptoSaid'. A law counts once. -/
mutual
def uptoBulk {H : Type} : DataW H → Nat
  | .lit (.string bytes) => bytes.length + 1
  | .lit _ => 1
  | .nil => 1
  | .ptr d => uptoBulk d + 1
  | .slice elems spare => uptoBulkAll elems + uptoBulkAll spare + 1
  | .agg parts => uptoBulkAll parts + 1
  | .iface _ d => uptoBulk d + 1
  | .map entries => uptoBulkEntries entries + 1
  | .held _ => 1
def uptoBulkAll {H : Type} : List (DataW H) → Nat
  | [] => 0
  | d :: r => uptoBulk d + uptoBulkAll r
def uptoBulkEntries {H : Type} : List (Lit × DataW H) → Nat
  | [] => 0
  | x :: r => uptoBulkEntry x + uptoBulkEntries r
def uptoBulkEntry {H : Type} : Lit × DataW H → Nat
  | (.string bytes, d) => bytes.length + uptoBulk d + 1
  | (_, d) => uptoBulk d + 1
 end
def uptoSmall : (H : Type) → List (DataW H) → Bool := fun _ ds => decide (uptoBulkAll ds ≤ 1048576)
def OpenSpec.upto (s : _root_.Go.ChangeSpec) : _root_.Go.OpenSpec := { _root_.Go.OpenSpec.ofChange s with cond := some uptoSmall }

/-- 'incunablelaw11.ToneBits', WHERE WHAT IT READS IS OF BULK AT MOST 1048576: true; the input reads as it did. -/
def toneBitsUptoRow : OpenClaim := { program := "ytajidgilfkineaa", sum := "0f7bd728e655072c4516013a9ba8c6a265d5ec8b6b2854bea2ce04c5637caabc", func := "incunable/incunablelaw11.ToneBits", spec := "toneBits", unfollowed := true, recurses := true, apart := false, narrowed := true }
def ToneBitsUptoSaid : Prop := toneBitsUptoRow.holds Try.pinned (OpenSpec.upto toneBitsSpec)

/-- 'incunablelaw11.TonePlanes', WHERE WHAT IT READS IS OF BULK AT MOST 1048576: true; the input reads as it did. -/
def tonePlanesUptoRow : OpenClaim := { program := "ytajidgilfkineaa", sum := "0f7bd728e655072c4516013a9ba8c6a265d5ec8b6b2854bea2ce04c5637caabc", func := "incunable/incunablelaw11.TonePlanes", spec := "tonePlanes", unfollowed := true, recurses := true, apart := false, narrowed := true }
def TonePlanesUptoSaid : Prop := tonePlanesUptoRow.holds Try.pinned (OpenSpec.upto tonePlanesSpec)

/-- 'incunablelaw11.ToneFrom', WHERE WHAT IT READS IS OF BULK AT MOST 1048576: true; the input reads as it did. -/
def toneFromUptoRow : OpenClaim := { program := "ytajidgilfkineaa", sum := "0f7bd728e655072c4516013a9ba8c6a265d5ec8b6b2854bea2ce04c5637caabc", func := "incunable/incunablelaw11.ToneFrom", spec := "toneFrom", unfollowed := true, recurses := true, apart := false, narrowed := true }
def ToneFromUptoSaid : Prop := toneFromUptoRow.holds Try.pinned (OpenSpec.upto toneFromSpec)

/-- 'incunablelaw11.ToneScreens', WHERE WHAT IT READS IS OF BULK AT MOST 1048576: true; the input reads as it did. -/
def toneScreensUptoRow : OpenClaim := { program := "ytajidgilfkineaa", sum := "0f7bd728e655072c4516013a9ba8c6a265d5ec8b6b2854bea2ce04c5637caabc", func := "incunable/incunablelaw11.ToneScreens", spec := "toneScreens", unfollowed := true, recurses := true, apart := false, narrowed := true }
def ToneScreensUptoSaid : Prop := toneScreensUptoRow.holds Try.pinned (OpenSpec.upto toneScreensSpec)

/-- 'incunablelaw07.GenericContext', WHERE WHAT IT READS IS OF BULK AT MOST 1048576: true; the input reads as it did. -/
def genericContextUptoRow : OpenClaim := { program := "ytajidgilfkineaa", sum := "0f7bd728e655072c4516013a9ba8c6a265d5ec8b6b2854bea2ce04c5637caabc", func := "incunable/incunablelaw07.GenericContext", spec := "genericContext", apart := false, narrowed := true }
def GenericContextUptoSaid : Prop := genericContextUptoRow.holds Try.pinned (OpenSpec.upto genericContextSpec)

/-- 'incunablelaw07.GenericOptions', WHERE WHAT IT READS IS OF BULK AT MOST 1048576: true; the input reads as it did. -/
def genericOptionsUptoRow : OpenClaim := { program := "ytajidgilfkineaa", sum := "0f7bd728e655072c4516013a9ba8c6a265d5ec8b6b2854bea2ce04c5637caabc", func := "incunable/incunablelaw07.GenericOptions", spec := "genericOptions", apart := false, narrowed := true }
def GenericOptionsUptoSaid : Prop := genericOptionsUptoRow.holds Try.pinned (OpenSpec.upto genericOptionsSpec)

/-- 'incunablelaw12.SegmentHeader', WHERE WHAT IT READS IS OF BULK AT MOST 1048576: true; the input reads as it did. -/
def segmentHeaderUptoRow : OpenClaim := { program := "ytajidgilfkineaa", sum := "0f7bd728e655072c4516013a9ba8c6a265d5ec8b6b2854bea2ce04c5637caabc", func := "incunable/incunablelaw12.SegmentHeader", spec := "segmentHeader", unfollowed := true, recurses := true, apart := false, narrowed := true }
def SegmentHeaderUptoSaid : Prop := segmentHeaderUptoRow.holds Try.pinned (OpenSpec.upto segmentHeaderSpec)

/-- 'incunablelaw12.SegmentDrop', WHERE WHAT IT READS IS OF BULK AT MOST 1048576: true; the input reads as it did. -/
def segmentDropUptoRow : OpenClaim := { program := "ytajidgilfkineaa", sum := "0f7bd728e655072c4516013a9ba8c6a265d5ec8b6b2854bea2ce04c5637caabc", func := "incunable/incunablelaw12.SegmentDrop", spec := "segmentDrop", unfollowed := true, recurses := true, apart := false, narrowed := true }
def SegmentDropUptoSaid : Prop := segmentDropUptoRow.holds Try.pinned (OpenSpec.upto segmentDropSpec)

/-- 'incunablelaw12.SegmentGets', WHERE WHAT IT READS IS OF BULK AT MOST 1048576: true; the input reads as it did. -/
def segmentGetsUptoRow : OpenClaim := { program := "ytajidgilfkineaa", sum := "0f7bd728e655072c4516013a9ba8c6a265d5ec8b6b2854bea2ce04c5637caabc", func := "incunable/incunablelaw12.SegmentGets", spec := "segmentGets", unfollowed := true, recurses := true, apart := false, narrowed := true }
def SegmentGetsUptoSaid : Prop := segmentGetsUptoRow.holds Try.pinned (OpenSpec.upto segmentGetsSpec)

/-- 'incunablelaw12.SegmentBack', WHERE WHAT IT READS IS OF BULK AT MOST 1048576: true; the input reads as it did. -/
def segmentBackUptoRow : OpenClaim := { program := "ytajidgilfkineaa", sum := "0f7bd728e655072c4516013a9ba8c6a265d5ec8b6b2854bea2ce04c5637caabc", func := "incunable/incunablelaw12.SegmentBack", spec := "segmentBack", unfollowed := true, recurses := true, apart := false, narrowed := true }
def SegmentBackUptoSaid : Prop := segmentBackUptoRow.holds Try.pinned (OpenSpec.upto segmentBackSpec)

/-- 'incunablelaw12.SegmentAgain', WHERE WHAT IT READS IS OF BULK AT MOST 1048576: true; the input reads as it did. -/
def segmentAgainUptoRow : OpenClaim := { program := "ytajidgilfkineaa", sum := "0f7bd728e655072c4516013a9ba8c6a265d5ec8b6b2854bea2ce04c5637caabc", func := "incunable/incunablelaw12.SegmentAgain", spec := "segmentAgain", unfollowed := true, recurses := true, apart := false, narrowed := true }
def SegmentAgainUptoSaid : Prop := segmentAgainUptoRow.holds Try.pinned (OpenSpec.upto segmentAgainSpec)

/-- 'incunablelaw14.FileWrites', WHERE WHAT IT READS IS OF BULK AT MOST 1048576: true; the input reads as it did. -/
def fileWritesUptoRow : OpenClaim := { program := "ytajidgilfkineaa", sum := "0f7bd728e655072c4516013a9ba8c6a265d5ec8b6b2854bea2ce04c5637caabc", func := "incunable/incunablelaw14.FileWrites", spec := "fileWrites", unfollowed := true, recurses := true, apart := false, narrowed := true }
def FileWritesUptoSaid : Prop := fileWritesUptoRow.holds Try.pinned (OpenSpec.upto fileWritesSpec)

end Rows
end Go.Proofs.Ytajidgilfkineaa
