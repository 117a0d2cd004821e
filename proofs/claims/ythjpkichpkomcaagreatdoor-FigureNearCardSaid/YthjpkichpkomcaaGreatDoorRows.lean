/-
  NARROWER THAN 'FOR EVERY INPUT', by the rows' own cells (each row's printed sentence says how): FigureBack: laid · FigureNear: laid · GridProducts: laid · GridTells: laid · GridRows: laid · GridOrder: laid · FigureWrites: laid · FigureReads: laid.
  DERIVED. THE GIVEN ROWS OF THIS SEAT. 8 by the template 'for every input the law returns true; each argument reads behind the call as it read before'; 0 by the template 'total and deterministic' (their statements: YthjpkichpkomcaaGreatDoorTotals.lean).
  GIVEN WITH THE SEED: the statements are not yours to turn. If you find one false, say at which input.
  Laid BY PROGRAM, IN A SANDBOX (cutbox-rows.mjs): the forced cells as the released guide's own fill.sh prints them over the translation 4f0cb6769e77b43d… (all of the seat's roots in one cut). By AI agents, Wed Nov 11 2026. No macro, syntax, notation, axiom, sorry.
-/
import Derived.Test.YthjpkichpkomcaaGreatDoorChecked
import GoSem.PinnedTables
import GoSem.Claim
import GoSem.ClaimJoined
import GoSem.ClaimMapViews
import Derived.JoinedTies
import Derived.KernelRfl
namespace Go.Proofs.YthjpkichpkomcaaGreatDoor
/- THE CELL 'sum', in the pinned program and in every row, IS THE sha256 OF THE DUMP (.gsa) THAT YthjpkichpkomcaaGreatDoorProg.lean LOADS. Nothing in Lean hashes anything: it is a label: what it is worth is what the hold of that sum in a sandbox is worth. -/
noncomputable def Tryz.pinned : Pinned := { name := "ythjpkichpkomcaagreatdoor", sum := "4f0cb6769e77b43d20ab297f34939f84bb4c8478131832ba9e309147f3e6a64c", checked := Tryz.checked }
namespace Rows
def none {H : Type} : Left H := { results := [], args := [] }

/- WHAT THE LISTED PACKAGE-LEVEL VARIABLES READ AS WHEN THE CALL BEGINS. Each datum BY PROGRAM (the guide's laid-datum.mjs) off the statement by which the dump's own 'gosem.cut.vars' lays the variable. In a bare row this is a premise. The card (YthjpkichpkomcaaGreatDoorCards.lean) ties it to the program's text. -/
def laid_unicode_utf8_acceptRanges {H : Type} : DataW H := .agg [.agg [.lit (.int .u8 128), .lit (.int .u8 191)], .agg [.lit (.int .u8 160), .lit (.int .u8 191)], .agg [.lit (.int .u8 128), .lit (.int .u8 159)], .agg [.lit (.int .u8 144), .lit (.int .u8 191)], .agg [.lit (.int .u8 128), .lit (.int .u8 143)], .agg [.lit (.int .u8 0), .lit (.int .u8 0)], .agg [.lit (.int .u8 0), .lit (.int .u8 0)], .agg [.lit (.int .u8 0), .lit (.int .u8 0)], .agg [.lit (.int .u8 0), .lit (.int .u8 0)], .agg [.lit (.int .u8 0), .lit (.int .u8 0)], .agg [.lit (.int .u8 0), .lit (.int .u8 0)], .agg [.lit (.int .u8 0), .lit (.int .u8 0)], .agg [.lit (.int .u8 0), .lit (.int .u8 0)], .agg [.lit (.int .u8 0), .lit (.int .u8 0)], .agg [.lit (.int .u8 0), .lit (.int .u8 0)], .agg [.lit (.int .u8 0), .lit (.int .u8 0)]]
/-- One of Go's own tables, pinned by name: the form's constant. -/
def laid_unicode_utf8_first : DataW Unit := Go.Pinned.utf8First

/-- 'retrospectlaw10.FigureBack': WHATEVER THE INPUT: true; the input reads as it did. -/
def figureBackSpec : ChangeSpec := { name := "figureBack", fn := fun _ => fun
  | [d1, d2] => { results := [.lit (.bool true)], args := [d1, d2] }
  | _ => none }
def figureBackRow : OpenClaim := { program := "ythjpkichpkomcaagreatdoor", sum := "4f0cb6769e77b43d20ab297f34939f84bb4c8478131832ba9e309147f3e6a64c", func := "retrospect/retrospectlaw10.FigureBack", spec := "figureBack", inPlace := ["internal/bytealg.IndexByteString", "internal/bytealg.IndexString", "internal/abi.NoEscape", "internal/bytealg.MakeNoZero"], named := ["unicode/utf8.first", "unicode/utf8.acceptRanges", "internal/bytealg.MaxLen"], apart := false, laid := [("unicode/utf8.acceptRanges", laid_unicode_utf8_acceptRanges), ("unicode/utf8.first", laid_unicode_utf8_first)] }
def FigureBackSaid : Prop := figureBackRow.holds Tryz.pinned (OpenSpec.ofChange figureBackSpec)

/-- ITS FALSE NEIGHBOUR: 'it returns false'. Refute it at one input. -/
def figureBackWrong : ChangeSpec := { name := "figureBack", fn := fun _ => fun
  | [d1, d2] => { results := [.lit (.bool false)], args := [d1, d2] }
  | _ => none }
def FigureBackWrongFalsely : Prop := figureBackRow.holds Tryz.pinned (OpenSpec.ofChange figureBackWrong)

/-- 'retrospectlaw10.FigureNear': WHATEVER THE INPUT: true; the input reads as it did. -/
def figureNearSpec : ChangeSpec := { name := "figureNear", fn := fun _ => fun
  | [d1, d2] => { results := [.lit (.bool true)], args := [d1, d2] }
  | _ => none }
def figureNearRow : OpenClaim := { program := "ythjpkichpkomcaagreatdoor", sum := "4f0cb6769e77b43d20ab297f34939f84bb4c8478131832ba9e309147f3e6a64c", func := "retrospect/retrospectlaw10.FigureNear", spec := "figureNear", inPlace := ["internal/bytealg.IndexByteString", "internal/bytealg.IndexString", "internal/abi.NoEscape", "internal/bytealg.MakeNoZero"], named := ["unicode/utf8.first", "unicode/utf8.acceptRanges", "internal/bytealg.MaxLen"], apart := false, laid := [("unicode/utf8.acceptRanges", laid_unicode_utf8_acceptRanges), ("unicode/utf8.first", laid_unicode_utf8_first)] }
def FigureNearSaid : Prop := figureNearRow.holds Tryz.pinned (OpenSpec.ofChange figureNearSpec)

/-- ITS FALSE NEIGHBOUR: 'it returns false'. Refute it at one input. -/
def figureNearWrong : ChangeSpec := { name := "figureNear", fn := fun _ => fun
  | [d1, d2] => { results := [.lit (.bool false)], args := [d1, d2] }
  | _ => none }
def FigureNearWrongFalsely : Prop := figureNearRow.holds Tryz.pinned (OpenSpec.ofChange figureNearWrong)

/-- 'retrospectlaw12.GridProducts': WHATEVER THE INPUT: true; the input reads as it did. -/
def gridProductsSpec : ChangeSpec := { name := "gridProducts", fn := fun _ => fun
  | [d1, d2] => { results := [.lit (.bool true)], args := [d1, d2] }
  | _ => none }
def gridProductsRow : OpenClaim := { program := "ythjpkichpkomcaagreatdoor", sum := "4f0cb6769e77b43d20ab297f34939f84bb4c8478131832ba9e309147f3e6a64c", func := "retrospect/retrospectlaw12.GridProducts", spec := "gridProducts", inPlace := ["internal/abi.NoEscape", "internal/bytealg.IndexByteString", "internal/bytealg.IndexString", "internal/bytealg.MakeNoZero"], named := ["unicode/utf8.first", "unicode/utf8.acceptRanges", "internal/bytealg.MaxLen"], apart := false, laid := [("unicode/utf8.acceptRanges", laid_unicode_utf8_acceptRanges), ("unicode/utf8.first", laid_unicode_utf8_first)] }
def GridProductsSaid : Prop := gridProductsRow.holds Tryz.pinned (OpenSpec.ofChange gridProductsSpec)

/-- ITS FALSE NEIGHBOUR: 'it returns false'. Refute it at one input. -/
def gridProductsWrong : ChangeSpec := { name := "gridProducts", fn := fun _ => fun
  | [d1, d2] => { results := [.lit (.bool false)], args := [d1, d2] }
  | _ => none }
def GridProductsWrongFalsely : Prop := gridProductsRow.holds Tryz.pinned (OpenSpec.ofChange gridProductsWrong)

/-- 'retrospectlaw12.GridTells': WHATEVER THE INPUT: true; the input reads as it did. -/
def gridTellsSpec : ChangeSpec := { name := "gridTells", fn := fun _ => fun
  | [d1, d2, d3] => { results := [.lit (.bool true)], args := [d1, d2, d3] }
  | _ => none }
def gridTellsRow : OpenClaim := { program := "ythjpkichpkomcaagreatdoor", sum := "4f0cb6769e77b43d20ab297f34939f84bb4c8478131832ba9e309147f3e6a64c", func := "retrospect/retrospectlaw12.GridTells", spec := "gridTells", inPlace := ["internal/abi.NoEscape", "internal/bytealg.IndexByteString", "internal/bytealg.IndexString", "internal/bytealg.MakeNoZero"], named := ["unicode/utf8.first", "unicode/utf8.acceptRanges", "internal/bytealg.MaxLen"], apart := false, laid := [("unicode/utf8.acceptRanges", laid_unicode_utf8_acceptRanges), ("unicode/utf8.first", laid_unicode_utf8_first)] }
def GridTellsSaid : Prop := gridTellsRow.holds Tryz.pinned (OpenSpec.ofChange gridTellsSpec)

/-- ITS FALSE NEIGHBOUR: 'it returns false'. Refute it at one input. -/
def gridTellsWrong : ChangeSpec := { name := "gridTells", fn := fun _ => fun
  | [d1, d2, d3] => { results := [.lit (.bool false)], args := [d1, d2, d3] }
  | _ => none }
def GridTellsWrongFalsely : Prop := gridTellsRow.holds Tryz.pinned (OpenSpec.ofChange gridTellsWrong)

/-- 'retrospectlaw12.GridRows': WHATEVER THE INPUT: true; the input reads as it did. -/
def gridRowsSpec : ChangeSpec := { name := "gridRows", fn := fun _ => fun
  | [d1, d2] => { results := [.lit (.bool true)], args := [d1, d2] }
  | _ => none }
def gridRowsRow : OpenClaim := { program := "ythjpkichpkomcaagreatdoor", sum := "4f0cb6769e77b43d20ab297f34939f84bb4c8478131832ba9e309147f3e6a64c", func := "retrospect/retrospectlaw12.GridRows", spec := "gridRows", inPlace := ["internal/abi.NoEscape", "internal/bytealg.IndexByteString", "internal/bytealg.IndexString", "internal/bytealg.MakeNoZero"], named := ["unicode/utf8.first", "unicode/utf8.acceptRanges", "internal/bytealg.MaxLen"], apart := false, laid := [("unicode/utf8.acceptRanges", laid_unicode_utf8_acceptRanges), ("unicode/utf8.first", laid_unicode_utf8_first)] }
def GridRowsSaid : Prop := gridRowsRow.holds Tryz.pinned (OpenSpec.ofChange gridRowsSpec)

/-- ITS FALSE NEIGHBOUR: 'it returns false'. Refute it at one input. -/
def gridRowsWrong : ChangeSpec := { name := "gridRows", fn := fun _ => fun
  | [d1, d2] => { results := [.lit (.bool false)], args := [d1, d2] }
  | _ => none }
def GridRowsWrongFalsely : Prop := gridRowsRow.holds Tryz.pinned (OpenSpec.ofChange gridRowsWrong)

/-- 'retrospectlaw12.GridOrder': WHATEVER THE INPUT: true; the input reads as it did. -/
def gridOrderSpec : ChangeSpec := { name := "gridOrder", fn := fun _ => fun
  | [d1, d2, d3] => { results := [.lit (.bool true)], args := [d1, d2, d3] }
  | _ => none }
def gridOrderRow : OpenClaim := { program := "ythjpkichpkomcaagreatdoor", sum := "4f0cb6769e77b43d20ab297f34939f84bb4c8478131832ba9e309147f3e6a64c", func := "retrospect/retrospectlaw12.GridOrder", spec := "gridOrder", inPlace := ["internal/abi.NoEscape", "internal/bytealg.IndexByteString", "internal/bytealg.IndexString", "internal/bytealg.MakeNoZero"], named := ["unicode/utf8.first", "unicode/utf8.acceptRanges", "internal/bytealg.MaxLen"], apart := false, laid := [("unicode/utf8.acceptRanges", laid_unicode_utf8_acceptRanges), ("unicode/utf8.first", laid_unicode_utf8_first)] }
def GridOrderSaid : Prop := gridOrderRow.holds Tryz.pinned (OpenSpec.ofChange gridOrderSpec)

/-- ITS FALSE NEIGHBOUR: 'it returns false'. Refute it at one input. -/
def gridOrderWrong : ChangeSpec := { name := "gridOrder", fn := fun _ => fun
  | [d1, d2, d3] => { results := [.lit (.bool false)], args := [d1, d2, d3] }
  | _ => none }
def GridOrderWrongFalsely : Prop := gridOrderRow.holds Tryz.pinned (OpenSpec.ofChange gridOrderWrong)

/-- 'retrospectlaw10.FigureWrites': WHATEVER THE INPUT: true; the input reads as it did. -/
def figureWritesSpec : ChangeSpec := { name := "figureWrites", fn := fun _ => fun
  | [d1, d2] => { results := [.lit (.bool true)], args := [d1, d2] }
  | _ => none }
def figureWritesRow : OpenClaim := { program := "ythjpkichpkomcaagreatdoor", sum := "4f0cb6769e77b43d20ab297f34939f84bb4c8478131832ba9e309147f3e6a64c", func := "retrospect/retrospectlaw10.FigureWrites", spec := "figureWrites", inPlace := ["internal/bytealg.IndexByteString", "internal/bytealg.IndexString", "internal/abi.NoEscape", "internal/bytealg.MakeNoZero"], named := ["unicode/utf8.first", "unicode/utf8.acceptRanges", "internal/bytealg.MaxLen"], apart := false, laid := [("unicode/utf8.acceptRanges", laid_unicode_utf8_acceptRanges), ("unicode/utf8.first", laid_unicode_utf8_first)] }
def FigureWritesSaid : Prop := figureWritesRow.holds Tryz.pinned (OpenSpec.ofChange figureWritesSpec)

/-- ITS FALSE NEIGHBOUR: 'it returns false'. Refute it at one input. -/
def figureWritesWrong : ChangeSpec := { name := "figureWrites", fn := fun _ => fun
  | [d1, d2] => { results := [.lit (.bool false)], args := [d1, d2] }
  | _ => none }
def FigureWritesWrongFalsely : Prop := figureWritesRow.holds Tryz.pinned (OpenSpec.ofChange figureWritesWrong)

/-- 'retrospectlaw10.FigureReads': WHATEVER THE INPUT: true; the input reads as it did. -/
def figureReadsSpec : ChangeSpec := { name := "figureReads", fn := fun _ => fun
  | [d] => { results := [.lit (.bool true)], args := [d] }
  | _ => none }
def figureReadsRow : OpenClaim := { program := "ythjpkichpkomcaagreatdoor", sum := "4f0cb6769e77b43d20ab297f34939f84bb4c8478131832ba9e309147f3e6a64c", func := "retrospect/retrospectlaw10.FigureReads", spec := "figureReads", inPlace := ["internal/bytealg.IndexByteString", "internal/bytealg.IndexString", "internal/abi.NoEscape", "internal/bytealg.MakeNoZero"], named := ["unicode/utf8.first", "unicode/utf8.acceptRanges", "internal/bytealg.MaxLen"], apart := false, laid := [("unicode/utf8.acceptRanges", laid_unicode_utf8_acceptRanges), ("unicode/utf8.first", laid_unicode_utf8_first)] }
def FigureReadsSaid : Prop := figureReadsRow.holds Tryz.pinned (OpenSpec.ofChange figureReadsSpec)

/-- ITS FALSE NEIGHBOUR: 'it returns false'. Refute it at one input. -/
def figureReadsWrong : ChangeSpec := { name := "figureReads", fn := fun _ => fun
  | [d] => { results := [.lit (.bool false)], args := [d] }
  | _ => none }
def FigureReadsWrongFalsely : Prop := figureReadsRow.holds Tryz.pinned (OpenSpec.ofChange figureReadsWrong)

/- THE SECOND FORM. 'bulk': how many values and letters a reading holds, each counted each time it is reached (what is shared counts as often as it is met; a slice's spare places count too). A statement '..UptoSaid' is the law's where the arguments, and the package variables that the reading takes, are together of bulk at most 1048576: NARROWER than '..Said'. Prove '..Said' where nothing that the law and all that it calls make is longer than what came in: it says more and counts as full. Else prove '..UptoSaid'. A law counts once. -/
mutual
def uptoBulk {H : Type} : DataW H → Nat
  | .lit (.string bytes) => bytes.length + 1
  | .lit _ => 1
  | .nil => 1
  | .ptr d => uptoBulk d + 1
  | .slice elems spare => uptoBulkAll elems + uptoBulkAll spare + 1
  | .agg parts => uptoBulkAll parts + 1
  | .iface _ d => uptoBulk d + 1
  | .map entries => uptoBulkEntries entries + 1
  | .held _ => 1
def uptoBulkAll {H : Type} : List (DataW H) → Nat
  | [] => 0
  | d :: r => uptoBulk d + uptoBulkAll r
def uptoBulkEntries {H : Type} : List (Lit × DataW H) → Nat
  | [] => 0
  | x :: r => uptoBulkEntry x + uptoBulkEntries r
def uptoBulkEntry {H : Type} : Lit × DataW H → Nat
  | (.string bytes, d) => bytes.length + uptoBulk d + 1
  | (_, d) => uptoBulk d + 1
 end
def uptoSmall : (H : Type) → List (DataW H) → Bool := fun _ ds => decide (uptoBulkAll ds ≤ 1048576)
def OpenSpec.upto (s : _root_.Go.ChangeSpec) : _root_.Go.OpenSpec := { _root_.Go.OpenSpec.ofChange s with cond := some uptoSmall }

/-- 'retrospectlaw10.FigureBack', WHERE WHAT IT READS IS OF BULK AT MOST 1048576: true; the input reads as it did. -/
def figureBackUptoRow : OpenClaim := { program := "ythjpkichpkomcaagreatdoor", sum := "4f0cb6769e77b43d20ab297f34939f84bb4c8478131832ba9e309147f3e6a64c", func := "retrospect/retrospectlaw10.FigureBack", spec := "figureBack", inPlace := ["internal/bytealg.IndexByteString", "internal/bytealg.IndexString", "internal/abi.NoEscape", "internal/bytealg.MakeNoZero"], named := ["unicode/utf8.first", "unicode/utf8.acceptRanges", "internal/bytealg.MaxLen"], apart := false, laid := [("unicode/utf8.acceptRanges", laid_unicode_utf8_acceptRanges), ("unicode/utf8.first", laid_unicode_utf8_first)], narrowed := true }
def FigureBackUptoSaid : Prop := figureBackUptoRow.holds Tryz.pinned (OpenSpec.upto figureBackSpec)

/-- 'retrospectlaw10.FigureNear', WHERE WHAT IT READS IS OF BULK AT MOST 1048576: true; the input reads as it did. -/
def figureNearUptoRow : OpenClaim := { program := "ythjpkichpkomcaagreatdoor", sum := "4f0cb6769e77b43d20ab297f34939f84bb4c8478131832ba9e309147f3e6a64c", func := "retrospect/retrospectlaw10.FigureNear", spec := "figureNear", inPlace := ["internal/bytealg.IndexByteString", "internal/bytealg.IndexString", "internal/abi.NoEscape", "internal/bytealg.MakeNoZero"], named := ["unicode/utf8.first", "unicode/utf8.acceptRanges", "internal/bytealg.MaxLen"], apart := false, laid := [("unicode/utf8.acceptRanges", laid_unicode_utf8_acceptRanges), ("unicode/utf8.first", laid_unicode_utf8_first)], narrowed := true }
def FigureNearUptoSaid : Prop := figureNearUptoRow.holds Tryz.pinned (OpenSpec.upto figureNearSpec)

/-- 'retrospectlaw12.GridProducts', WHERE WHAT IT READS IS OF BULK AT MOST 1048576: true; the input reads as it did. -/
def gridProductsUptoRow : OpenClaim := { program := "ythjpkichpkomcaagreatdoor", sum := "4f0cb6769e77b43d20ab297f34939f84bb4c8478131832ba9e309147f3e6a64c", func := "retrospect/retrospectlaw12.GridProducts", spec := "gridProducts", inPlace := ["internal/abi.NoEscape", "internal/bytealg.IndexByteString", "internal/bytealg.IndexString", "internal/bytealg.MakeNoZero"], named := ["unicode/utf8.first", "unicode/utf8.acceptRanges", "internal/bytealg.MaxLen"], apart := false, laid := [("unicode/utf8.acceptRanges", laid_unicode_utf8_acceptRanges), ("unicode/utf8.first", laid_unicode_utf8_first)], narrowed := true }
def GridProductsUptoSaid : Prop := gridProductsUptoRow.holds Tryz.pinned (OpenSpec.upto gridProductsSpec)

/-- 'retrospectlaw12.GridTells', WHERE WHAT IT READS IS OF BULK AT MOST 1048576: true; the input reads as it did. -/
def gridTellsUptoRow : OpenClaim := { program := "ythjpkichpkomcaagreatdoor", sum := "4f0cb6769e77b43d20ab297f34939f84bb4c8478131832ba9e309147f3e6a64c", func := "retrospect/retrospectlaw12.GridTells", spec := "gridTells", inPlace := ["internal/abi.NoEscape", "internal/bytealg.IndexByteString", "internal/bytealg.IndexString", "internal/bytealg.MakeNoZero"], named := ["unicode/utf8.first", "unicode/utf8.acceptRanges", "internal/bytealg.MaxLen"], apart := false, laid := [("unicode/utf8.acceptRanges", laid_unicode_utf8_acceptRanges), ("unicode/utf8.first", laid_unicode_utf8_first)], narrowed := true }
def GridTellsUptoSaid : Prop := gridTellsUptoRow.holds Tryz.pinned (OpenSpec.upto gridTellsSpec)

/-- 'retrospectlaw12.GridRows', WHERE WHAT IT READS IS OF BULK AT MOST 1048576: true; the input reads as it did. -/
def gridRowsUptoRow : OpenClaim := { program := "ythjpkichpkomcaagreatdoor", sum := "4f0cb6769e77b43d20ab297f34939f84bb4c8478131832ba9e309147f3e6a64c", func := "retrospect/retrospectlaw12.GridRows", spec := "gridRows", inPlace := ["internal/abi.NoEscape", "internal/bytealg.IndexByteString", "internal/bytealg.IndexString", "internal/bytealg.MakeNoZero"], named := ["unicode/utf8.first", "unicode/utf8.acceptRanges", "internal/bytealg.MaxLen"], apart := false, laid := [("unicode/utf8.acceptRanges", laid_unicode_utf8_acceptRanges), ("unicode/utf8.first", laid_unicode_utf8_first)], narrowed := true }
def GridRowsUptoSaid : Prop := gridRowsUptoRow.holds Tryz.pinned (OpenSpec.upto gridRowsSpec)

/-- 'retrospectlaw12.GridOrder', WHERE WHAT IT READS IS OF BULK AT MOST 1048576: true; the input reads as it did. -/
def gridOrderUptoRow : OpenClaim := { program := "ythjpkichpkomcaagreatdoor", sum := "4f0cb6769e77b43d20ab297f34939f84bb4c8478131832ba9e309147f3e6a64c", func := "retrospect/retrospectlaw12.GridOrder", spec := "gridOrder", inPlace := ["internal/abi.NoEscape", "internal/bytealg.IndexByteString", "internal/bytealg.IndexString", "internal/bytealg.MakeNoZero"], named := ["unicode/utf8.first", "unicode/utf8.acceptRanges", "internal/bytealg.MaxLen"], apart := false, laid := [("unicode/utf8.acceptRanges", laid_unicode_utf8_acceptRanges), ("unicode/utf8.first", laid_unicode_utf8_first)], narrowed := true }
def GridOrderUptoSaid : Prop := gridOrderUptoRow.holds Tryz.pinned (OpenSpec.upto gridOrderSpec)

/-- 'retrospectlaw10.FigureWrites', WHERE WHAT IT READS IS OF BULK AT MOST 1048576: true; the input reads as it did. -/
def figureWritesUptoRow : OpenClaim := { program := "ythjpkichpkomcaagreatdoor", sum := "4f0cb6769e77b43d20ab297f34939f84bb4c8478131832ba9e309147f3e6a64c", func := "retrospect/retrospectlaw10.FigureWrites", spec := "figureWrites", inPlace := ["internal/bytealg.IndexByteString", "internal/bytealg.IndexString", "internal/abi.NoEscape", "internal/bytealg.MakeNoZero"], named := ["unicode/utf8.first", "unicode/utf8.acceptRanges", "internal/bytealg.MaxLen"], apart := false, laid := [("unicode/utf8.acceptRanges", laid_unicode_utf8_acceptRanges), ("unicode/utf8.first", laid_unicode_utf8_first)], narrowed := true }
def FigureWritesUptoSaid : Prop := figureWritesUptoRow.holds Tryz.pinned (OpenSpec.upto figureWritesSpec)

/-- 'retrospectlaw10.FigureReads', WHERE WHAT IT READS IS OF BULK AT MOST 1048576: true; the input reads as it did. -/
def figureReadsUptoRow : OpenClaim := { program := "ythjpkichpkomcaagreatdoor", sum := "4f0cb6769e77b43d20ab297f34939f84bb4c8478131832ba9e309147f3e6a64c", func := "retrospect/retrospectlaw10.FigureReads", spec := "figureReads", inPlace := ["internal/bytealg.IndexByteString", "internal/bytealg.IndexString", "internal/abi.NoEscape", "internal/bytealg.MakeNoZero"], named := ["unicode/utf8.first", "unicode/utf8.acceptRanges", "internal/bytealg.MaxLen"], apart := false, laid := [("unicode/utf8.acceptRanges", laid_unicode_utf8_acceptRanges), ("unicode/utf8.first", laid_unicode_utf8_first)], narrowed := true }
def FigureReadsUptoSaid : Prop := figureReadsUptoRow.holds Tryz.pinned (OpenSpec.upto figureReadsSpec)

end Rows
end Go.Proofs.YthjpkichpkomcaaGreatDoor
