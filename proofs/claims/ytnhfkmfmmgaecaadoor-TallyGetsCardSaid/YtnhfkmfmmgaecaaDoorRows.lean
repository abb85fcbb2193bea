/-
  NARROWER THAN 'FOR EVERY INPUT', by the rows' own cells (each row's printed sentence says how): FieldPrefix: laid · FieldNone: laid · SlotPuts: laid · SlotGets: laid · SlotTorn: laid · NodePuts: laid · NodeGets: laid · NodeIndex: laid · NodeUnlike: laid · TallyPuts: laid · TallyGets: laid · TallyUnlike: laid.
  DERIVED. THE GIVEN ROWS OF THIS SEAT. 12 by the template 'for every input the law returns true; each argument reads behind the call as it read before'; 0 by the template 'total and deterministic' (their statements: YtnhfkmfmmgaecaaDoorTotals.lean).
  GIVEN WITH THE SEED: the statements are not yours to turn. If you find one false, say at which input.
  Laid BY PROGRAM, IN A SANDBOX (cutbox-rows.mjs): the forced cells as the released guide's own fill.sh prints them over the translation 2ad56b1e741fb99d… (all of the seat's roots in one cut). By AI agents, Wed Nov 11 2026. No macro, syntax, notation, axiom, sorry.
-/
import Derived.Test.YtnhfkmfmmgaecaaDoorChecked
import GoSem.PinnedTables
import GoSem.Claim
import GoSem.ClaimJoined
import GoSem.ClaimMapViews
import Derived.JoinedTies
import Derived.KernelRfl
namespace Go.Proofs.YtnhfkmfmmgaecaaDoor
/- THE CELL 'sum', in the pinned program and in every row, IS THE sha256 OF THE DUMP (.gsa) THAT YtnhfkmfmmgaecaaDoorProg.lean LOADS. Nothing in Lean hashes anything: it is a label: what it is worth is what the hold of that sum in a sandbox is worth. -/
noncomputable def Tryd.pinned : Pinned := { name := "ytnhfkmfmmgaecaadoor", sum := "2ad56b1e741fb99d878b75a4f24c192b9bdcef887a97f57655663ef3a90db9f1", checked := Tryd.checked }
namespace Rows
def none {H : Type} : Left H := { results := [], args := [] }

/- WHAT THE LISTED PACKAGE-LEVEL VARIABLES READ AS WHEN THE CALL BEGINS. Each datum BY PROGRAM (the guide's laid-datum.mjs) off the statement by which the dump's own 'gosem.cut.vars' lays the variable. In a bare row this is a premise. The card (YtnhfkmfmmgaecaaDoorCards.lean) ties it to the program's text. -/
def laid_unicode_utf8_acceptRanges {H : Type} : DataW H := .agg [.agg [.lit (.int .u8 128), .lit (.int .u8 191)], .agg [.lit (.int .u8 160), .lit (.int .u8 191)], .agg [.lit (.int .u8 128), .lit (.int .u8 159)], .agg [.lit (.int .u8 144), .lit (.int .u8 191)], .agg [.lit (.int .u8 128), .lit (.int .u8 143)], .agg [.lit (.int .u8 0), .lit (.int .u8 0)], .agg [.lit (.int .u8 0), .lit (.int .u8 0)], .agg [.lit (.int .u8 0), .lit (.int .u8 0)], .agg [.lit (.int .u8 0), .lit (.int .u8 0)], .agg [.lit (.int .u8 0), .lit (.int .u8 0)], .agg [.lit (.int .u8 0), .lit (.int .u8 0)], .agg [.lit (.int .u8 0), .lit (.int .u8 0)], .agg [.lit (.int .u8 0), .lit (.int .u8 0)], .agg [.lit (.int .u8 0), .lit (.int .u8 0)], .agg [.lit (.int .u8 0), .lit (.int .u8 0)], .agg [.lit (.int .u8 0), .lit (.int .u8 0)]]
/-- One of Go's own tables, pinned by name: the form's constant. -/
def laid_unicode_utf8_first : DataW Unit := Go.Pinned.utf8First

/-- 'pantilelaw02.FieldPrefix': WHATEVER THE INPUT: true; the input reads as it did. -/
def fieldPrefixSpec : ChangeSpec := { name := "fieldPrefix", fn := fun _ => fun
  | [d1, d2, d3] => { results := [.lit (.bool true)], args := [d1, d2, d3] }
  | _ => none }
def fieldPrefixRow : OpenClaim := { program := "ytnhfkmfmmgaecaadoor", sum := "2ad56b1e741fb99d878b75a4f24c192b9bdcef887a97f57655663ef3a90db9f1", func := "pantile/pantilelaw02.FieldPrefix", spec := "fieldPrefix", unfollowed := true, recurses := true, named := ["unicode/utf8.first", "unicode/utf8.acceptRanges"], apart := false, laid := [("unicode/utf8.acceptRanges", laid_unicode_utf8_acceptRanges), ("unicode/utf8.first", laid_unicode_utf8_first)] }
def FieldPrefixSaid : Prop := fieldPrefixRow.holds Tryd.pinned (OpenSpec.ofChange fieldPrefixSpec)

/-- ITS FALSE NEIGHBOUR: 'it returns false'. Refute it at one input. -/
def fieldPrefixWrong : ChangeSpec := { name := "fieldPrefix", fn := fun _ => fun
  | [d1, d2, d3] => { results := [.lit (.bool false)], args := [d1, d2, d3] }
  | _ => none }
def FieldPrefixWrongFalsely : Prop := fieldPrefixRow.holds Tryd.pinned (OpenSpec.ofChange fieldPrefixWrong)

/-- 'pantilelaw02.FieldNone': WHATEVER THE INPUT: true; the input reads as it did. -/
def fieldNoneSpec : ChangeSpec := { name := "fieldNone", fn := fun _ => fun
  | [d1, d2, d3] => { results := [.lit (.bool true)], args := [d1, d2, d3] }
  | _ => none }
def fieldNoneRow : OpenClaim := { program := "ytnhfkmfmmgaecaadoor", sum := "2ad56b1e741fb99d878b75a4f24c192b9bdcef887a97f57655663ef3a90db9f1", func := "pantile/pantilelaw02.FieldNone", spec := "fieldNone", unfollowed := true, recurses := true, named := ["unicode/utf8.first", "unicode/utf8.acceptRanges"], apart := false, laid := [("unicode/utf8.acceptRanges", laid_unicode_utf8_acceptRanges), ("unicode/utf8.first", laid_unicode_utf8_first)] }
def FieldNoneSaid : Prop := fieldNoneRow.holds Tryd.pinned (OpenSpec.ofChange fieldNoneSpec)

/-- ITS FALSE NEIGHBOUR: 'it returns false'. Refute it at one input. -/
def fieldNoneWrong : ChangeSpec := { name := "fieldNone", fn := fun _ => fun
  | [d1, d2, d3] => { results := [.lit (.bool false)], args := [d1, d2, d3] }
  | _ => none }
def FieldNoneWrongFalsely : Prop := fieldNoneRow.holds Tryd.pinned (OpenSpec.ofChange fieldNoneWrong)

/-- 'pantilelaw07.SlotPuts': WHATEVER THE INPUT: true; the input reads as it did. -/
def slotPutsSpec : ChangeSpec := { name := "slotPuts", fn := fun _ => fun
  | [d] => { results := [.lit (.bool true)], args := [d] }
  | _ => none }
def slotPutsRow : OpenClaim := { program := "ytnhfkmfmmgaecaadoor", sum := "2ad56b1e741fb99d878b75a4f24c192b9bdcef887a97f57655663ef3a90db9f1", func := "pantile/pantilelaw07.SlotPuts", spec := "slotPuts", unfollowed := true, recurses := true, named := ["unicode/utf8.first", "unicode/utf8.acceptRanges"], apart := false, laid := [("unicode/utf8.acceptRanges", laid_unicode_utf8_acceptRanges), ("unicode/utf8.first", laid_unicode_utf8_first)] }
def SlotPutsSaid : Prop := slotPutsRow.holds Tryd.pinned (OpenSpec.ofChange slotPutsSpec)

/-- ITS FALSE NEIGHBOUR: 'it returns false'. Refute it at one input. -/
def slotPutsWrong : ChangeSpec := { name := "slotPuts", fn := fun _ => fun
  | [d] => { results := [.lit (.bool false)], args := [d] }
  | _ => none }
def SlotPutsWrongFalsely : Prop := slotPutsRow.holds Tryd.pinned (OpenSpec.ofChange slotPutsWrong)

/-- 'pantilelaw07.SlotGets': WHATEVER THE INPUT: true; the input reads as it did. -/
def slotGetsSpec : ChangeSpec := { name := "slotGets", fn := fun _ => fun
  | [d] => { results := [.lit (.bool true)], args := [d] }
  | _ => none }
def slotGetsRow : OpenClaim := { program := "ytnhfkmfmmgaecaadoor", sum := "2ad56b1e741fb99d878b75a4f24c192b9bdcef887a97f57655663ef3a90db9f1", func := "pantile/pantilelaw07.SlotGets", spec := "slotGets", unfollowed := true, recurses := true, named := ["unicode/utf8.first", "unicode/utf8.acceptRanges"], apart := false, laid := [("unicode/utf8.acceptRanges", laid_unicode_utf8_acceptRanges), ("unicode/utf8.first", laid_unicode_utf8_first)] }
def SlotGetsSaid : Prop := slotGetsRow.holds Tryd.pinned (OpenSpec.ofChange slotGetsSpec)

/-- ITS FALSE NEIGHBOUR: 'it returns false'. Refute it at one input. -/
def slotGetsWrong : ChangeSpec := { name := "slotGets", fn := fun _ => fun
  | [d] => { results := [.lit (.bool false)], args := [d] }
  | _ => none }
def SlotGetsWrongFalsely : Prop := slotGetsRow.holds Tryd.pinned (OpenSpec.ofChange slotGetsWrong)

/-- 'pantilelaw07.SlotTorn': WHATEVER THE INPUT: true; the input reads as it did. -/
def slotTornSpec : ChangeSpec := { name := "slotTorn", fn := fun _ => fun
  | [d1, d2, d3] => { results := [.lit (.bool true)], args := [d1, d2, d3] }
  | _ => none }
def slotTornRow : OpenClaim := { program := "ytnhfkmfmmgaecaadoor", sum := "2ad56b1e741fb99d878b75a4f24c192b9bdcef887a97f57655663ef3a90db9f1", func := "pantile/pantilelaw07.SlotTorn", spec := "slotTorn", unfollowed := true, recurses := true, named := ["unicode/utf8.first", "unicode/utf8.acceptRanges"], apart := false, laid := [("unicode/utf8.acceptRanges", laid_unicode_utf8_acceptRanges), ("unicode/utf8.first", laid_unicode_utf8_first)] }
def SlotTornSaid : Prop := slotTornRow.holds Tryd.pinned (OpenSpec.ofChange slotTornSpec)

/-- ITS FALSE NEIGHBOUR: 'it returns false'. Refute it at one input. -/
def slotTornWrong : ChangeSpec := { name := "slotTorn", fn := fun _ => fun
  | [d1, d2, d3] => { results := [.lit (.bool false)], args := [d1, d2, d3] }
  | _ => none }
def SlotTornWrongFalsely : Prop := slotTornRow.holds Tryd.pinned (OpenSpec.ofChange slotTornWrong)

/-- 'pantilelaw04.NodePuts': WHATEVER THE INPUT: true; the input reads as it did. -/
def nodePutsSpec : ChangeSpec := { name := "nodePuts", fn := fun _ => fun
  | [d] => { results := [.lit (.bool true)], args := [d] }
  | _ => none }
def nodePutsRow : OpenClaim := { program := "ytnhfkmfmmgaecaadoor", sum := "2ad56b1e741fb99d878b75a4f24c192b9bdcef887a97f57655663ef3a90db9f1", func := "pantile/pantilelaw04.NodePuts", spec := "nodePuts", unfollowed := true, recurses := true, named := ["unicode/utf8.first", "unicode/utf8.acceptRanges"], apart := false, laid := [("unicode/utf8.acceptRanges", laid_unicode_utf8_acceptRanges), ("unicode/utf8.first", laid_unicode_utf8_first)] }
def NodePutsSaid : Prop := nodePutsRow.holds Tryd.pinned (OpenSpec.ofChange nodePutsSpec)

/-- ITS FALSE NEIGHBOUR: 'it returns false'. Refute it at one input. -/
def nodePutsWrong : ChangeSpec := { name := "nodePuts", fn := fun _ => fun
  | [d] => { results := [.lit (.bool false)], args := [d] }
  | _ => none }
def NodePutsWrongFalsely : Prop := nodePutsRow.holds Tryd.pinned (OpenSpec.ofChange nodePutsWrong)

/-- 'pantilelaw04.NodeGets': WHATEVER THE INPUT: true; the input reads as it did. -/
def nodeGetsSpec : ChangeSpec := { name := "nodeGets", fn := fun _ => fun
  | [d] => { results := [.lit (.bool true)], args := [d] }
  | _ => none }
def nodeGetsRow : OpenClaim := { program := "ytnhfkmfmmgaecaadoor", sum := "2ad56b1e741fb99d878b75a4f24c192b9bdcef887a97f57655663ef3a90db9f1", func := "pantile/pantilelaw04.NodeGets", spec := "nodeGets", unfollowed := true, recurses := true, named := ["unicode/utf8.first", "unicode/utf8.acceptRanges"], apart := false, laid := [("unicode/utf8.acceptRanges", laid_unicode_utf8_acceptRanges), ("unicode/utf8.first", laid_unicode_utf8_first)] }
def NodeGetsSaid : Prop := nodeGetsRow.holds Tryd.pinned (OpenSpec.ofChange nodeGetsSpec)

/-- ITS FALSE NEIGHBOUR: 'it returns false'. Refute it at one input. -/
def nodeGetsWrong : ChangeSpec := { name := "nodeGets", fn := fun _ => fun
  | [d] => { results := [.lit (.bool false)], args := [d] }
  | _ => none }
def NodeGetsWrongFalsely : Prop := nodeGetsRow.holds Tryd.pinned (OpenSpec.ofChange nodeGetsWrong)

/-- 'pantilelaw04.NodeIndex': WHATEVER THE INPUT: true; the input reads as it did. -/
def nodeIndexSpec : ChangeSpec := { name := "nodeIndex", fn := fun _ => fun
  | [d1, d2, d3] => { results := [.lit (.bool true)], args := [d1, d2, d3] }
  | _ => none }
def nodeIndexRow : OpenClaim := { program := "ytnhfkmfmmgaecaadoor", sum := "2ad56b1e741fb99d878b75a4f24c192b9bdcef887a97f57655663ef3a90db9f1", func := "pantile/pantilelaw04.NodeIndex", spec := "nodeIndex", unfollowed := true, recurses := true, named := ["unicode/utf8.first", "unicode/utf8.acceptRanges"], apart := false, laid := [("unicode/utf8.acceptRanges", laid_unicode_utf8_acceptRanges), ("unicode/utf8.first", laid_unicode_utf8_first)] }
def NodeIndexSaid : Prop := nodeIndexRow.holds Tryd.pinned (OpenSpec.ofChange nodeIndexSpec)

/-- ITS FALSE NEIGHBOUR: 'it returns false'. Refute it at one input. -/
def nodeIndexWrong : ChangeSpec := { name := "nodeIndex", fn := fun _ => fun
  | [d1, d2, d3] => { results := [.lit (.bool false)], args := [d1, d2, d3] }
  | _ => none }
def NodeIndexWrongFalsely : Prop := nodeIndexRow.holds Tryd.pinned (OpenSpec.ofChange nodeIndexWrong)

/-- 'pantilelaw04.NodeUnlike': WHATEVER THE INPUT: true; the input reads as it did. -/
def nodeUnlikeSpec : ChangeSpec := { name := "nodeUnlike", fn := fun _ => fun
  | [d1, d2, d3] => { results := [.lit (.bool true)], args := [d1, d2, d3] }
  | _ => none }
def nodeUnlikeRow : OpenClaim := { program := "ytnhfkmfmmgaecaadoor", sum := "2ad56b1e741fb99d878b75a4f24c192b9bdcef887a97f57655663ef3a90db9f1", func := "pantile/pantilelaw04.NodeUnlike", spec := "nodeUnlike", unfollowed := true, recurses := true, named := ["unicode/utf8.first", "unicode/utf8.acceptRanges"], apart := false, laid := [("unicode/utf8.acceptRanges", laid_unicode_utf8_acceptRanges), ("unicode/utf8.first", laid_unicode_utf8_first)] }
def NodeUnlikeSaid : Prop := nodeUnlikeRow.holds Tryd.pinned (OpenSpec.ofChange nodeUnlikeSpec)

/-- ITS FALSE NEIGHBOUR: 'it returns false'. Refute it at one input. -/
def nodeUnlikeWrong : ChangeSpec := { name := "nodeUnlike", fn := fun _ => fun
  | [d1, d2, d3] => { results := [.lit (.bool false)], args := [d1, d2, d3] }
  | _ => none }
def NodeUnlikeWrongFalsely : Prop := nodeUnlikeRow.holds Tryd.pinned (OpenSpec.ofChange nodeUnlikeWrong)

/-- 'pantilelaw05.TallyPuts': WHATEVER THE INPUT: true; the input reads as it did. -/
def tallyPutsSpec : ChangeSpec := { name := "tallyPuts", fn := fun _ => fun
  | [d1, d2, d3] => { results := [.lit (.bool true)], args := [d1, d2, d3] }
  | _ => none }
def tallyPutsRow : OpenClaim := { program := "ytnhfkmfmmgaecaadoor", sum := "2ad56b1e741fb99d878b75a4f24c192b9bdcef887a97f57655663ef3a90db9f1", func := "pantile/pantilelaw05.TallyPuts", spec := "tallyPuts", unfollowed := true, recurses := true, named := ["unicode/utf8.first", "unicode/utf8.acceptRanges"], apart := false, laid := [("unicode/utf8.acceptRanges", laid_unicode_utf8_acceptRanges), ("unicode/utf8.first", laid_unicode_utf8_first)] }
def TallyPutsSaid : Prop := tallyPutsRow.holds Tryd.pinned (OpenSpec.ofChange tallyPutsSpec)

/-- ITS FALSE NEIGHBOUR: 'it returns false'. Refute it at one input. -/
def tallyPutsWrong : ChangeSpec := { name := "tallyPuts", fn := fun _ => fun
  | [d1, d2, d3] => { results := [.lit (.bool false)], args := [d1, d2, d3] }
  | _ => none }
def TallyPutsWrongFalsely : Prop := tallyPutsRow.holds Tryd.pinned (OpenSpec.ofChange tallyPutsWrong)

/-- 'pantilelaw05.TallyGets': WHATEVER THE INPUT: true; the input reads as it did. -/
def tallyGetsSpec : ChangeSpec := { name := "tallyGets", fn := fun _ => fun
  | [d1, d2] => { results := [.lit (.bool true)], args := [d1, d2] }
  | _ => none }
def tallyGetsRow : OpenClaim := { program := "ytnhfkmfmmgaecaadoor", sum := "2ad56b1e741fb99d878b75a4f24c192b9bdcef887a97f57655663ef3a90db9f1", func := "pantile/pantilelaw05.TallyGets", spec := "tallyGets", unfollowed := true, recurses := true, named := ["unicode/utf8.first", "unicode/utf8.acceptRanges"], apart := false, laid := [("unicode/utf8.acceptRanges", laid_unicode_utf8_acceptRanges), ("unicode/utf8.first", laid_unicode_utf8_first)] }
def TallyGetsSaid : Prop := tallyGetsRow.holds Tryd.pinned (OpenSpec.ofChange tallyGetsSpec)

/-- ITS FALSE NEIGHBOUR: 'it returns false'. Refute it at one input. -/
def tallyGetsWrong : ChangeSpec := { name := "tallyGets", fn := fun _ => fun
  | [d1, d2] => { results := [.lit (.bool false)], args := [d1, d2] }
  | _ => none }
def TallyGetsWrongFalsely : Prop := tallyGetsRow.holds Tryd.pinned (OpenSpec.ofChange tallyGetsWrong)

/-- 'pantilelaw05.TallyUnlike': WHATEVER THE INPUT: true; the input reads as it did. -/
def tallyUnlikeSpec : ChangeSpec := { name := "tallyUnlike", fn := fun _ => fun
  | [d1, d2, d3] => { results := [.lit (.bool true)], args := [d1, d2, d3] }
  | _ => none }
def tallyUnlikeRow : OpenClaim := { program := "ytnhfkmfmmgaecaadoor", sum := "2ad56b1e741fb99d878b75a4f24c192b9bdcef887a97f57655663ef3a90db9f1", func := "pantile/pantilelaw05.TallyUnlike", spec := "tallyUnlike", unfollowed := true, recurses := true, named := ["unicode/utf8.first", "unicode/utf8.acceptRanges"], apart := false, laid := [("unicode/utf8.acceptRanges", laid_unicode_utf8_acceptRanges), ("unicode/utf8.first", laid_unicode_utf8_first)] }
def TallyUnlikeSaid : Prop := tallyUnlikeRow.holds Tryd.pinned (OpenSpec.ofChange tallyUnlikeSpec)

/-- ITS FALSE NEIGHBOUR: 'it returns false'. Refute it at one input. -/
def tallyUnlikeWrong : ChangeSpec := { name := "tallyUnlike", fn := fun _ => fun
  | [d1, d2, d3] => { results := [.lit (.bool false)], args := [d1, d2, d3] }
  | _ => none }
def TallyUnlikeWrongFalsely : Prop := tallyUnlikeRow.holds Tryd.pinned (OpenSpec.ofChange tallyUnlikeWrong)

/- THE SECOND FORM. 'bulk': how many values and letters a reading holds, each counted each time it is reached (what is shared counts as often as it is met; a slice's spare places count too). A statement '..UptoSaid' is the law's where the arguments, and the package variables that the reading takes, are together of bulk at most 1048576: NARROWER than '..Said'. Prove '..Said' where nothing that the law and all that it calls make is longer than what came in: it says more and counts as full. Else prove '..UptoSaid'. A law counts once. -/
mutual
def uptoBulk {H : Type} : DataW H → Nat
  | .lit (.string bytes) => bytes.length + 1
  | .lit _ => 1
  | .nil => 1
  | .ptr d => uptoBulk d + 1
  | .slice elems spare => uptoBulkAll elems + uptoBulkAll spare + 1
  | .agg parts => uptoBulkAll parts + 1
  | .iface _ d => uptoBulk d + 1
  | .map entries => uptoBulkEntries entries + 1
  | .held _ => 1
def uptoBulkAll {H : Type} : List (DataW H) → Nat
  | [] => 0
  | d :: r => uptoBulk d + uptoBulkAll r
def uptoBulkEntries {H : Type} : List (Lit × DataW H) → Nat
  | [] => 0
  | x :: r => uptoBulkEntry x + uptoBulkEntries r
def uptoBulkEntry {H : Type} : Lit × DataW H → Nat
  | (.string bytes, d) => bytes.length + uptoBulk d + 1
  | (_, d) => uptoBulk d + 1
 end
def uptoSmall : (H : Type) → List (DataW H) → Bool := fun _ ds => decide (uptoBulkAll ds ≤ 1048576)
def OpenSpec.upto (s : _root_.Go.ChangeSpec) : _root_.Go.OpenSpec := { _root_.Go.OpenSpec.ofChange s with cond := some uptoSmall }

/-- 'pantilelaw02.FieldPrefix', WHERE WHAT IT READS IS OF BULK AT MOST 1048576: true; the input reads as it did. -/
def fieldPrefixUptoRow : OpenClaim := { program := "ytnhfkmfmmgaecaadoor", sum := "2ad56b1e741fb99d878b75a4f24c192b9bdcef887a97f57655663ef3a90db9f1", func := "pantile/pantilelaw02.FieldPrefix", spec := "fieldPrefix", unfollowed := true, recurses := true, named := ["unicode/utf8.first", "unicode/utf8.acceptRanges"], apart := false, laid := [("unicode/utf8.acceptRanges", laid_unicode_utf8_acceptRanges), ("unicode/utf8.first", laid_unicode_utf8_first)], narrowed := true }
def FieldPrefixUptoSaid : Prop := fieldPrefixUptoRow.holds Tryd.pinned (OpenSpec.upto fieldPrefixSpec)

/-- 'pantilelaw02.FieldNone', WHERE WHAT IT READS IS OF BULK AT MOST 1048576: true; the input reads as it did. -/
def fieldNoneUptoRow : OpenClaim := { program := "ytnhfkmfmmgaecaadoor", sum := "2ad56b1e741fb99d878b75a4f24c192b9bdcef887a97f57655663ef3a90db9f1", func := "pantile/pantilelaw02.FieldNone", spec := "fieldNone", unfollowed := true, recurses := true, named := ["unicode/utf8.first", "unicode/utf8.acceptRanges"], apart := false, laid := [("unicode/utf8.acceptRanges", laid_unicode_utf8_acceptRanges), ("unicode/utf8.first", laid_unicode_utf8_first)], narrowed := true }
def FieldNoneUptoSaid : Prop := fieldNoneUptoRow.holds Tryd.pinned (OpenSpec.upto fieldNoneSpec)

/-- 'pantilelaw07.SlotPuts', WHERE WHAT IT READS IS OF BULK AT MOST 1048576: true; the input reads as it did. -/
def slotPutsUptoRow : OpenClaim := { program := "ytnhfkmfmmgaecaadoor", sum := "2ad56b1e741fb99d878b75a4f24c192b9bdcef887a97f57655663ef3a90db9f1", func := "pantile/pantilelaw07.SlotPuts", spec := "slotPuts", unfollowed := true, recurses := true, named := ["unicode/utf8.first", "unicode/utf8.acceptRanges"], apart := false, laid := [("unicode/utf8.acceptRanges", laid_unicode_utf8_acceptRanges), ("unicode/utf8.first", laid_unicode_utf8_first)], narrowed := true }
def SlotPutsUptoSaid : Prop := slotPutsUptoRow.holds Tryd.pinned (OpenSpec.upto slotPutsSpec)

/-- 'pantilelaw07.SlotGets', WHERE WHAT IT READS IS OF BULK AT MOST 1048576: true; the input reads as it did. -/
def slotGetsUptoRow : OpenClaim := { program := "ytnhfkmfmmgaecaadoor", sum := "2ad56b1e741fb99d878b75a4f24c192b9bdcef887a97f57655663ef3a90db9f1", func := "pantile/pantilelaw07.SlotGets", spec := "slotGets", unfollowed := true, recurses := true, named := ["unicode/utf8.first", "unicode/utf8.acceptRanges"], apart := false, laid := [("unicode/utf8.acceptRanges", laid_unicode_utf8_acceptRanges), ("unicode/utf8.first", laid_unicode_utf8_first)], narrowed := true }
def SlotGetsUptoSaid : Prop := slotGetsUptoRow.holds Tryd.pinned (OpenSpec.upto slotGetsSpec)

/-- 'pantilelaw07.SlotTorn', WHERE WHAT IT READS IS OF BULK AT MOST 1048576: true; the input reads as it did. -/
def slotTornUptoRow : OpenClaim := { program := "ytnhfkmfmmgaecaadoor", sum := "2ad56b1e741fb99d878b75a4f24c192b9bdcef887a97f57655663ef3a90db9f1", func := "pantile/pantilelaw07.SlotTorn", spec := "slotTorn", unfollowed := true, recurses := true, named := ["unicode/utf8.first", "unicode/utf8.acceptRanges"], apart := false, laid := [("unicode/utf8.acceptRanges", laid_unicode_utf8_acceptRanges), ("unicode/utf8.first", laid_unicode_utf8_first)], narrowed := true }
def SlotTornUptoSaid : Prop := slotTornUptoRow.holds Tryd.pinned (OpenSpec.upto slotTornSpec)

/-- 'pantilelaw04.NodePuts', WHERE WHAT IT READS IS OF BULK AT MOST 1048576: true; the input reads as it did. -/
def nodePutsUptoRow : OpenClaim := { program := "ytnhfkmfmmgaecaadoor", sum := "2ad56b1e741fb99d878b75a4f24c192b9bdcef887a97f57655663ef3a90db9f1", func := "pantile/pantilelaw04.NodePuts", spec := "nodePuts", unfollowed := true, recurses := true, named := ["unicode/utf8.first", "unicode/utf8.acceptRanges"], apart := false, laid := [("unicode/utf8.acceptRanges", laid_unicode_utf8_acceptRanges), ("unicode/utf8.first", laid_unicode_utf8_first)], narrowed := true }
def NodePutsUptoSaid : Prop := nodePutsUptoRow.holds Tryd.pinned (OpenSpec.upto nodePutsSpec)

/-- 'pantilelaw04.NodeGets', WHERE WHAT IT READS IS OF BULK AT MOST 1048576: true; the input reads as it did. -/
def nodeGetsUptoRow : OpenClaim := { program := "ytnhfkmfmmgaecaadoor", sum := "2ad56b1e741fb99d878b75a4f24c192b9bdcef887a97f57655663ef3a90db9f1", func := "pantile/pantilelaw04.NodeGets", spec := "nodeGets", unfollowed := true, recurses := true, named := ["unicode/utf8.first", "unicode/utf8.acceptRanges"], apart := false, laid := [("unicode/utf8.acceptRanges", laid_unicode_utf8_acceptRanges), ("unicode/utf8.first", laid_unicode_utf8_first)], narrowed := true }
def NodeGetsUptoSaid : Prop := nodeGetsUptoRow.holds Tryd.pinned (OpenSpec.upto nodeGetsSpec)

/-- 'pantilelaw04.NodeIndex', WHERE WHAT IT READS IS OF BULK AT MOST 1048576: true; the input reads as it did. -/
def nodeIndexUptoRow : OpenClaim := { program := "ytnhfkmfmmgaecaadoor", sum := "2ad56b1e741fb99d878b75a4f24c192b9bdcef887a97f57655663ef3a90db9f1", func := "pantile/pantilelaw04.NodeIndex", spec := "nodeIndex", unfollowed := true, recurses := true, named := ["unicode/utf8.first", "unicode/utf8.acceptRanges"], apart := false, laid := [("unicode/utf8.acceptRanges", laid_unicode_utf8_acceptRanges), ("unicode/utf8.first", laid_unicode_utf8_first)], narrowed := true }
def NodeIndexUptoSaid : Prop := nodeIndexUptoRow.holds Tryd.pinned (OpenSpec.upto nodeIndexSpec)

/-- 'pantilelaw04.NodeUnlike', WHERE WHAT IT READS IS OF BULK AT MOST 1048576: true; the input reads as it did. -/
def nodeUnlikeUptoRow : OpenClaim := { program := "ytnhfkmfmmgaecaadoor", sum := "2ad56b1e741fb99d878b75a4f24c192b9bdcef887a97f57655663ef3a90db9f1", func := "pantile/pantilelaw04.NodeUnlike", spec := "nodeUnlike", unfollowed := true, recurses := true, named := ["unicode/utf8.first", "unicode/utf8.acceptRanges"], apart := false, laid := [("unicode/utf8.acceptRanges", laid_unicode_utf8_acceptRanges), ("unicode/utf8.first", laid_unicode_utf8_first)], narrowed := true }
def NodeUnlikeUptoSaid : Prop := nodeUnlikeUptoRow.holds Tryd.pinned (OpenSpec.upto nodeUnlikeSpec)

/-- 'pantilelaw05.TallyPuts', WHERE WHAT IT READS IS OF BULK AT MOST 1048576: true; the input reads as it did. -/
def tallyPutsUptoRow : OpenClaim := { program := "ytnhfkmfmmgaecaadoor", sum := "2ad56b1e741fb99d878b75a4f24c192b9bdcef887a97f57655663ef3a90db9f1", func := "pantile/pantilelaw05.TallyPuts", spec := "tallyPuts", unfollowed := true, recurses := true, named := ["unicode/utf8.first", "unicode/utf8.acceptRanges"], apart := false, laid := [("unicode/utf8.acceptRanges", laid_unicode_utf8_acceptRanges), ("unicode/utf8.first", laid_unicode_utf8_first)], narrowed := true }
def TallyPutsUptoSaid : Prop := tallyPutsUptoRow.holds Tryd.pinned (OpenSpec.upto tallyPutsSpec)

/-- 'pantilelaw05.TallyGets', WHERE WHAT IT READS IS OF BULK AT MOST 1048576: true; the input reads as it did. -/
def tallyGetsUptoRow : OpenClaim := { program := "ytnhfkmfmmgaecaadoor", sum := "2ad56b1e741fb99d878b75a4f24c192b9bdcef887a97f57655663ef3a90db9f1", func := "pantile/pantilelaw05.TallyGets", spec := "tallyGets", unfollowed := true, recurses := true, named := ["unicode/utf8.first", "unicode/utf8.acceptRanges"], apart := false, laid := [("unicode/utf8.acceptRanges", laid_unicode_utf8_acceptRanges), ("unicode/utf8.first", laid_unicode_utf8_first)], narrowed := true }
def TallyGetsUptoSaid : Prop := tallyGetsUptoRow.holds Tryd.pinned (OpenSpec.upto tallyGetsSpec)

/-- 'pantilelaw05.TallyUnlike', WHERE WHAT IT READS IS OF BULK AT MOST 1048576: true; the input reads as it did. -/
def tallyUnlikeUptoRow : OpenClaim := { program := "ytnhfkmfmmgaecaadoor", sum := "2ad56b1e741fb99d878b75a4f24c192b9bdcef887a97f57655663ef3a90db9f1", func := "pantile/pantilelaw05.TallyUnlike", spec := "tallyUnlike", unfollowed := true, recurses := true, named := ["unicode/utf8.first", "unicode/utf8.acceptRanges"], apart := false, laid := [("unicode/utf8.acceptRanges", laid_unicode_utf8_acceptRanges), ("unicode/utf8.first", laid_unicode_utf8_first)], narrowed := true }
def TallyUnlikeUptoSaid : Prop := tallyUnlikeUptoRow.holds Tryd.pinned (OpenSpec.upto tallyUnlikeSpec)

end Rows
end Go.Proofs.YtnhfkmfmmgaecaaDoor
