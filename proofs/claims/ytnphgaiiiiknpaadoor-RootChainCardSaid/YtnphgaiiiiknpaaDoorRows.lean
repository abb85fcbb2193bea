/-
  NARROWER THAN 'FOR EVERY INPUT', by the rows' own cells (each row's printed sentence says how): RootPlans: laid · RootChain: laid · RootFormats: laid · RootCrashes: laid.
  DERIVED. THE GIVEN ROWS OF THIS SEAT. 4 by the template 'for every input the law returns true; each argument reads behind the call as it read before'; 0 by the template 'total and deterministic' (their statements: YtnphgaiiiiknpaaDoorTotals.lean).
  GIVEN WITH THE SEED: the statements are not yours to turn. If you find one false, say at which input.
  Laid BY PROGRAM, IN A SANDBOX (cutbox-rows.mjs): the forced cells as the released guide's own fill.sh prints them over the translation b4c6f662614ba5d5… (all of the seat's roots in one cut). By AI agents, Wed Nov 11 2026. No macro, syntax, notation, axiom, sorry.
-/
import Derived.Test.YtnphgaiiiiknpaaDoorChecked
import GoSem.PinnedTables
import GoSem.Claim
import GoSem.ClaimJoined
import GoSem.ClaimMapViews
import Derived.JoinedTies
import Derived.KernelRfl
namespace Go.Proofs.YtnphgaiiiiknpaaDoor
/- THE CELL 'sum', in the pinned program and in every row, IS THE sha256 OF THE DUMP (.gsa) THAT YtnphgaiiiiknpaaDoorProg.lean LOADS. Nothing in Lean hashes anything: it is a label: what it is worth is what the hold of that sum in a sandbox is worth. -/
noncomputable def Tryd.pinned : Pinned := { name := "ytnphgaiiiiknpaadoor", sum := "b4c6f662614ba5d5db4aada83841a4e11330a0c906684586d7d32d386db4a16e", checked := Tryd.checked }
namespace Rows
def none {H : Type} : Left H := { results := [], args := [] }

/- WHAT THE LISTED PACKAGE-LEVEL VARIABLES READ AS WHEN THE CALL BEGINS. Each datum BY PROGRAM (the guide's laid-datum.mjs) off the statement by which the dump's own 'gosem.cut.vars' lays the variable. In a bare row this is a premise. The card (YtnphgaiiiiknpaaDoorCards.lean) ties it to the program's text. -/
def laid_unicode_utf8_acceptRanges {H : Type} : DataW H := .agg [.agg [.lit (.int .u8 128), .lit (.int .u8 191)], .agg [.lit (.int .u8 160), .lit (.int .u8 191)], .agg [.lit (.int .u8 128), .lit (.int .u8 159)], .agg [.lit (.int .u8 144), .lit (.int .u8 191)], .agg [.lit (.int .u8 128), .lit (.int .u8 143)], .agg [.lit (.int .u8 0), .lit (.int .u8 0)], .agg [.lit (.int .u8 0), .lit (.int .u8 0)], .agg [.lit (.int .u8 0), .lit (.int .u8 0)], .agg [.lit (.int .u8 0), .lit (.int .u8 0)], .agg [.lit (.int .u8 0), .lit (.int .u8 0)], .agg [.lit (.int .u8 0), .lit (.int .u8 0)], .agg [.lit (.int .u8 0), .lit (.int .u8 0)], .agg [.lit (.int .u8 0), .lit (.int .u8 0)], .agg [.lit (.int .u8 0), .lit (.int .u8 0)], .agg [.lit (.int .u8 0), .lit (.int .u8 0)], .agg [.lit (.int .u8 0), .lit (.int .u8 0)]]
/-- One of Go's own tables, pinned by name: the form's constant. -/
def laid_unicode_utf8_first : DataW Unit := Go.Pinned.utf8First

/-- 'pantilelaw08.RootPlans': WHATEVER THE INPUT: true; the input reads as it did. -/
def rootPlansSpec : ChangeSpec := { name := "rootPlans", fn := fun _ => fun
  | [d] => { results := [.lit (.bool true)], args := [d] }
  | _ => none }
def rootPlansRow : OpenClaim := { program := "ytnphgaiiiiknpaadoor", sum := "b4c6f662614ba5d5db4aada83841a4e11330a0c906684586d7d32d386db4a16e", func := "pantile/pantilelaw08.RootPlans", spec := "rootPlans", unfollowed := true, recurses := true, named := ["unicode/utf8.first", "unicode/utf8.acceptRanges"], apart := false, laid := [("unicode/utf8.acceptRanges", laid_unicode_utf8_acceptRanges), ("unicode/utf8.first", laid_unicode_utf8_first)] }
def RootPlansSaid : Prop := rootPlansRow.holds Tryd.pinned (OpenSpec.ofChange rootPlansSpec)

/-- ITS FALSE NEIGHBOUR: 'it returns false'. Refute it at one input. -/
def rootPlansWrong : ChangeSpec := { name := "rootPlans", fn := fun _ => fun
  | [d] => { results := [.lit (.bool false)], args := [d] }
  | _ => none }
def RootPlansWrongFalsely : Prop := rootPlansRow.holds Tryd.pinned (OpenSpec.ofChange rootPlansWrong)

/-- 'pantilelaw08.RootChain': WHATEVER THE INPUT: true; the input reads as it did. -/
def rootChainSpec : ChangeSpec := { name := "rootChain", fn := fun _ => fun
  | [d1, d2, d3] => { results := [.lit (.bool true)], args := [d1, d2, d3] }
  | _ => none }
def rootChainRow : OpenClaim := { program := "ytnphgaiiiiknpaadoor", sum := "b4c6f662614ba5d5db4aada83841a4e11330a0c906684586d7d32d386db4a16e", func := "pantile/pantilelaw08.RootChain", spec := "rootChain", unfollowed := true, recurses := true, named := ["unicode/utf8.first", "unicode/utf8.acceptRanges"], apart := false, laid := [("unicode/utf8.acceptRanges", laid_unicode_utf8_acceptRanges), ("unicode/utf8.first", laid_unicode_utf8_first)] }
def RootChainSaid : Prop := rootChainRow.holds Tryd.pinned (OpenSpec.ofChange rootChainSpec)

/-- ITS FALSE NEIGHBOUR: 'it returns false'. Refute it at one input. -/
def rootChainWrong : ChangeSpec := { name := "rootChain", fn := fun _ => fun
  | [d1, d2, d3] => { results := [.lit (.bool false)], args := [d1, d2, d3] }
  | _ => none }
def RootChainWrongFalsely : Prop := rootChainRow.holds Tryd.pinned (OpenSpec.ofChange rootChainWrong)

/-- 'pantilelaw08.RootFormats': WHATEVER THE INPUT: true; the input reads as it did. -/
def rootFormatsSpec : ChangeSpec := { name := "rootFormats", fn := fun _ => fun
  | [d1, d2] => { results := [.lit (.bool true)], args := [d1, d2] }
  | _ => none }
def rootFormatsRow : OpenClaim := { program := "ytnphgaiiiiknpaadoor", sum := "b4c6f662614ba5d5db4aada83841a4e11330a0c906684586d7d32d386db4a16e", func := "pantile/pantilelaw08.RootFormats", spec := "rootFormats", inPlace := ["maps.clone"], unfollowed := true, recurses := true, named := ["unicode/utf8.first", "unicode/utf8.acceptRanges"], apart := false, laid := [("unicode/utf8.acceptRanges", laid_unicode_utf8_acceptRanges), ("unicode/utf8.first", laid_unicode_utf8_first)] }
def RootFormatsSaid : Prop := rootFormatsRow.holds Tryd.pinned (OpenSpec.ofChange rootFormatsSpec)

/-- ITS FALSE NEIGHBOUR: 'it returns false'. Refute it at one input. -/
def rootFormatsWrong : ChangeSpec := { name := "rootFormats", fn := fun _ => fun
  | [d1, d2] => { results := [.lit (.bool false)], args := [d1, d2] }
  | _ => none }
def RootFormatsWrongFalsely : Prop := rootFormatsRow.holds Tryd.pinned (OpenSpec.ofChange rootFormatsWrong)

/-- 'pantilelaw08.RootCrashes': WHATEVER THE INPUT: true; the input reads as it did. -/
def rootCrashesSpec : ChangeSpec := { name := "rootCrashes", fn := fun _ => fun
  | [d1, d2, d3] => { results := [.lit (.bool true)], args := [d1, d2, d3] }
  | _ => none }
def rootCrashesRow : OpenClaim := { program := "ytnphgaiiiiknpaadoor", sum := "b4c6f662614ba5d5db4aada83841a4e11330a0c906684586d7d32d386db4a16e", func := "pantile/pantilelaw08.RootCrashes", spec := "rootCrashes", inPlace := ["maps.clone"], unfollowed := true, recurses := true, named := ["unicode/utf8.first", "unicode/utf8.acceptRanges"], apart := false, laid := [("unicode/utf8.acceptRanges", laid_unicode_utf8_acceptRanges), ("unicode/utf8.first", laid_unicode_utf8_first)] }
def RootCrashesSaid : Prop := rootCrashesRow.holds Tryd.pinned (OpenSpec.ofChange rootCrashesSpec)

/-- ITS FALSE NEIGHBOUR: 'it returns false'. Refute it at one input. -/
def rootCrashesWrong : ChangeSpec := { name := "rootCrashes", fn := fun _ => fun
  | [d1, d2, d3] => { results := [.lit (.bool false)], args := [d1, d2, d3] }
  | _ => none }
def RootCrashesWrongFalsely : Prop := rootCrashesRow.holds Tryd.pinned (OpenSpec.ofChange rootCrashesWrong)

/- THE SECOND FORM. 'bulk': how many values and letters a reading holds, each counted each time it is reached (what is shared counts as often as it is met; a slice's spare places count too). A statement '..UptoSaid' is the law's where the arguments, and the package variables that the reading takes, are together of bulk at most 1048576: NARROWER than '..Said'. Prove '..Said' where nothing that the law and all that it calls make is longer than what came in: it says more and counts as full. Else prove '..UptoSaid'. A law counts once. -/
mutual
def uptoBulk {H : Type} : DataW H → Nat
  | .lit (.string bytes) => bytes.length + 1
  | .lit _ => 1
  | .nil => 1
  | .ptr d => uptoBulk d + 1
  | .slice elems spare => uptoBulkAll elems + uptoBulkAll spare + 1
  | .agg parts => uptoBulkAll parts + 1
  | .iface _ d => uptoBulk d + 1
  | .map entries => uptoBulkEntries entries + 1
  | .held _ => 1
def uptoBulkAll {H : Type} : List (DataW H) → Nat
  | [] => 0
  | d :: r => uptoBulk d + uptoBulkAll r
def uptoBulkEntries {H : Type} : List (Lit × DataW H) → Nat
  | [] => 0
  | x :: r => uptoBulkEntry x + uptoBulkEntries r
def uptoBulkEntry {H : Type} : Lit × DataW H → Nat
  | (.string bytes, d) => bytes.length + uptoBulk d + 1
  | (_, d) => uptoBulk d + 1
 end
def uptoSmall : (H : Type) → List (DataW H) → Bool := fun _ ds => decide (uptoBulkAll ds ≤ 1048576)
def OpenSpec.upto (s : _root_.Go.ChangeSpec) : _root_.Go.OpenSpec := { _root_.Go.OpenSpec.ofChange s with cond := some uptoSmall }

/-- 'pantilelaw08.RootPlans', WHERE WHAT IT READS IS OF BULK AT MOST 1048576: true; the input reads as it did. -/
def rootPlansUptoRow : OpenClaim := { program := "ytnphgaiiiiknpaadoor", sum := "b4c6f662614ba5d5db4aada83841a4e11330a0c906684586d7d32d386db4a16e", func := "pantile/pantilelaw08.RootPlans", spec := "rootPlans", unfollowed := true, recurses := true, named := ["unicode/utf8.first", "unicode/utf8.acceptRanges"], apart := false, laid := [("unicode/utf8.acceptRanges", laid_unicode_utf8_acceptRanges), ("unicode/utf8.first", laid_unicode_utf8_first)], narrowed := true }
def RootPlansUptoSaid : Prop := rootPlansUptoRow.holds Tryd.pinned (OpenSpec.upto rootPlansSpec)

/-- 'pantilelaw08.RootChain', WHERE WHAT IT READS IS OF BULK AT MOST 1048576: true; the input reads as it did. -/
def rootChainUptoRow : OpenClaim := { program := "ytnphgaiiiiknpaadoor", sum := "b4c6f662614ba5d5db4aada83841a4e11330a0c906684586d7d32d386db4a16e", func := "pantile/pantilelaw08.RootChain", spec := "rootChain", unfollowed := true, recurses := true, named := ["unicode/utf8.first", "unicode/utf8.acceptRanges"], apart := false, laid := [("unicode/utf8.acceptRanges", laid_unicode_utf8_acceptRanges), ("unicode/utf8.first", laid_unicode_utf8_first)], narrowed := true }
def RootChainUptoSaid : Prop := rootChainUptoRow.holds Tryd.pinned (OpenSpec.upto rootChainSpec)

/-- 'pantilelaw08.RootFormats', WHERE WHAT IT READS IS OF BULK AT MOST 1048576: true; the input reads as it did. -/
def rootFormatsUptoRow : OpenClaim := { program := "ytnphgaiiiiknpaadoor", sum := "b4c6f662614ba5d5db4aada83841a4e11330a0c906684586d7d32d386db4a16e", func := "pantile/pantilelaw08.RootFormats", spec := "rootFormats", inPlace := ["maps.clone"], unfollowed := true, recurses := true, named := ["unicode/utf8.first", "unicode/utf8.acceptRanges"], apart := false, laid := [("unicode/utf8.acceptRanges", laid_unicode_utf8_acceptRanges), ("unicode/utf8.first", laid_unicode_utf8_first)], narrowed := true }
def RootFormatsUptoSaid : Prop := rootFormatsUptoRow.holds Tryd.pinned (OpenSpec.upto rootFormatsSpec)

/-- 'pantilelaw08.RootCrashes', WHERE WHAT IT READS IS OF BULK AT MOST 1048576: true; the input reads as it did. -/
def rootCrashesUptoRow : OpenClaim := { program := "ytnphgaiiiiknpaadoor", sum := "b4c6f662614ba5d5db4aada83841a4e11330a0c906684586d7d32d386db4a16e", func := "pantile/pantilelaw08.RootCrashes", spec := "rootCrashes", inPlace := ["maps.clone"], unfollowed := true, recurses := true, named := ["unicode/utf8.first", "unicode/utf8.acceptRanges"], apart := false, laid := [("unicode/utf8.acceptRanges", laid_unicode_utf8_acceptRanges), ("unicode/utf8.first", laid_unicode_utf8_first)], narrowed := true }
def RootCrashesUptoSaid : Prop := rootCrashesUptoRow.holds Tryd.pinned (OpenSpec.upto rootCrashesSpec)

end Rows
end Go.Proofs.YtnphgaiiiiknpaaDoor
