/-
  NARROWER THAN 'FOR EVERY INPUT', by the rows' own cells (each row's printed sentence says how): ShelfKeeps: laid · ShelfOrder: laid · ShelfPlays: laid · ShelfClasses: laid · ShelfGets: laid.
  DERIVED. THE GIVEN ROWS OF THIS SEAT. 5 by the template 'for every input the law returns true; each argument reads behind the call as it read before'; 0 by the template 'total and deterministic' (their statements: YtcepfmjebgklfaaDoorTotals.lean).
  GIVEN WITH THE SEED: the statements are not yours to turn. If you find one false, say at which input.
  Laid BY PROGRAM, IN A SANDBOX (cutbox-rows.mjs): the forced cells as the released guide's own fill.sh prints them over the translation c4ee70cde76fd8f7… (all of the seat's roots in one cut). By AI agents, Wed Nov 11 2026. No macro, syntax, notation, axiom, sorry.
-/
import Derived.Test.YtcepfmjebgklfaaDoorChecked
import GoSem.PinnedTables
import GoSem.Claim
import GoSem.ClaimJoined
import GoSem.ClaimMapViews
import Derived.JoinedTies
import Derived.KernelRfl
namespace Go.Proofs.YtcepfmjebgklfaaDoor
/- THE CELL 'sum', in the pinned program and in every row, IS THE sha256 OF THE DUMP (.gsa) THAT YtcepfmjebgklfaaDoorProg.lean LOADS. Nothing in Lean hashes anything: it is a label: what it is worth is what the hold of that sum in a sandbox is worth. -/
noncomputable def Tryd.pinned : Pinned := { name := "ytcepfmjebgklfaadoor", sum := "c4ee70cde76fd8f7ee0c96e4a64d189b757e194823e5f99485d2ba8e002c0dd5", checked := Tryd.checked }
namespace Rows
def none {H : Type} : Left H := { results := [], args := [] }

/- WHAT THE LISTED PACKAGE-LEVEL VARIABLES READ AS WHEN THE CALL BEGINS. Each datum BY PROGRAM (the guide's laid-datum.mjs) off the statement by which the dump's own 'gosem.cut.vars' lays the variable. In a bare row this is a premise. The card (YtcepfmjebgklfaaDoorCards.lean) ties it to the program's text. -/
def laid_pantile_shelf_classes {H : Type} : DataW H := .agg [.agg [.lit (.int .i64 8), .lit (.int .i64 14)], .agg [.lit (.int .i64 16), .lit (.int .i64 9)], .agg [.lit (.int .i64 24), .lit (.int .i64 7)], .agg [.lit (.int .i64 40), .lit (.int .i64 5)], .agg [.lit (.int .i64 72), .lit (.int .i64 3)], .agg [.lit (.int .i64 114), .lit (.int .i64 2)], .agg [.lit (.int .i64 237), .lit (.int .i64 1)]]
def laid_unicode_utf8_acceptRanges {H : Type} : DataW H := .agg [.agg [.lit (.int .u8 128), .lit (.int .u8 191)], .agg [.lit (.int .u8 160), .lit (.int .u8 191)], .agg [.lit (.int .u8 128), .lit (.int .u8 159)], .agg [.lit (.int .u8 144), .lit (.int .u8 191)], .agg [.lit (.int .u8 128), .lit (.int .u8 143)], .agg [.lit (.int .u8 0), .lit (.int .u8 0)], .agg [.lit (.int .u8 0), .lit (.int .u8 0)], .agg [.lit (.int .u8 0), .lit (.int .u8 0)], .agg [.lit (.int .u8 0), .lit (.int .u8 0)], .agg [.lit (.int .u8 0), .lit (.int .u8 0)], .agg [.lit (.int .u8 0), .lit (.int .u8 0)], .agg [.lit (.int .u8 0), .lit (.int .u8 0)], .agg [.lit (.int .u8 0), .lit (.int .u8 0)], .agg [.lit (.int .u8 0), .lit (.int .u8 0)], .agg [.lit (.int .u8 0), .lit (.int .u8 0)], .agg [.lit (.int .u8 0), .lit (.int .u8 0)]]
/-- One of Go's own tables, pinned by name: the form's constant. -/
def laid_unicode_utf8_first : DataW Unit := Go.Pinned.utf8First

/-- 'pantilelaw18.ShelfKeeps': WHATEVER THE INPUT: true; the input reads as it did. -/
def shelfKeepsSpec : ChangeSpec := { name := "shelfKeeps", fn := fun _ => fun
  | [d1, d2] => { results := [.lit (.bool true)], args := [d1, d2] }
  | _ => none }
def shelfKeepsRow : OpenClaim := { program := "ytcepfmjebgklfaadoor", sum := "c4ee70cde76fd8f7ee0c96e4a64d189b757e194823e5f99485d2ba8e002c0dd5", func := "pantile/pantilelaw18.ShelfKeeps", spec := "shelfKeeps", unfollowed := true, recurses := true, named := ["pantile/shelf.classes"], apart := false, laid := [("pantile/shelf.classes", laid_pantile_shelf_classes)] }
def ShelfKeepsSaid : Prop := shelfKeepsRow.holds Tryd.pinned (OpenSpec.ofChange shelfKeepsSpec)

/-- ITS FALSE NEIGHBOUR: 'it returns false'. Refute it at one input. -/
def shelfKeepsWrong : ChangeSpec := { name := "shelfKeeps", fn := fun _ => fun
  | [d1, d2] => { results := [.lit (.bool false)], args := [d1, d2] }
  | _ => none }
def ShelfKeepsWrongFalsely : Prop := shelfKeepsRow.holds Tryd.pinned (OpenSpec.ofChange shelfKeepsWrong)

/-- 'pantilelaw18.ShelfOrder': WHATEVER THE INPUT: true; the input reads as it did. -/
def shelfOrderSpec : ChangeSpec := { name := "shelfOrder", fn := fun _ => fun
  | [d1, d2] => { results := [.lit (.bool true)], args := [d1, d2] }
  | _ => none }
def shelfOrderRow : OpenClaim := { program := "ytcepfmjebgklfaadoor", sum := "c4ee70cde76fd8f7ee0c96e4a64d189b757e194823e5f99485d2ba8e002c0dd5", func := "pantile/pantilelaw18.ShelfOrder", spec := "shelfOrder", unfollowed := true, recurses := true, named := ["pantile/shelf.classes"], apart := false, laid := [("pantile/shelf.classes", laid_pantile_shelf_classes)] }
def ShelfOrderSaid : Prop := shelfOrderRow.holds Tryd.pinned (OpenSpec.ofChange shelfOrderSpec)

/-- ITS FALSE NEIGHBOUR: 'it returns false'. Refute it at one input. -/
def shelfOrderWrong : ChangeSpec := { name := "shelfOrder", fn := fun _ => fun
  | [d1, d2] => { results := [.lit (.bool false)], args := [d1, d2] }
  | _ => none }
def ShelfOrderWrongFalsely : Prop := shelfOrderRow.holds Tryd.pinned (OpenSpec.ofChange shelfOrderWrong)

/-- 'pantilelaw18.ShelfPlays': WHATEVER THE INPUT: true; the input reads as it did. -/
def shelfPlaysSpec : ChangeSpec := { name := "shelfPlays", fn := fun _ => fun
  | [d1, d2] => { results := [.lit (.bool true)], args := [d1, d2] }
  | _ => none }
def shelfPlaysRow : OpenClaim := { program := "ytcepfmjebgklfaadoor", sum := "c4ee70cde76fd8f7ee0c96e4a64d189b757e194823e5f99485d2ba8e002c0dd5", func := "pantile/pantilelaw18.ShelfPlays", spec := "shelfPlays", unfollowed := true, recurses := true, named := ["pantile/shelf.classes"], apart := false, laid := [("pantile/shelf.classes", laid_pantile_shelf_classes)] }
def ShelfPlaysSaid : Prop := shelfPlaysRow.holds Tryd.pinned (OpenSpec.ofChange shelfPlaysSpec)

/-- ITS FALSE NEIGHBOUR: 'it returns false'. Refute it at one input. -/
def shelfPlaysWrong : ChangeSpec := { name := "shelfPlays", fn := fun _ => fun
  | [d1, d2] => { results := [.lit (.bool false)], args := [d1, d2] }
  | _ => none }
def ShelfPlaysWrongFalsely : Prop := shelfPlaysRow.holds Tryd.pinned (OpenSpec.ofChange shelfPlaysWrong)

/-- 'pantilelaw18.ShelfClasses': WHATEVER THE INPUT: true; the input reads as it did. -/
def shelfClassesSpec : ChangeSpec := { name := "shelfClasses", fn := fun _ => fun
  | [d1, d2] => { results := [.lit (.bool true)], args := [d1, d2] }
  | _ => none }
def shelfClassesRow : OpenClaim := { program := "ytcepfmjebgklfaadoor", sum := "c4ee70cde76fd8f7ee0c96e4a64d189b757e194823e5f99485d2ba8e002c0dd5", func := "pantile/pantilelaw18.ShelfClasses", spec := "shelfClasses", unfollowed := true, recurses := true, named := ["pantile/shelf.classes"], apart := false, laid := [("pantile/shelf.classes", laid_pantile_shelf_classes)] }
def ShelfClassesSaid : Prop := shelfClassesRow.holds Tryd.pinned (OpenSpec.ofChange shelfClassesSpec)

/-- ITS FALSE NEIGHBOUR: 'it returns false'. Refute it at one input. -/
def shelfClassesWrong : ChangeSpec := { name := "shelfClasses", fn := fun _ => fun
  | [d1, d2] => { results := [.lit (.bool false)], args := [d1, d2] }
  | _ => none }
def ShelfClassesWrongFalsely : Prop := shelfClassesRow.holds Tryd.pinned (OpenSpec.ofChange shelfClassesWrong)

/-- 'pantilelaw18.ShelfGets': WHATEVER THE INPUT: true; the input reads as it did. -/
def shelfGetsSpec : ChangeSpec := { name := "shelfGets", fn := fun _ => fun
  | [d1, d2] => { results := [.lit (.bool true)], args := [d1, d2] }
  | _ => none }
def shelfGetsRow : OpenClaim := { program := "ytcepfmjebgklfaadoor", sum := "c4ee70cde76fd8f7ee0c96e4a64d189b757e194823e5f99485d2ba8e002c0dd5", func := "pantile/pantilelaw18.ShelfGets", spec := "shelfGets", unfollowed := true, recurses := true, named := ["pantile/shelf.classes", "unicode/utf8.first", "unicode/utf8.acceptRanges"], apart := false, laid := [("unicode/utf8.acceptRanges", laid_unicode_utf8_acceptRanges), ("pantile/shelf.classes", laid_pantile_shelf_classes), ("unicode/utf8.first", laid_unicode_utf8_first)] }
def ShelfGetsSaid : Prop := shelfGetsRow.holds Tryd.pinned (OpenSpec.ofChange shelfGetsSpec)

/-- ITS FALSE NEIGHBOUR: 'it returns false'. Refute it at one input. -/
def shelfGetsWrong : ChangeSpec := { name := "shelfGets", fn := fun _ => fun
  | [d1, d2] => { results := [.lit (.bool false)], args := [d1, d2] }
  | _ => none }
def ShelfGetsWrongFalsely : Prop := shelfGetsRow.holds Tryd.pinned (OpenSpec.ofChange shelfGetsWrong)

/- THE SECOND FORM. 'bulk': how many values and letters a reading holds, each counted each time it is reached (what is shared counts as often as it is met; a slice's spare places count too). A statement '..UptoSaid' is the law's where the arguments, and the package variables that the reading takes, are together of bulk at most 1048576: NARROWER than '..Said'. Prove '..Said' where nothing that the law and all that it calls make is longer than what came in: it says more and counts as full. Else prove '..UptoSaid'. A law counts once. -/
mutual
def uptoBulk {H : Type} : DataW H → Nat
  | .lit (.string bytes) => bytes.length + 1
  | .lit _ => 1
  | .nil => 1
  | .ptr d => uptoBulk d + 1
  | .slice elems spare => uptoBulkAll elems + uptoBulkAll spare + 1
  | .agg parts => uptoBulkAll parts + 1
  | .iface _ d => uptoBulk d + 1
  | .map entries => uptoBulkEntries entries + 1
  | .held _ => 1
def uptoBulkAll {H : Type} : List (DataW H) → Nat
  | [] => 0
  | d :: r => uptoBulk d + uptoBulkAll r
def uptoBulkEntries {H : Type} : List (Lit × DataW H) → Nat
  | [] => 0
  | x :: r => uptoBulkEntry x + uptoBulkEntries r
def uptoBulkEntry {H : Type} : Lit × DataW H → Nat
  | (.string bytes, d) => bytes.length + uptoBulk d + 1
  | (_, d) => uptoBulk d + 1
 end
def uptoSmall : (H : Type) → List (DataW H) → Bool := fun _ ds => decide (uptoBulkAll ds ≤ 1048576)
def OpenSpec.upto (s : _root_.Go.ChangeSpec) : _root_.Go.OpenSpec := { _root_.Go.OpenSpec.ofChange s with cond := some uptoSmall }

/-- 'pantilelaw18.ShelfKeeps', WHERE WHAT IT READS IS OF BULK AT MOST 1048576: true; the input reads as it did. -/
def shelfKeepsUptoRow : OpenClaim := { program := "ytcepfmjebgklfaadoor", sum := "c4ee70cde76fd8f7ee0c96e4a64d189b757e194823e5f99485d2ba8e002c0dd5", func := "pantile/pantilelaw18.ShelfKeeps", spec := "shelfKeeps", unfollowed := true, recurses := true, named := ["pantile/shelf.classes"], apart := false, laid := [("pantile/shelf.classes", laid_pantile_shelf_classes)], narrowed := true }
def ShelfKeepsUptoSaid : Prop := shelfKeepsUptoRow.holds Tryd.pinned (OpenSpec.upto shelfKeepsSpec)

/-- 'pantilelaw18.ShelfOrder', WHERE WHAT IT READS IS OF BULK AT MOST 1048576: true; the input reads as it did. -/
def shelfOrderUptoRow : OpenClaim := { program := "ytcepfmjebgklfaadoor", sum := "c4ee70cde76fd8f7ee0c96e4a64d189b757e194823e5f99485d2ba8e002c0dd5", func := "pantile/pantilelaw18.ShelfOrder", spec := "shelfOrder", unfollowed := true, recurses := true, named := ["pantile/shelf.classes"], apart := false, laid := [("pantile/shelf.classes", laid_pantile_shelf_classes)], narrowed := true }
def ShelfOrderUptoSaid : Prop := shelfOrderUptoRow.holds Tryd.pinned (OpenSpec.upto shelfOrderSpec)

/-- 'pantilelaw18.ShelfPlays', WHERE WHAT IT READS IS OF BULK AT MOST 1048576: true; the input reads as it did. -/
def shelfPlaysUptoRow : OpenClaim := { program := "ytcepfmjebgklfaadoor", sum := "c4ee70cde76fd8f7ee0c96e4a64d189b757e194823e5f99485d2ba8e002c0dd5", func := "pantile/pantilelaw18.ShelfPlays", spec := "shelfPlays", unfollowed := true, recurses := true, named := ["pantile/shelf.classes"], apart := false, laid := [("pantile/shelf.classes", laid_pantile_shelf_classes)], narrowed := true }
def ShelfPlaysUptoSaid : Prop := shelfPlaysUptoRow.holds Tryd.pinned (OpenSpec.upto shelfPlaysSpec)

/-- 'pantilelaw18.ShelfClasses', WHERE WHAT IT READS IS OF BULK AT MOST 1048576: true; the input reads as it did. -/
def shelfClassesUptoRow : OpenClaim := { program := "ytcepfmjebgklfaadoor", sum := "c4ee70cde76fd8f7ee0c96e4a64d189b757e194823e5f99485d2ba8e002c0dd5", func := "pantile/pantilelaw18.ShelfClasses", spec := "shelfClasses", unfollowed := true, recurses := true, named := ["pantile/shelf.classes"], apart := false, laid := [("pantile/shelf.classes", laid_pantile_shelf_classes)], narrowed := true }
def ShelfClassesUptoSaid : Prop := shelfClassesUptoRow.holds Tryd.pinned (OpenSpec.upto shelfClassesSpec)

/-- 'pantilelaw18.ShelfGets', WHERE WHAT IT READS IS OF BULK AT MOST 1048576: true; the input reads as it did. -/
def shelfGetsUptoRow : OpenClaim := { program := "ytcepfmjebgklfaadoor", sum := "c4ee70cde76fd8f7ee0c96e4a64d189b757e194823e5f99485d2ba8e002c0dd5", func := "pantile/pantilelaw18.ShelfGets", spec := "shelfGets", unfollowed := true, recurses := true, named := ["pantile/shelf.classes", "unicode/utf8.first", "unicode/utf8.acceptRanges"], apart := false, laid := [("unicode/utf8.acceptRanges", laid_unicode_utf8_acceptRanges), ("pantile/shelf.classes", laid_pantile_shelf_classes), ("unicode/utf8.first", laid_unicode_utf8_first)], narrowed := true }
def ShelfGetsUptoSaid : Prop := shelfGetsUptoRow.holds Tryd.pinned (OpenSpec.upto shelfGetsSpec)

end Rows
end Go.Proofs.YtcepfmjebgklfaaDoor
