/-
  DERIVED. GIVEN WITH THE SEED: THE CARDS: each row of YtnfmdcohacflmaaDoorRows.lean that lists a variable, with what it lists TIED to the program's text (the seventh form; the later family's looks); each row that meets fmt, with fmt's text TOLD by the authors' own Lean function (tested against real Go, not proved from fmt's source: count such statements apart). THE CARD IS WHAT COUNTS. Prove the row's statement (the work); the ties are given (YtnfmdcohacflmaaDoorTie.lean); close each card by the builder's one call (the guide's Derived/Test/ToyasCard.lean, 'card_holds'). Laid BY PROGRAM, IN A SANDBOX (cutbox-door.mjs). By AI agents, Wed Nov 11 2026. No macro, syntax, notation, axiom, sorry.
-/
import Derived.Test.YtnfmdcohacflmaaDoorRows
import GoSem.ClaimSeven
namespace Go.Proofs.YtnfmdcohacflmaaDoor
namespace Rows

/-- THE TIED CARD OF 'pantilelaw02.FieldPrefix'. -/
def fieldPrefixCard : Claim7 := { stood := { row := fieldPrefixRow, standIns := [], harness := (true, "967cfc3b27486f29cc10513cfc6b2470d3f19b3f67c3c730f867b0b9cfd8c01b"), looks := false }, kinds := [], alts := [], laidByText := true, laidKinds := [.data, .pinned], laidTests := true, laidLooks := .later }
def FieldPrefixCardSaid : Prop := Claim7.holds Tryd.pinned (.plain (OpenSpec.ofChange fieldPrefixSpec)) fieldPrefixCard

/-- THE TIED CARD OF 'pantilelaw02.FieldNone'. -/
def fieldNoneCard : Claim7 := { stood := { row := fieldNoneRow, standIns := [], harness := (true, "967cfc3b27486f29cc10513cfc6b2470d3f19b3f67c3c730f867b0b9cfd8c01b"), looks := false }, kinds := [], alts := [], laidByText := true, laidKinds := [.data, .pinned], laidTests := true, laidLooks := .later }
def FieldNoneCardSaid : Prop := Claim7.holds Tryd.pinned (.plain (OpenSpec.ofChange fieldNoneSpec)) fieldNoneCard

/-- THE SECOND FORM's CARD OF 'pantilelaw02.FieldPrefix'. -/
def fieldPrefixUptoCard : Claim7 := { stood := { row := fieldPrefixUptoRow, standIns := [], harness := (true, "967cfc3b27486f29cc10513cfc6b2470d3f19b3f67c3c730f867b0b9cfd8c01b"), looks := false }, kinds := [], alts := [], laidByText := true, laidKinds := [.data, .pinned], laidTests := true, laidLooks := .later }
def FieldPrefixUptoCardSaid : Prop := Claim7.holds Tryd.pinned (.plain (OpenSpec.upto fieldPrefixSpec)) fieldPrefixUptoCard

/-- THE SECOND FORM's CARD OF 'pantilelaw02.FieldNone'. -/
def fieldNoneUptoCard : Claim7 := { stood := { row := fieldNoneUptoRow, standIns := [], harness := (true, "967cfc3b27486f29cc10513cfc6b2470d3f19b3f67c3c730f867b0b9cfd8c01b"), looks := false }, kinds := [], alts := [], laidByText := true, laidKinds := [.data, .pinned], laidTests := true, laidLooks := .later }
def FieldNoneUptoCardSaid : Prop := Claim7.holds Tryd.pinned (.plain (OpenSpec.upto fieldNoneSpec)) fieldNoneUptoCard
end Rows
end Go.Proofs.YtnfmdcohacflmaaDoor
