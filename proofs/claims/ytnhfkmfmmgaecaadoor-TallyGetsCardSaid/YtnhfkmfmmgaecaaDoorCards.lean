/-
  DERIVED. GIVEN WITH THE SEED: THE CARDS: each row of YtnhfkmfmmgaecaaDoorRows.lean that lists a variable, with what it lists TIED to the program's text (the seventh form; the later family's looks); each row that meets fmt, with fmt's text TOLD by the authors' own Lean function (tested against real Go, not proved from fmt's source: count such statements apart). THE CARD IS WHAT COUNTS. Prove the row's statement (the work); the ties are given (YtnhfkmfmmgaecaaDoorTie.lean); close each card by the builder's one call (the guide's Derived/Test/ToyasCard.lean, 'card_holds'). Laid BY PROGRAM, IN A SANDBOX (cutbox-door.mjs). By AI agents, Wed Nov 11 2026. No macro, syntax, notation, axiom, sorry.
-/
import Derived.Test.YtnhfkmfmmgaecaaDoorRows
import GoSem.ClaimSeven
namespace Go.Proofs.YtnhfkmfmmgaecaaDoor
namespace Rows

/-- THE TIED CARD OF 'pantilelaw02.FieldPrefix'. -/
def fieldPrefixCard : Claim7 := { stood := { row := fieldPrefixRow, standIns := [], harness := (true, "106be422d6e6dd111f03a29dc6570d0b063f95a5c73768da4f65e27ca991244c"), looks := false }, kinds := [], alts := [], laidByText := true, laidKinds := [.data, .pinned], laidTests := true, laidLooks := .later }
def FieldPrefixCardSaid : Prop := Claim7.holds Tryd.pinned (.plain (OpenSpec.ofChange fieldPrefixSpec)) fieldPrefixCard

/-- THE TIED CARD OF 'pantilelaw02.FieldNone'. -/
def fieldNoneCard : Claim7 := { stood := { row := fieldNoneRow, standIns := [], harness := (true, "106be422d6e6dd111f03a29dc6570d0b063f95a5c73768da4f65e27ca991244c"), looks := false }, kinds := [], alts := [], laidByText := true, laidKinds := [.data, .pinned], laidTests := true, laidLooks := .later }
def FieldNoneCardSaid : Prop := Claim7.holds Tryd.pinned (.plain (OpenSpec.ofChange fieldNoneSpec)) fieldNoneCard

/-- THE TIED CARD OF 'pantilelaw07.SlotPuts'. -/
def slotPutsCard : Claim7 := { stood := { row := slotPutsRow, standIns := [], harness := (true, "106be422d6e6dd111f03a29dc6570d0b063f95a5c73768da4f65e27ca991244c"), looks := false }, kinds := [], alts := [], laidByText := true, laidKinds := [.data, .pinned], laidTests := true, laidLooks := .later }
def SlotPutsCardSaid : Prop := Claim7.holds Tryd.pinned (.plain (OpenSpec.ofChange slotPutsSpec)) slotPutsCard

/-- THE TIED CARD OF 'pantilelaw07.SlotGets'. -/
def slotGetsCard : Claim7 := { stood := { row := slotGetsRow, standIns := [], harness := (true, "106be422d6e6dd111f03a29dc6570d0b063f95a5c73768da4f65e27ca991244c"), looks := false }, kinds := [], alts := [], laidByText := true, laidKinds := [.data, .pinned], laidTests := true, laidLooks := .later }
def SlotGetsCardSaid : Prop := Claim7.holds Tryd.pinned (.plain (OpenSpec.ofChange slotGetsSpec)) slotGetsCard

/-- THE TIED CARD OF 'pantilelaw07.SlotTorn'. -/
def slotTornCard : Claim7 := { stood := { row := slotTornRow, standIns := [], harness := (true, "106be422d6e6dd111f03a29dc6570d0b063f95a5c73768da4f65e27ca991244c"), looks := false }, kinds := [], alts := [], laidByText := true, laidKinds := [.data, .pinned], laidTests := true, laidLooks := .later }
def SlotTornCardSaid : Prop := Claim7.holds Tryd.pinned (.plain (OpenSpec.ofChange slotTornSpec)) slotTornCard

/-- THE TIED CARD OF 'pantilelaw04.NodePuts'. -/
def nodePutsCard : Claim7 := { stood := { row := nodePutsRow, standIns := [], harness := (true, "106be422d6e6dd111f03a29dc6570d0b063f95a5c73768da4f65e27ca991244c"), looks := false }, kinds := [], alts := [], laidByText := true, laidKinds := [.data, .pinned], laidTests := true, laidLooks := .later }
def NodePutsCardSaid : Prop := Claim7.holds Tryd.pinned (.plain (OpenSpec.ofChange nodePutsSpec)) nodePutsCard

/-- THE TIED CARD OF 'pantilelaw04.NodeGets'. -/
def nodeGetsCard : Claim7 := { stood := { row := nodeGetsRow, standIns := [], harness := (true, "106be422d6e6dd111f03a29dc6570d0b063f95a5c73768da4f65e27ca991244c"), looks := false }, kinds := [], alts := [], laidByText := true, laidKinds := [.data, .pinned], laidTests := true, laidLooks := .later }
def NodeGetsCardSaid : Prop := Claim7.holds Tryd.pinned (.plain (OpenSpec.ofChange nodeGetsSpec)) nodeGetsCard

/-- THE TIED CARD OF 'pantilelaw04.NodeIndex'. -/
def nodeIndexCard : Claim7 := { stood := { row := nodeIndexRow, standIns := [], harness := (true, "106be422d6e6dd111f03a29dc6570d0b063f95a5c73768da4f65e27ca991244c"), looks := false }, kinds := [], alts := [], laidByText := true, laidKinds := [.data, .pinned], laidTests := true, laidLooks := .later }
def NodeIndexCardSaid : Prop := Claim7.holds Tryd.pinned (.plain (OpenSpec.ofChange nodeIndexSpec)) nodeIndexCard

/-- THE TIED CARD OF 'pantilelaw04.NodeUnlike'. -/
def nodeUnlikeCard : Claim7 := { stood := { row := nodeUnlikeRow, standIns := [], harness := (true, "106be422d6e6dd111f03a29dc6570d0b063f95a5c73768da4f65e27ca991244c"), looks := false }, kinds := [], alts := [], laidByText := true, laidKinds := [.data, .pinned], laidTests := true, laidLooks := .later }
def NodeUnlikeCardSaid : Prop := Claim7.holds Tryd.pinned (.plain (OpenSpec.ofChange nodeUnlikeSpec)) nodeUnlikeCard

/-- THE TIED CARD OF 'pantilelaw05.TallyPuts'. -/
def tallyPutsCard : Claim7 := { stood := { row := tallyPutsRow, standIns := [], harness := (true, "106be422d6e6dd111f03a29dc6570d0b063f95a5c73768da4f65e27ca991244c"), looks := false }, kinds := [], alts := [], laidByText := true, laidKinds := [.data, .pinned], laidTests := true, laidLooks := .later }
def TallyPutsCardSaid : Prop := Claim7.holds Tryd.pinned (.plain (OpenSpec.ofChange tallyPutsSpec)) tallyPutsCard

/-- THE TIED CARD OF 'pantilelaw05.TallyGets'. -/
def tallyGetsCard : Claim7 := { stood := { row := tallyGetsRow, standIns := [], harness := (true, "106be422d6e6dd111f03a29dc6570d0b063f95a5c73768da4f65e27ca991244c"), looks := false }, kinds := [], alts := [], laidByText := true, laidKinds := [.data, .pinned], laidTests := true, laidLooks := .later }
def TallyGetsCardSaid : Prop := Claim7.holds Tryd.pinned (.plain (OpenSpec.ofChange tallyGetsSpec)) tallyGetsCard

/-- THE TIED CARD OF 'pantilelaw05.TallyUnlike'. -/
def tallyUnlikeCard : Claim7 := { stood := { row := tallyUnlikeRow, standIns := [], harness := (true, "106be422d6e6dd111f03a29dc6570d0b063f95a5c73768da4f65e27ca991244c"), looks := false }, kinds := [], alts := [], laidByText := true, laidKinds := [.data, .pinned], laidTests := true, laidLooks := .later }
def TallyUnlikeCardSaid : Prop := Claim7.holds Tryd.pinned (.plain (OpenSpec.ofChange tallyUnlikeSpec)) tallyUnlikeCard

/-- THE SECOND FORM's CARD OF 'pantilelaw02.FieldPrefix'. -/
def fieldPrefixUptoCard : Claim7 := { stood := { row := fieldPrefixUptoRow, standIns := [], harness := (true, "106be422d6e6dd111f03a29dc6570d0b063f95a5c73768da4f65e27ca991244c"), looks := false }, kinds := [], alts := [], laidByText := true, laidKinds := [.data, .pinned], laidTests := true, laidLooks := .later }
def FieldPrefixUptoCardSaid : Prop := Claim7.holds Tryd.pinned (.plain (OpenSpec.upto fieldPrefixSpec)) fieldPrefixUptoCard

/-- THE SECOND FORM's CARD OF 'pantilelaw02.FieldNone'. -/
def fieldNoneUptoCard : Claim7 := { stood := { row := fieldNoneUptoRow, standIns := [], harness := (true, "106be422d6e6dd111f03a29dc6570d0b063f95a5c73768da4f65e27ca991244c"), looks := false }, kinds := [], alts := [], laidByText := true, laidKinds := [.data, .pinned], laidTests := true, laidLooks := .later }
def FieldNoneUptoCardSaid : Prop := Claim7.holds Tryd.pinned (.plain (OpenSpec.upto fieldNoneSpec)) fieldNoneUptoCard

/-- THE SECOND FORM's CARD OF 'pantilelaw07.SlotPuts'. -/
def slotPutsUptoCard : Claim7 := { stood := { row := slotPutsUptoRow, standIns := [], harness := (true, "106be422d6e6dd111f03a29dc6570d0b063f95a5c73768da4f65e27ca991244c"), looks := false }, kinds := [], alts := [], laidByText := true, laidKinds := [.data, .pinned], laidTests := true, laidLooks := .later }
def SlotPutsUptoCardSaid : Prop := Claim7.holds Tryd.pinned (.plain (OpenSpec.upto slotPutsSpec)) slotPutsUptoCard

/-- THE SECOND FORM's CARD OF 'pantilelaw07.SlotGets'. -/
def slotGetsUptoCard : Claim7 := { stood := { row := slotGetsUptoRow, standIns := [], harness := (true, "106be422d6e6dd111f03a29dc6570d0b063f95a5c73768da4f65e27ca991244c"), looks := false }, kinds := [], alts := [], laidByText := true, laidKinds := [.data, .pinned], laidTests := true, laidLooks := .later }
def SlotGetsUptoCardSaid : Prop := Claim7.holds Tryd.pinned (.plain (OpenSpec.upto slotGetsSpec)) slotGetsUptoCard

/-- THE SECOND FORM's CARD OF 'pantilelaw07.SlotTorn'. -/
def slotTornUptoCard : Claim7 := { stood := { row := slotTornUptoRow, standIns := [], harness := (true, "106be422d6e6dd111f03a29dc6570d0b063f95a5c73768da4f65e27ca991244c"), looks := false }, kinds := [], alts := [], laidByText := true, laidKinds := [.data, .pinned], laidTests := true, laidLooks := .later }
def SlotTornUptoCardSaid : Prop := Claim7.holds Tryd.pinned (.plain (OpenSpec.upto slotTornSpec)) slotTornUptoCard

/-- THE SECOND FORM's CARD OF 'pantilelaw04.NodePuts'. -/
def nodePutsUptoCard : Claim7 := { stood := { row := nodePutsUptoRow, standIns := [], harness := (true, "106be422d6e6dd111f03a29dc6570d0b063f95a5c73768da4f65e27ca991244c"), looks := false }, kinds := [], alts := [], laidByText := true, laidKinds := [.data, .pinned], laidTests := true, laidLooks := .later }
def NodePutsUptoCardSaid : Prop := Claim7.holds Tryd.pinned (.plain (OpenSpec.upto nodePutsSpec)) nodePutsUptoCard

/-- THE SECOND FORM's CARD OF 'pantilelaw04.NodeGets'. -/
def nodeGetsUptoCard : Claim7 := { stood := { row := nodeGetsUptoRow, standIns := [], harness := (true, "106be422d6e6dd111f03a29dc6570d0b063f95a5c73768da4f65e27ca991244c"), looks := false }, kinds := [], alts := [], laidByText := true, laidKinds := [.data, .pinned], laidTests := true, laidLooks := .later }
def NodeGetsUptoCardSaid : Prop := Claim7.holds Tryd.pinned (.plain (OpenSpec.upto nodeGetsSpec)) nodeGetsUptoCard

/-- THE SECOND FORM's CARD OF 'pantilelaw04.NodeIndex'. -/
def nodeIndexUptoCard : Claim7 := { stood := { row := nodeIndexUptoRow, standIns := [], harness := (true, "106be422d6e6dd111f03a29dc6570d0b063f95a5c73768da4f65e27ca991244c"), looks := false }, kinds := [], alts := [], laidByText := true, laidKinds := [.data, .pinned], laidTests := true, laidLooks := .later }
def NodeIndexUptoCardSaid : Prop := Claim7.holds Tryd.pinned (.plain (OpenSpec.upto nodeIndexSpec)) nodeIndexUptoCard

/-- THE SECOND FORM's CARD OF 'pantilelaw04.NodeUnlike'. -/
def nodeUnlikeUptoCard : Claim7 := { stood := { row := nodeUnlikeUptoRow, standIns := [], harness := (true, "106be422d6e6dd111f03a29dc6570d0b063f95a5c73768da4f65e27ca991244c"), looks := false }, kinds := [], alts := [], laidByText := true, laidKinds := [.data, .pinned], laidTests := true, laidLooks := .later }
def NodeUnlikeUptoCardSaid : Prop := Claim7.holds Tryd.pinned (.plain (OpenSpec.upto nodeUnlikeSpec)) nodeUnlikeUptoCard

/-- THE SECOND FORM's CARD OF 'pantilelaw05.TallyPuts'. -/
def tallyPutsUptoCard : Claim7 := { stood := { row := tallyPutsUptoRow, standIns := [], harness := (true, "106be422d6e6dd111f03a29dc6570d0b063f95a5c73768da4f65e27ca991244c"), looks := false }, kinds := [], alts := [], laidByText := true, laidKinds := [.data, .pinned], laidTests := true, laidLooks := .later }
def TallyPutsUptoCardSaid : Prop := Claim7.holds Tryd.pinned (.plain (OpenSpec.upto tallyPutsSpec)) tallyPutsUptoCard

/-- THE SECOND FORM's CARD OF 'pantilelaw05.TallyGets'. -/
def tallyGetsUptoCard : Claim7 := { stood := { row := tallyGetsUptoRow, standIns := [], harness := (true, "106be422d6e6dd111f03a29dc6570d0b063f95a5c73768da4f65e27ca991244c"), looks := false }, kinds := [], alts := [], laidByText := true, laidKinds := [.data, .pinned], laidTests := true, laidLooks := .later }
def TallyGetsUptoCardSaid : Prop := Claim7.holds Tryd.pinned (.plain (OpenSpec.upto tallyGetsSpec)) tallyGetsUptoCard

/-- THE SECOND FORM's CARD OF 'pantilelaw05.TallyUnlike'. -/
def tallyUnlikeUptoCard : Claim7 := { stood := { row := tallyUnlikeUptoRow, standIns := [], harness := (true, "106be422d6e6dd111f03a29dc6570d0b063f95a5c73768da4f65e27ca991244c"), looks := false }, kinds := [], alts := [], laidByText := true, laidKinds := [.data, .pinned], laidTests := true, laidLooks := .later }
def TallyUnlikeUptoCardSaid : Prop := Claim7.holds Tryd.pinned (.plain (OpenSpec.upto tallyUnlikeSpec)) tallyUnlikeUptoCard
end Rows
end Go.Proofs.YtnhfkmfmmgaecaaDoor
