/-
  DERIVED. GIVEN WITH THE SEED: THE CARDS: each row of YtcepfmjebgklfaaDoorRows.lean that lists a variable, with what it lists TIED to the program's text (the seventh form; the later family's looks); each row that meets fmt, with fmt's text TOLD by the authors' own Lean function (tested against real Go, not proved from fmt's source: count such statements apart). THE CARD IS WHAT COUNTS. Prove the row's statement (the work); the ties are given (YtcepfmjebgklfaaDoorTie.lean); close each card by the builder's one call (the guide's Derived/Test/ToyasCard.lean, 'card_holds'). Laid BY PROGRAM, IN A SANDBOX (cutbox-door.mjs). By AI agents, Wed Nov 11 2026. No macro, syntax, notation, axiom, sorry.
-/
import Derived.Test.YtcepfmjebgklfaaDoorRows
import GoSem.ClaimSeven
namespace Go.Proofs.YtcepfmjebgklfaaDoor
namespace Rows

/-- THE TIED CARD OF 'pantilelaw18.ShelfKeeps'. -/
def shelfKeepsCard : Claim7 := { stood := { row := shelfKeepsRow, standIns := [], harness := (true, "c59a63bed8863496cd850c0386001764ecdfb5a2311c9c679728c4730d13df5a"), looks := false }, kinds := [], alts := [], laidByText := true, laidKinds := [.data], laidTests := true, laidLooks := .later }
def ShelfKeepsCardSaid : Prop := Claim7.holds Tryd.pinned (.plain (OpenSpec.ofChange shelfKeepsSpec)) shelfKeepsCard

/-- THE TIED CARD OF 'pantilelaw18.ShelfOrder'. -/
def shelfOrderCard : Claim7 := { stood := { row := shelfOrderRow, standIns := [], harness := (true, "c59a63bed8863496cd850c0386001764ecdfb5a2311c9c679728c4730d13df5a"), looks := false }, kinds := [], alts := [], laidByText := true, laidKinds := [.data], laidTests := true, laidLooks := .later }
def ShelfOrderCardSaid : Prop := Claim7.holds Tryd.pinned (.plain (OpenSpec.ofChange shelfOrderSpec)) shelfOrderCard

/-- THE TIED CARD OF 'pantilelaw18.ShelfPlays'. -/
def shelfPlaysCard : Claim7 := { stood := { row := shelfPlaysRow, standIns := [], harness := (true, "c59a63bed8863496cd850c0386001764ecdfb5a2311c9c679728c4730d13df5a"), looks := false }, kinds := [], alts := [], laidByText := true, laidKinds := [.data], laidTests := true, laidLooks := .later }
def ShelfPlaysCardSaid : Prop := Claim7.holds Tryd.pinned (.plain (OpenSpec.ofChange shelfPlaysSpec)) shelfPlaysCard

/-- THE TIED CARD OF 'pantilelaw18.ShelfClasses'. -/
def shelfClassesCard : Claim7 := { stood := { row := shelfClassesRow, standIns := [], harness := (true, "c59a63bed8863496cd850c0386001764ecdfb5a2311c9c679728c4730d13df5a"), looks := false }, kinds := [], alts := [], laidByText := true, laidKinds := [.data], laidTests := true, laidLooks := .later }
def ShelfClassesCardSaid : Prop := Claim7.holds Tryd.pinned (.plain (OpenSpec.ofChange shelfClassesSpec)) shelfClassesCard

/-- THE TIED CARD OF 'pantilelaw18.ShelfGets'. -/
def shelfGetsCard : Claim7 := { stood := { row := shelfGetsRow, standIns := [], harness := (true, "c59a63bed8863496cd850c0386001764ecdfb5a2311c9c679728c4730d13df5a"), looks := false }, kinds := [], alts := [], laidByText := true, laidKinds := [.data, .data, .pinned], laidTests := true, laidLooks := .later }
def ShelfGetsCardSaid : Prop := Claim7.holds Tryd.pinned (.plain (OpenSpec.ofChange shelfGetsSpec)) shelfGetsCard

/-- THE SECOND FORM's CARD OF 'pantilelaw18.ShelfKeeps'. -/
def shelfKeepsUptoCard : Claim7 := { stood := { row := shelfKeepsUptoRow, standIns := [], harness := (true, "c59a63bed8863496cd850c0386001764ecdfb5a2311c9c679728c4730d13df5a"), looks := false }, kinds := [], alts := [], laidByText := true, laidKinds := [.data], laidTests := true, laidLooks := .later }
def ShelfKeepsUptoCardSaid : Prop := Claim7.holds Tryd.pinned (.plain (OpenSpec.upto shelfKeepsSpec)) shelfKeepsUptoCard

/-- THE SECOND FORM's CARD OF 'pantilelaw18.ShelfOrder'. -/
def shelfOrderUptoCard : Claim7 := { stood := { row := shelfOrderUptoRow, standIns := [], harness := (true, "c59a63bed8863496cd850c0386001764ecdfb5a2311c9c679728c4730d13df5a"), looks := false }, kinds := [], alts := [], laidByText := true, laidKinds := [.data], laidTests := true, laidLooks := .later }
def ShelfOrderUptoCardSaid : Prop := Claim7.holds Tryd.pinned (.plain (OpenSpec.upto shelfOrderSpec)) shelfOrderUptoCard

/-- THE SECOND FORM's CARD OF 'pantilelaw18.ShelfPlays'. -/
def shelfPlaysUptoCard : Claim7 := { stood := { row := shelfPlaysUptoRow, standIns := [], harness := (true, "c59a63bed8863496cd850c0386001764ecdfb5a2311c9c679728c4730d13df5a"), looks := false }, kinds := [], alts := [], laidByText := true, laidKinds := [.data], laidTests := true, laidLooks := .later }
def ShelfPlaysUptoCardSaid : Prop := Claim7.holds Tryd.pinned (.plain (OpenSpec.upto shelfPlaysSpec)) shelfPlaysUptoCard

/-- THE SECOND FORM's CARD OF 'pantilelaw18.ShelfClasses'. -/
def shelfClassesUptoCard : Claim7 := { stood := { row := shelfClassesUptoRow, standIns := [], harness := (true, "c59a63bed8863496cd850c0386001764ecdfb5a2311c9c679728c4730d13df5a"), looks := false }, kinds := [], alts := [], laidByText := true, laidKinds := [.data], laidTests := true, laidLooks := .later }
def ShelfClassesUptoCardSaid : Prop := Claim7.holds Tryd.pinned (.plain (OpenSpec.upto shelfClassesSpec)) shelfClassesUptoCard

/-- THE SECOND FORM's CARD OF 'pantilelaw18.ShelfGets'. -/
def shelfGetsUptoCard : Claim7 := { stood := { row := shelfGetsUptoRow, standIns := [], harness := (true, "c59a63bed8863496cd850c0386001764ecdfb5a2311c9c679728c4730d13df5a"), looks := false }, kinds := [], alts := [], laidByText := true, laidKinds := [.data, .data, .pinned], laidTests := true, laidLooks := .later }
def ShelfGetsUptoCardSaid : Prop := Claim7.holds Tryd.pinned (.plain (OpenSpec.upto shelfGetsSpec)) shelfGetsUptoCard
end Rows
end Go.Proofs.YtcepfmjebgklfaaDoor
