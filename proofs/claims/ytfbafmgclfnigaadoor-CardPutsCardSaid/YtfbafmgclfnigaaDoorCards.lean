/-
  DERIVED. GIVEN WITH THE SEED: THE CARDS: each row of YtfbafmgclfnigaaDoorRows.lean that lists a variable, with what it lists TIED to the program's text (the seventh form; the later family's looks); each row that meets fmt, with fmt's text TOLD by the authors' own Lean function (tested against real Go, not proved from fmt's source: count such statements apart). THE CARD IS WHAT COUNTS. Prove the row's statement (the work); the ties are given (YtfbafmgclfnigaaDoorTie.lean); close each card by the builder's one call (the guide's Derived/Test/ToyasCard.lean, 'card_holds'). Laid BY PROGRAM, IN A SANDBOX (cutbox-door.mjs). By AI agents, Wed Nov 11 2026. No macro, syntax, notation, axiom, sorry.
-/
import Derived.Test.YtfbafmgclfnigaaDoorRows
import GoSem.ClaimSeven
namespace Go.Proofs.YtfbafmgclfnigaaDoor
namespace Rows

/-- THE TIED CARD OF 'pantilelaw06.CardPuts'. -/
def cardPutsCard : Claim7 := { stood := { row := cardPutsRow, standIns := [], harness := (true, "de611daed03aede3228eeb1a50315102b8b06ca32829e6125e7c4eb33a5852d2"), looks := true }, kinds := [], alts := [], laidByText := true, laidKinds := [.data, .pinned], laidTests := true, laidLooks := .later }
def CardPutsCardSaid : Prop := Claim7.holds Tryd.pinned (.plain (OpenSpec.ofChange cardPutsSpec)) cardPutsCard

/-- THE TIED CARD OF 'pantilelaw06.CardGets'. -/
def cardGetsCard : Claim7 := { stood := { row := cardGetsRow, standIns := [], harness := (true, "de611daed03aede3228eeb1a50315102b8b06ca32829e6125e7c4eb33a5852d2"), looks := true }, kinds := [], alts := [], laidByText := true, laidKinds := [.data, .pinned], laidTests := true, laidLooks := .later }
def CardGetsCardSaid : Prop := Claim7.holds Tryd.pinned (.plain (OpenSpec.ofChange cardGetsSpec)) cardGetsCard

/-- THE TIED CARD OF 'pantilelaw06.CardUnlike'. -/
def cardUnlikeCard : Claim7 := { stood := { row := cardUnlikeRow, standIns := [], harness := (true, "de611daed03aede3228eeb1a50315102b8b06ca32829e6125e7c4eb33a5852d2"), looks := true }, kinds := [], alts := [], laidByText := true, laidKinds := [.data, .pinned], laidTests := true, laidLooks := .later }
def CardUnlikeCardSaid : Prop := Claim7.holds Tryd.pinned (.plain (OpenSpec.ofChange cardUnlikeSpec)) cardUnlikeCard

/-- THE TIED CARD OF 'pantilelaw08.RootPlans'. -/
def rootPlansCard : Claim7 := { stood := { row := rootPlansRow, standIns := [], harness := (true, "de611daed03aede3228eeb1a50315102b8b06ca32829e6125e7c4eb33a5852d2"), looks := true }, kinds := [], alts := [], laidByText := true, laidKinds := [.data, .pinned], laidTests := true, laidLooks := .later }
def RootPlansCardSaid : Prop := Claim7.holds Tryd.pinned (.plain (OpenSpec.ofChange rootPlansSpec)) rootPlansCard

/-- THE TIED CARD OF 'pantilelaw08.RootChain'. -/
def rootChainCard : Claim7 := { stood := { row := rootChainRow, standIns := [], harness := (true, "de611daed03aede3228eeb1a50315102b8b06ca32829e6125e7c4eb33a5852d2"), looks := true }, kinds := [], alts := [], laidByText := true, laidKinds := [.data, .pinned], laidTests := true, laidLooks := .later }
def RootChainCardSaid : Prop := Claim7.holds Tryd.pinned (.plain (OpenSpec.ofChange rootChainSpec)) rootChainCard

/-- THE TIED CARD OF 'pantilelaw08.RootFormats'. -/
def rootFormatsCard : Claim7 := { stood := { row := rootFormatsRow, standIns := [], harness := (true, "de611daed03aede3228eeb1a50315102b8b06ca32829e6125e7c4eb33a5852d2"), looks := true }, kinds := [], alts := [], laidByText := true, laidKinds := [.data, .pinned], laidTests := true, laidLooks := .later }
def RootFormatsCardSaid : Prop := Claim7.holds Tryd.pinned (.plain (OpenSpec.ofChange rootFormatsSpec)) rootFormatsCard

/-- THE TIED CARD OF 'pantilelaw08.RootCrashes'. -/
def rootCrashesCard : Claim7 := { stood := { row := rootCrashesRow, standIns := [], harness := (true, "de611daed03aede3228eeb1a50315102b8b06ca32829e6125e7c4eb33a5852d2"), looks := true }, kinds := [], alts := [], laidByText := true, laidKinds := [.data, .pinned], laidTests := true, laidLooks := .later }
def RootCrashesCardSaid : Prop := Claim7.holds Tryd.pinned (.plain (OpenSpec.ofChange rootCrashesSpec)) rootCrashesCard

/-- THE SECOND FORM's CARD OF 'pantilelaw06.CardPuts'. -/
def cardPutsUptoCard : Claim7 := { stood := { row := cardPutsUptoRow, standIns := [], harness := (true, "de611daed03aede3228eeb1a50315102b8b06ca32829e6125e7c4eb33a5852d2"), looks := true }, kinds := [], alts := [], laidByText := true, laidKinds := [.data, .pinned], laidTests := true, laidLooks := .later }
def CardPutsUptoCardSaid : Prop := Claim7.holds Tryd.pinned (.plain (OpenSpec.upto cardPutsSpec)) cardPutsUptoCard

/-- THE SECOND FORM's CARD OF 'pantilelaw06.CardGets'. -/
def cardGetsUptoCard : Claim7 := { stood := { row := cardGetsUptoRow, standIns := [], harness := (true, "de611daed03aede3228eeb1a50315102b8b06ca32829e6125e7c4eb33a5852d2"), looks := true }, kinds := [], alts := [], laidByText := true, laidKinds := [.data, .pinned], laidTests := true, laidLooks := .later }
def CardGetsUptoCardSaid : Prop := Claim7.holds Tryd.pinned (.plain (OpenSpec.upto cardGetsSpec)) cardGetsUptoCard

/-- THE SECOND FORM's CARD OF 'pantilelaw06.CardUnlike'. -/
def cardUnlikeUptoCard : Claim7 := { stood := { row := cardUnlikeUptoRow, standIns := [], harness := (true, "de611daed03aede3228eeb1a50315102b8b06ca32829e6125e7c4eb33a5852d2"), looks := true }, kinds := [], alts := [], laidByText := true, laidKinds := [.data, .pinned], laidTests := true, laidLooks := .later }
def CardUnlikeUptoCardSaid : Prop := Claim7.holds Tryd.pinned (.plain (OpenSpec.upto cardUnlikeSpec)) cardUnlikeUptoCard

/-- THE SECOND FORM's CARD OF 'pantilelaw08.RootPlans'. -/
def rootPlansUptoCard : Claim7 := { stood := { row := rootPlansUptoRow, standIns := [], harness := (true, "de611daed03aede3228eeb1a50315102b8b06ca32829e6125e7c4eb33a5852d2"), looks := true }, kinds := [], alts := [], laidByText := true, laidKinds := [.data, .pinned], laidTests := true, laidLooks := .later }
def RootPlansUptoCardSaid : Prop := Claim7.holds Tryd.pinned (.plain (OpenSpec.upto rootPlansSpec)) rootPlansUptoCard

/-- THE SECOND FORM's CARD OF 'pantilelaw08.RootChain'. -/
def rootChainUptoCard : Claim7 := { stood := { row := rootChainUptoRow, standIns := [], harness := (true, "de611daed03aede3228eeb1a50315102b8b06ca32829e6125e7c4eb33a5852d2"), looks := true }, kinds := [], alts := [], laidByText := true, laidKinds := [.data, .pinned], laidTests := true, laidLooks := .later }
def RootChainUptoCardSaid : Prop := Claim7.holds Tryd.pinned (.plain (OpenSpec.upto rootChainSpec)) rootChainUptoCard

/-- THE SECOND FORM's CARD OF 'pantilelaw08.RootFormats'. -/
def rootFormatsUptoCard : Claim7 := { stood := { row := rootFormatsUptoRow, standIns := [], harness := (true, "de611daed03aede3228eeb1a50315102b8b06ca32829e6125e7c4eb33a5852d2"), looks := true }, kinds := [], alts := [], laidByText := true, laidKinds := [.data, .pinned], laidTests := true, laidLooks := .later }
def RootFormatsUptoCardSaid : Prop := Claim7.holds Tryd.pinned (.plain (OpenSpec.upto rootFormatsSpec)) rootFormatsUptoCard

/-- THE SECOND FORM's CARD OF 'pantilelaw08.RootCrashes'. -/
def rootCrashesUptoCard : Claim7 := { stood := { row := rootCrashesUptoRow, standIns := [], harness := (true, "de611daed03aede3228eeb1a50315102b8b06ca32829e6125e7c4eb33a5852d2"), looks := true }, kinds := [], alts := [], laidByText := true, laidKinds := [.data, .pinned], laidTests := true, laidLooks := .later }
def RootCrashesUptoCardSaid : Prop := Claim7.holds Tryd.pinned (.plain (OpenSpec.upto rootCrashesSpec)) rootCrashesUptoCard
end Rows
end Go.Proofs.YtfbafmgclfnigaaDoor
