/-
  DERIVED. GIVEN WITH THE SEED: THE CARDS: each row of YtnphgaiiiiknpaaDoorRows.lean that lists a variable, with what it lists TIED to the program's text (the seventh form; the later family's looks); each row that meets fmt, with fmt's text TOLD by the authors' own Lean function (tested against real Go, not proved from fmt's source: count such statements apart). THE CARD IS WHAT COUNTS. Prove the row's statement (the work); the ties are given (YtnphgaiiiiknpaaDoorTie.lean); close each card by the builder's one call (the guide's Derived/Test/ToyasCard.lean, 'card_holds'). Laid BY PROGRAM, IN A SANDBOX (cutbox-door.mjs). By AI agents, Wed Nov 11 2026. No macro, syntax, notation, axiom, sorry.
-/
import Derived.Test.YtnphgaiiiiknpaaDoorRows
import GoSem.ClaimSeven
namespace Go.Proofs.YtnphgaiiiiknpaaDoor
namespace Rows

/-- THE TIED CARD OF 'pantilelaw08.RootPlans'. -/
def rootPlansCard : Claim7 := { stood := { row := rootPlansRow, standIns := [], harness := (true, "d2e42bf87e7579761f349331f1064153ca3c0c58693cfdf84acb8d95685ea201"), looks := true }, kinds := [], alts := [], laidByText := true, laidKinds := [.data, .pinned], laidTests := true, laidLooks := .later }
def RootPlansCardSaid : Prop := Claim7.holds Tryd.pinned (.plain (OpenSpec.ofChange rootPlansSpec)) rootPlansCard

/-- THE TIED CARD OF 'pantilelaw08.RootChain'. -/
def rootChainCard : Claim7 := { stood := { row := rootChainRow, standIns := [], harness := (true, "d2e42bf87e7579761f349331f1064153ca3c0c58693cfdf84acb8d95685ea201"), looks := true }, kinds := [], alts := [], laidByText := true, laidKinds := [.data, .pinned], laidTests := true, laidLooks := .later }
def RootChainCardSaid : Prop := Claim7.holds Tryd.pinned (.plain (OpenSpec.ofChange rootChainSpec)) rootChainCard

/-- THE TIED CARD OF 'pantilelaw08.RootFormats'. -/
def rootFormatsCard : Claim7 := { stood := { row := rootFormatsRow, standIns := [], harness := (true, "d2e42bf87e7579761f349331f1064153ca3c0c58693cfdf84acb8d95685ea201"), looks := true }, kinds := [], alts := [], laidByText := true, laidKinds := [.data, .pinned], laidTests := true, laidLooks := .later }
def RootFormatsCardSaid : Prop := Claim7.holds Tryd.pinned (.plain (OpenSpec.ofChange rootFormatsSpec)) rootFormatsCard

/-- THE TIED CARD OF 'pantilelaw08.RootCrashes'. -/
def rootCrashesCard : Claim7 := { stood := { row := rootCrashesRow, standIns := [], harness := (true, "d2e42bf87e7579761f349331f1064153ca3c0c58693cfdf84acb8d95685ea201"), looks := true }, kinds := [], alts := [], laidByText := true, laidKinds := [.data, .pinned], laidTests := true, laidLooks := .later }
def RootCrashesCardSaid : Prop := Claim7.holds Tryd.pinned (.plain (OpenSpec.ofChange rootCrashesSpec)) rootCrashesCard

/-- THE SECOND FORM's CARD OF 'pantilelaw08.RootPlans'. -/
def rootPlansUptoCard : Claim7 := { stood := { row := rootPlansUptoRow, standIns := [], harness := (true, "d2e42bf87e7579761f349331f1064153ca3c0c58693cfdf84acb8d95685ea201"), looks := true }, kinds := [], alts := [], laidByText := true, laidKinds := [.data, .pinned], laidTests := true, laidLooks := .later }
def RootPlansUptoCardSaid : Prop := Claim7.holds Tryd.pinned (.plain (OpenSpec.upto rootPlansSpec)) rootPlansUptoCard

/-- THE SECOND FORM's CARD OF 'pantilelaw08.RootChain'. -/
def rootChainUptoCard : Claim7 := { stood := { row := rootChainUptoRow, standIns := [], harness := (true, "d2e42bf87e7579761f349331f1064153ca3c0c58693cfdf84acb8d95685ea201"), looks := true }, kinds := [], alts := [], laidByText := true, laidKinds := [.data, .pinned], laidTests := true, laidLooks := .later }
def RootChainUptoCardSaid : Prop := Claim7.holds Tryd.pinned (.plain (OpenSpec.upto rootChainSpec)) rootChainUptoCard

/-- THE SECOND FORM's CARD OF 'pantilelaw08.RootFormats'. -/
def rootFormatsUptoCard : Claim7 := { stood := { row := rootFormatsUptoRow, standIns := [], harness := (true, "d2e42bf87e7579761f349331f1064153ca3c0c58693cfdf84acb8d95685ea201"), looks := true }, kinds := [], alts := [], laidByText := true, laidKinds := [.data, .pinned], laidTests := true, laidLooks := .later }
def RootFormatsUptoCardSaid : Prop := Claim7.holds Tryd.pinned (.plain (OpenSpec.upto rootFormatsSpec)) rootFormatsUptoCard

/-- THE SECOND FORM's CARD OF 'pantilelaw08.RootCrashes'. -/
def rootCrashesUptoCard : Claim7 := { stood := { row := rootCrashesUptoRow, standIns := [], harness := (true, "d2e42bf87e7579761f349331f1064153ca3c0c58693cfdf84acb8d95685ea201"), looks := true }, kinds := [], alts := [], laidByText := true, laidKinds := [.data, .pinned], laidTests := true, laidLooks := .later }
def RootCrashesUptoCardSaid : Prop := Claim7.holds Tryd.pinned (.plain (OpenSpec.upto rootCrashesSpec)) rootCrashesUptoCard
end Rows
end Go.Proofs.YtnphgaiiiiknpaaDoor
