/-
  No cell of these rows narrows 'for every input' (looked for: loops, veiled, ifaces, maps, wideKeys, modest, calm, conditions, laid).
  DERIVED. THE GIVEN ROWS OF THIS SEAT. 12 by the template 'for every input the law returns true; each argument reads behind the call as it read before'; 0 by the template 'total and deterministic' (their statements: YtnbdnnlomgjlmaaTotals.lean).
  GIVEN WITH THE SEED: the statements are not yours to turn. If you find one false, say at which input.
  Laid BY PROGRAM, IN A SANDBOX (cutbox-rows.mjs): the forced cells as the released guide's own fill.sh prints them over the translation b138a21d19c7821d… (all of the seat's roots in one cut). By AI agents, Wed Nov 11 2026. No macro, syntax, notation, axiom, sorry.
-/
import Derived.Test.YtnbdnnlomgjlmaaChecked
import GoSem.Claim
import GoSem.ClaimJoined
import GoSem.ClaimMapViews
import Derived.JoinedTies
import Derived.KernelRfl
namespace Go.Proofs.Ytnbdnnlomgjlmaa
/- THE CELL 'sum', in the pinned program and in every row, IS THE sha256 OF THE DUMP (.gsa) THAT YtnbdnnlomgjlmaaProg.lean LOADS. Nothing in Lean hashes anything: it is a label: what it is worth is what the hold of that sum in a sandbox is worth. -/
noncomputable def Try.pinned : Pinned := { name := "ytnbdnnlomgjlmaa", sum := "b138a21d19c7821da85e24c387fefaec7381e52b13a447bbccb7912cee9f07bc", checked := Try.checked }
namespace Rows
def none {H : Type} : Left H := { results := [], args := [] }

/-- 'pantilelaw01.CrcTells': WHATEVER THE INPUT: true; the input reads as it did. -/
def crcTellsSpec : ChangeSpec := { name := "crcTells", fn := fun _ => fun
  | [d1, d2] => { results := [.lit (.bool true)], args := [d1, d2] }
  | _ => none }
def crcTellsRow : OpenClaim := { program := "ytnbdnnlomgjlmaa", sum := "b138a21d19c7821da85e24c387fefaec7381e52b13a447bbccb7912cee9f07bc", func := "pantile/pantilelaw01.CrcTells", spec := "crcTells", apart := false }
def CrcTellsSaid : Prop := crcTellsRow.holds Try.pinned (OpenSpec.ofChange crcTellsSpec)

/-- ITS FALSE NEIGHBOUR: 'it returns false'. Refute it at one input. -/
def crcTellsWrong : ChangeSpec := { name := "crcTells", fn := fun _ => fun
  | [d1, d2] => { results := [.lit (.bool false)], args := [d1, d2] }
  | _ => none }
def CrcTellsWrongFalsely : Prop := crcTellsRow.holds Try.pinned (OpenSpec.ofChange crcTellsWrong)

/-- 'pantilelaw01.CrcSeals': WHATEVER THE INPUT: true; the input reads as it did. -/
def crcSealsSpec : ChangeSpec := { name := "crcSeals", fn := fun _ => fun
  | [d1, d2] => { results := [.lit (.bool true)], args := [d1, d2] }
  | _ => none }
def crcSealsRow : OpenClaim := { program := "ytnbdnnlomgjlmaa", sum := "b138a21d19c7821da85e24c387fefaec7381e52b13a447bbccb7912cee9f07bc", func := "pantile/pantilelaw01.CrcSeals", spec := "crcSeals", apart := false }
def CrcSealsSaid : Prop := crcSealsRow.holds Try.pinned (OpenSpec.ofChange crcSealsSpec)

/-- ITS FALSE NEIGHBOUR: 'it returns false'. Refute it at one input. -/
def crcSealsWrong : ChangeSpec := { name := "crcSeals", fn := fun _ => fun
  | [d1, d2] => { results := [.lit (.bool false)], args := [d1, d2] }
  | _ => none }
def CrcSealsWrongFalsely : Prop := crcSealsRow.holds Try.pinned (OpenSpec.ofChange crcSealsWrong)

/-- 'pantilelaw01.CrcBursts': WHATEVER THE INPUT: true; the input reads as it did. -/
def crcBurstsSpec : ChangeSpec := { name := "crcBursts", fn := fun _ => fun
  | [d1, d2, d3] => { results := [.lit (.bool true)], args := [d1, d2, d3] }
  | _ => none }
def crcBurstsRow : OpenClaim := { program := "ytnbdnnlomgjlmaa", sum := "b138a21d19c7821da85e24c387fefaec7381e52b13a447bbccb7912cee9f07bc", func := "pantile/pantilelaw01.CrcBursts", spec := "crcBursts", apart := false }
def CrcBurstsSaid : Prop := crcBurstsRow.holds Try.pinned (OpenSpec.ofChange crcBurstsSpec)

/-- ITS FALSE NEIGHBOUR: 'it returns false'. Refute it at one input. -/
def crcBurstsWrong : ChangeSpec := { name := "crcBursts", fn := fun _ => fun
  | [d1, d2, d3] => { results := [.lit (.bool false)], args := [d1, d2, d3] }
  | _ => none }
def CrcBurstsWrongFalsely : Prop := crcBurstsRow.holds Try.pinned (OpenSpec.ofChange crcBurstsWrong)

/-- 'pantilelaw01.CrcMixes': WHATEVER THE INPUT: true; the input reads as it did. -/
def crcMixesSpec : ChangeSpec := { name := "crcMixes", fn := fun _ => fun
  | [d1, d2, d3] => { results := [.lit (.bool true)], args := [d1, d2, d3] }
  | _ => none }
def crcMixesRow : OpenClaim := { program := "ytnbdnnlomgjlmaa", sum := "b138a21d19c7821da85e24c387fefaec7381e52b13a447bbccb7912cee9f07bc", func := "pantile/pantilelaw01.CrcMixes", spec := "crcMixes", apart := false }
def CrcMixesSaid : Prop := crcMixesRow.holds Try.pinned (OpenSpec.ofChange crcMixesSpec)

/-- ITS FALSE NEIGHBOUR: 'it returns false'. Refute it at one input. -/
def crcMixesWrong : ChangeSpec := { name := "crcMixes", fn := fun _ => fun
  | [d1, d2, d3] => { results := [.lit (.bool false)], args := [d1, d2, d3] }
  | _ => none }
def CrcMixesWrongFalsely : Prop := crcMixesRow.holds Try.pinned (OpenSpec.ofChange crcMixesWrong)

/-- 'pantilelaw14.NameTells': WHATEVER THE INPUT: true; the input reads as it did. -/
def nameTellsSpec : ChangeSpec := { name := "nameTells", fn := fun _ => fun
  | [d1, d2] => { results := [.lit (.bool true)], args := [d1, d2] }
  | _ => none }
def nameTellsRow : OpenClaim := { program := "ytnbdnnlomgjlmaa", sum := "b138a21d19c7821da85e24c387fefaec7381e52b13a447bbccb7912cee9f07bc", func := "pantile/pantilelaw14.NameTells", spec := "nameTells", unfollowed := true, recurses := true, apart := false }
def NameTellsSaid : Prop := nameTellsRow.holds Try.pinned (OpenSpec.ofChange nameTellsSpec)

/-- ITS FALSE NEIGHBOUR: 'it returns false'. Refute it at one input. -/
def nameTellsWrong : ChangeSpec := { name := "nameTells", fn := fun _ => fun
  | [d1, d2] => { results := [.lit (.bool false)], args := [d1, d2] }
  | _ => none }
def NameTellsWrongFalsely : Prop := nameTellsRow.holds Try.pinned (OpenSpec.ofChange nameTellsWrong)

/-- 'pantilelaw14.NameTops': WHATEVER THE INPUT: true; the input reads as it did. -/
def nameTopsSpec : ChangeSpec := { name := "nameTops", fn := fun _ => fun
  | [d] => { results := [.lit (.bool true)], args := [d] }
  | _ => none }
def nameTopsRow : OpenClaim := { program := "ytnbdnnlomgjlmaa", sum := "b138a21d19c7821da85e24c387fefaec7381e52b13a447bbccb7912cee9f07bc", func := "pantile/pantilelaw14.NameTops", spec := "nameTops", unfollowed := true, recurses := true, apart := false }
def NameTopsSaid : Prop := nameTopsRow.holds Try.pinned (OpenSpec.ofChange nameTopsSpec)

/-- ITS FALSE NEIGHBOUR: 'it returns false'. Refute it at one input. -/
def nameTopsWrong : ChangeSpec := { name := "nameTops", fn := fun _ => fun
  | [d] => { results := [.lit (.bool false)], args := [d] }
  | _ => none }
def NameTopsWrongFalsely : Prop := nameTopsRow.holds Try.pinned (OpenSpec.ofChange nameTopsWrong)

/-- 'pantilelaw14.NameOrder': WHATEVER THE INPUT: true; the input reads as it did. -/
def nameOrderSpec : ChangeSpec := { name := "nameOrder", fn := fun _ => fun
  | [d1, d2, d3] => { results := [.lit (.bool true)], args := [d1, d2, d3] }
  | _ => none }
def nameOrderRow : OpenClaim := { program := "ytnbdnnlomgjlmaa", sum := "b138a21d19c7821da85e24c387fefaec7381e52b13a447bbccb7912cee9f07bc", func := "pantile/pantilelaw14.NameOrder", spec := "nameOrder", unfollowed := true, recurses := true, apart := false }
def NameOrderSaid : Prop := nameOrderRow.holds Try.pinned (OpenSpec.ofChange nameOrderSpec)

/-- ITS FALSE NEIGHBOUR: 'it returns false'. Refute it at one input. -/
def nameOrderWrong : ChangeSpec := { name := "nameOrder", fn := fun _ => fun
  | [d1, d2, d3] => { results := [.lit (.bool false)], args := [d1, d2, d3] }
  | _ => none }
def NameOrderWrongFalsely : Prop := nameOrderRow.holds Try.pinned (OpenSpec.ofChange nameOrderWrong)

/-- 'pantilelaw14.NameSplits': WHATEVER THE INPUT: true; the input reads as it did. -/
def nameSplitsSpec : ChangeSpec := { name := "nameSplits", fn := fun _ => fun
  | [d] => { results := [.lit (.bool true)], args := [d] }
  | _ => none }
def nameSplitsRow : OpenClaim := { program := "ytnbdnnlomgjlmaa", sum := "b138a21d19c7821da85e24c387fefaec7381e52b13a447bbccb7912cee9f07bc", func := "pantile/pantilelaw14.NameSplits", spec := "nameSplits", unfollowed := true, recurses := true, apart := false }
def NameSplitsSaid : Prop := nameSplitsRow.holds Try.pinned (OpenSpec.ofChange nameSplitsSpec)

/-- ITS FALSE NEIGHBOUR: 'it returns false'. Refute it at one input. -/
def nameSplitsWrong : ChangeSpec := { name := "nameSplits", fn := fun _ => fun
  | [d] => { results := [.lit (.bool false)], args := [d] }
  | _ => none }
def NameSplitsWrongFalsely : Prop := nameSplitsRow.holds Try.pinned (OpenSpec.ofChange nameSplitsWrong)

/-- 'pantilelaw06.CardTurns': WHATEVER THE INPUT: true; the input reads as it did. -/
def cardTurnsSpec : ChangeSpec := { name := "cardTurns", fn := fun _ => fun
  | [d1, d2, d3] => { results := [.lit (.bool true)], args := [d1, d2, d3] }
  | _ => none }
def cardTurnsRow : OpenClaim := { program := "ytnbdnnlomgjlmaa", sum := "b138a21d19c7821da85e24c387fefaec7381e52b13a447bbccb7912cee9f07bc", func := "pantile/pantilelaw06.CardTurns", spec := "cardTurns", unfollowed := true, recurses := true, apart := false }
def CardTurnsSaid : Prop := cardTurnsRow.holds Try.pinned (OpenSpec.ofChange cardTurnsSpec)

/-- ITS FALSE NEIGHBOUR: 'it returns false'. Refute it at one input. -/
def cardTurnsWrong : ChangeSpec := { name := "cardTurns", fn := fun _ => fun
  | [d1, d2, d3] => { results := [.lit (.bool false)], args := [d1, d2, d3] }
  | _ => none }
def CardTurnsWrongFalsely : Prop := cardTurnsRow.holds Try.pinned (OpenSpec.ofChange cardTurnsWrong)

/-- 'pantilelaw03.DevFuses': WHATEVER THE INPUT: true; the input reads as it did. -/
def devFusesSpec : ChangeSpec := { name := "devFuses", fn := fun _ => fun
  | [d1, d2] => { results := [.lit (.bool true)], args := [d1, d2] }
  | _ => none }
def devFusesRow : OpenClaim := { program := "ytnbdnnlomgjlmaa", sum := "b138a21d19c7821da85e24c387fefaec7381e52b13a447bbccb7912cee9f07bc", func := "pantile/pantilelaw03.DevFuses", spec := "devFuses", unfollowed := true, recurses := true, apart := false }
def DevFusesSaid : Prop := devFusesRow.holds Try.pinned (OpenSpec.ofChange devFusesSpec)

/-- ITS FALSE NEIGHBOUR: 'it returns false'. Refute it at one input. -/
def devFusesWrong : ChangeSpec := { name := "devFuses", fn := fun _ => fun
  | [d1, d2] => { results := [.lit (.bool false)], args := [d1, d2] }
  | _ => none }
def DevFusesWrongFalsely : Prop := devFusesRow.holds Try.pinned (OpenSpec.ofChange devFusesWrong)

/-- 'pantilelaw03.DevCrashes': WHATEVER THE INPUT: true; the input reads as it did. -/
def devCrashesSpec : ChangeSpec := { name := "devCrashes", fn := fun _ => fun
  | [d1, d2] => { results := [.lit (.bool true)], args := [d1, d2] }
  | _ => none }
def devCrashesRow : OpenClaim := { program := "ytnbdnnlomgjlmaa", sum := "b138a21d19c7821da85e24c387fefaec7381e52b13a447bbccb7912cee9f07bc", func := "pantile/pantilelaw03.DevCrashes", spec := "devCrashes", inPlace := ["maps.clone"], unfollowed := true, recurses := true, apart := false }
def DevCrashesSaid : Prop := devCrashesRow.holds Try.pinned (OpenSpec.ofChange devCrashesSpec)

/-- ITS FALSE NEIGHBOUR: 'it returns false'. Refute it at one input. -/
def devCrashesWrong : ChangeSpec := { name := "devCrashes", fn := fun _ => fun
  | [d1, d2] => { results := [.lit (.bool false)], args := [d1, d2] }
  | _ => none }
def DevCrashesWrongFalsely : Prop := devCrashesRow.holds Try.pinned (OpenSpec.ofChange devCrashesWrong)

/-- 'pantilelaw03.DevApart': WHATEVER THE INPUT: true; the input reads as it did. -/
def devApartSpec : ChangeSpec := { name := "devApart", fn := fun _ => fun
  | [d1, d2] => { results := [.lit (.bool true)], args := [d1, d2] }
  | _ => none }
def devApartRow : OpenClaim := { program := "ytnbdnnlomgjlmaa", sum := "b138a21d19c7821da85e24c387fefaec7381e52b13a447bbccb7912cee9f07bc", func := "pantile/pantilelaw03.DevApart", spec := "devApart", inPlace := ["maps.clone"], unfollowed := true, recurses := true, apart := false }
def DevApartSaid : Prop := devApartRow.holds Try.pinned (OpenSpec.ofChange devApartSpec)

/-- ITS FALSE NEIGHBOUR: 'it returns false'. Refute it at one input. -/
def devApartWrong : ChangeSpec := { name := "devApart", fn := fun _ => fun
  | [d1, d2] => { results := [.lit (.bool false)], args := [d1, d2] }
  | _ => none }
def DevApartWrongFalsely : Prop := devApartRow.holds Try.pinned (OpenSpec.ofChange devApartWrong)

/- THE SECOND FORM. 'bulk': how many values and letters a reading holds, each counted each time it is reached (what is shared counts as often as it is met; a slice's spare places count too). A statement '..UptoSaid' is the law's where the arguments, and the package variables that the reading takes, are together of bulk at most 1048576: NARROWER than '..Said'. Prove '..Said' where nothing that the law and all that it calls make is longer than what came in: it says more and counts as full. Else prove '..UptoSaid'. A law counts once. -/
mutual
def uptoBulk {H : Type} : DataW H → Nat
  | .lit (.string bytes) => bytes.length + 1
  | .lit _ => 1
  | .nil => 1
  | .ptr d => uptoBulk d + 1
  | .slice elems spare => uptoBulkAll elems + uptoBulkAll spare + 1
  | .agg parts => uptoBulkAll parts + 1
  | .iface _ d => uptoBulk d + 1
  | .map entries => uptoBulkEntries entries + 1
  | .held _ => 1
def uptoBulkAll {H : Type} : List (DataW H) → Nat
  | [] => 0
  | d :: r => uptoBulk d + uptoBulkAll r
def uptoBulkEntries {H : Type} : List (Lit × DataW H) → Nat
  | [] => 0
  | x :: r => uptoBulkEntry x + uptoBulkEntries r
def uptoBulkEntry {H : Type} : Lit × DataW H → Nat
  | (.string bytes, d) => bytes.length + uptoBulk d + 1
  | (_, d) => uptoBulk d + 1
 end
def uptoSmall : (H : Type) → List (DataW H) → Bool := fun _ ds => decide (uptoBulkAll ds ≤ 1048576)
def OpenSpec.upto (s : _root_.Go.ChangeSpec) : _root_.Go.OpenSpec := { _root_.Go.OpenSpec.ofChange s with cond := some uptoSmall }

/-- 'pantilelaw01.CrcTells', WHERE WHAT IT READS IS OF BULK AT MOST 1048576: true; the input reads as it did. -/
def crcTellsUptoRow : OpenClaim := { program := "ytnbdnnlomgjlmaa", sum := "b138a21d19c7821da85e24c387fefaec7381e52b13a447bbccb7912cee9f07bc", func := "pantile/pantilelaw01.CrcTells", spec := "crcTells", apart := false, narrowed := true }
def CrcTellsUptoSaid : Prop := crcTellsUptoRow.holds Try.pinned (OpenSpec.upto crcTellsSpec)

/-- 'pantilelaw01.CrcSeals', WHERE WHAT IT READS IS OF BULK AT MOST 1048576: true; the input reads as it did. -/
def crcSealsUptoRow : OpenClaim := { program := "ytnbdnnlomgjlmaa", sum := "b138a21d19c7821da85e24c387fefaec7381e52b13a447bbccb7912cee9f07bc", func := "pantile/pantilelaw01.CrcSeals", spec := "crcSeals", apart := false, narrowed := true }
def CrcSealsUptoSaid : Prop := crcSealsUptoRow.holds Try.pinned (OpenSpec.upto crcSealsSpec)

/-- 'pantilelaw01.CrcBursts', WHERE WHAT IT READS IS OF BULK AT MOST 1048576: true; the input reads as it did. -/
def crcBurstsUptoRow : OpenClaim := { program := "ytnbdnnlomgjlmaa", sum := "b138a21d19c7821da85e24c387fefaec7381e52b13a447bbccb7912cee9f07bc", func := "pantile/pantilelaw01.CrcBursts", spec := "crcBursts", apart := false, narrowed := true }
def CrcBurstsUptoSaid : Prop := crcBurstsUptoRow.holds Try.pinned (OpenSpec.upto crcBurstsSpec)

/-- 'pantilelaw01.CrcMixes', WHERE WHAT IT READS IS OF BULK AT MOST 1048576: true; the input reads as it did. -/
def crcMixesUptoRow : OpenClaim := { program := "ytnbdnnlomgjlmaa", sum := "b138a21d19c7821da85e24c387fefaec7381e52b13a447bbccb7912cee9f07bc", func := "pantile/pantilelaw01.CrcMixes", spec := "crcMixes", apart := false, narrowed := true }
def CrcMixesUptoSaid : Prop := crcMixesUptoRow.holds Try.pinned (OpenSpec.upto crcMixesSpec)

/-- 'pantilelaw14.NameTells', WHERE WHAT IT READS IS OF BULK AT MOST 1048576: true; the input reads as it did. -/
def nameTellsUptoRow : OpenClaim := { program := "ytnbdnnlomgjlmaa", sum := "b138a21d19c7821da85e24c387fefaec7381e52b13a447bbccb7912cee9f07bc", func := "pantile/pantilelaw14.NameTells", spec := "nameTells", unfollowed := true, recurses := true, apart := false, narrowed := true }
def NameTellsUptoSaid : Prop := nameTellsUptoRow.holds Try.pinned (OpenSpec.upto nameTellsSpec)

/-- 'pantilelaw14.NameTops', WHERE WHAT IT READS IS OF BULK AT MOST 1048576: true; the input reads as it did. -/
def nameTopsUptoRow : OpenClaim := { program := "ytnbdnnlomgjlmaa", sum := "b138a21d19c7821da85e24c387fefaec7381e52b13a447bbccb7912cee9f07bc", func := "pantile/pantilelaw14.NameTops", spec := "nameTops", unfollowed := true, recurses := true, apart := false, narrowed := true }
def NameTopsUptoSaid : Prop := nameTopsUptoRow.holds Try.pinned (OpenSpec.upto nameTopsSpec)

/-- 'pantilelaw14.NameOrder', WHERE WHAT IT READS IS OF BULK AT MOST 1048576: true; the input reads as it did. -/
def nameOrderUptoRow : OpenClaim := { program := "ytnbdnnlomgjlmaa", sum := "b138a21d19c7821da85e24c387fefaec7381e52b13a447bbccb7912cee9f07bc", func := "pantile/pantilelaw14.NameOrder", spec := "nameOrder", unfollowed := true, recurses := true, apart := false, narrowed := true }
def NameOrderUptoSaid : Prop := nameOrderUptoRow.holds Try.pinned (OpenSpec.upto nameOrderSpec)

/-- 'pantilelaw14.NameSplits', WHERE WHAT IT READS IS OF BULK AT MOST 1048576: true; the input reads as it did. -/
def nameSplitsUptoRow : OpenClaim := { program := "ytnbdnnlomgjlmaa", sum := "b138a21d19c7821da85e24c387fefaec7381e52b13a447bbccb7912cee9f07bc", func := "pantile/pantilelaw14.NameSplits", spec := "nameSplits", unfollowed := true, recurses := true, apart := false, narrowed := true }
def NameSplitsUptoSaid : Prop := nameSplitsUptoRow.holds Try.pinned (OpenSpec.upto nameSplitsSpec)

/-- 'pantilelaw06.CardTurns', WHERE WHAT IT READS IS OF BULK AT MOST 1048576: true; the input reads as it did. -/
def cardTurnsUptoRow : OpenClaim := { program := "ytnbdnnlomgjlmaa", sum := "b138a21d19c7821da85e24c387fefaec7381e52b13a447bbccb7912cee9f07bc", func := "pantile/pantilelaw06.CardTurns", spec := "cardTurns", unfollowed := true, recurses := true, apart := false, narrowed := true }
def CardTurnsUptoSaid : Prop := cardTurnsUptoRow.holds Try.pinned (OpenSpec.upto cardTurnsSpec)

/-- 'pantilelaw03.DevFuses', WHERE WHAT IT READS IS OF BULK AT MOST 1048576: true; the input reads as it did. -/
def devFusesUptoRow : OpenClaim := { program := "ytnbdnnlomgjlmaa", sum := "b138a21d19c7821da85e24c387fefaec7381e52b13a447bbccb7912cee9f07bc", func := "pantile/pantilelaw03.DevFuses", spec := "devFuses", unfollowed := true, recurses := true, apart := false, narrowed := true }
def DevFusesUptoSaid : Prop := devFusesUptoRow.holds Try.pinned (OpenSpec.upto devFusesSpec)

/-- 'pantilelaw03.DevCrashes', WHERE WHAT IT READS IS OF BULK AT MOST 1048576: true; the input reads as it did. -/
def devCrashesUptoRow : OpenClaim := { program := "ytnbdnnlomgjlmaa", sum := "b138a21d19c7821da85e24c387fefaec7381e52b13a447bbccb7912cee9f07bc", func := "pantile/pantilelaw03.DevCrashes", spec := "devCrashes", inPlace := ["maps.clone"], unfollowed := true, recurses := true, apart := false, narrowed := true }
def DevCrashesUptoSaid : Prop := devCrashesUptoRow.holds Try.pinned (OpenSpec.upto devCrashesSpec)

/-- 'pantilelaw03.DevApart', WHERE WHAT IT READS IS OF BULK AT MOST 1048576: true; the input reads as it did. -/
def devApartUptoRow : OpenClaim := { program := "ytnbdnnlomgjlmaa", sum := "b138a21d19c7821da85e24c387fefaec7381e52b13a447bbccb7912cee9f07bc", func := "pantile/pantilelaw03.DevApart", spec := "devApart", inPlace := ["maps.clone"], unfollowed := true, recurses := true, apart := false, narrowed := true }
def DevApartUptoSaid : Prop := devApartUptoRow.holds Try.pinned (OpenSpec.upto devApartSpec)

end Rows
end Go.Proofs.Ytnbdnnlomgjlmaa
