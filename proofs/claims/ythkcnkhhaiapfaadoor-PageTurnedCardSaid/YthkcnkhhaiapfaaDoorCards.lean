/-
  DERIVED. GIVEN WITH THE SEED: THE CARDS: each row of YthkcnkhhaiapfaaDoorRows.lean that lists a variable, with what it lists TIED to the program's text (the seventh form; the later family's looks); each row that meets fmt, with fmt's text TOLD by the authors' own Lean function (tested against real Go, not proved from fmt's source: count such statements apart). THE CARD IS WHAT COUNTS. Prove the row's statement (the work); the ties are given (YthkcnkhhaiapfaaDoorTie.lean); close each card by the builder's one call (the guide's Derived/Test/ToyasCard.lean, 'card_holds'). Laid BY PROGRAM, IN A SANDBOX (cutbox-door.mjs). By AI agents, Wed Nov 11 2026. No macro, syntax, notation, axiom, sorry.
-/
import Derived.Test.YthkcnkhhaiapfaaDoorRows
import GoSem.ClaimSeven
namespace Go.Proofs.YthkcnkhhaiapfaaDoor
namespace Rows

/-- THE TIED CARD OF 'aquiferlaw01.CastagnoliSums'. -/
def castagnoliSumsCard : Claim7 := { stood := { row := castagnoliSumsRow, standIns := [], harness := (true, "bd9ee58bd62b39b903ef35433e4b8953cb4bead3f41128e31f095d8d2ed73185"), looks := false }, kinds := [], alts := [], laidByText := true, laidKinds := [.data], laidTests := true, laidLooks := .later }
def CastagnoliSumsCardSaid : Prop := Claim7.holds Tryd.pinned (.plain (OpenSpec.ofChange castagnoliSumsSpec)) castagnoliSumsCard

/-- THE TIED CARD OF 'aquiferlaw09.PageLess'. -/
def pageLessCard : Claim7 := { stood := { row := pageLessRow, standIns := [], harness := (true, "bd9ee58bd62b39b903ef35433e4b8953cb4bead3f41128e31f095d8d2ed73185"), looks := false }, kinds := [], alts := [], laidByText := true, laidKinds := [.data, .data, .pinned], laidTests := true, laidLooks := .later }
def PageLessCardSaid : Prop := Claim7.holds Tryd.pinned (.plain (OpenSpec.ofChange pageLessSpec)) pageLessCard

/-- THE TIED CARD OF 'aquiferlaw01.CastagnoliParts'. -/
def castagnoliPartsCard : Claim7 := { stood := { row := castagnoliPartsRow, standIns := [], harness := (true, "bd9ee58bd62b39b903ef35433e4b8953cb4bead3f41128e31f095d8d2ed73185"), looks := false }, kinds := [], alts := [], laidByText := true, laidKinds := [.data], laidTests := true, laidLooks := .later }
def CastagnoliPartsCardSaid : Prop := Claim7.holds Tryd.pinned (.plain (OpenSpec.ofChange castagnoliPartsSpec)) castagnoliPartsCard

/-- THE TIED CARD OF 'aquiferlaw01.CastagnoliBurst'. -/
def castagnoliBurstCard : Claim7 := { stood := { row := castagnoliBurstRow, standIns := [], harness := (true, "bd9ee58bd62b39b903ef35433e4b8953cb4bead3f41128e31f095d8d2ed73185"), looks := false }, kinds := [], alts := [], laidByText := true, laidKinds := [.data], laidTests := true, laidLooks := .later }
def CastagnoliBurstCardSaid : Prop := Claim7.holds Tryd.pinned (.plain (OpenSpec.ofChange castagnoliBurstSpec)) castagnoliBurstCard

/-- THE TIED CARD OF 'aquiferlaw09.PageCuts'. -/
def pageCutsCard : Claim7 := { stood := { row := pageCutsRow, standIns := [], harness := (true, "bd9ee58bd62b39b903ef35433e4b8953cb4bead3f41128e31f095d8d2ed73185"), looks := false }, kinds := [], alts := [], laidByText := true, laidKinds := [.data, .data, .pinned], laidTests := true, laidLooks := .later }
def PageCutsCardSaid : Prop := Claim7.holds Tryd.pinned (.plain (OpenSpec.ofChange pageCutsSpec)) pageCutsCard

/-- THE TIED CARD OF 'aquiferlaw01.CastagnoliLinear'. -/
def castagnoliLinearCard : Claim7 := { stood := { row := castagnoliLinearRow, standIns := [], harness := (true, "bd9ee58bd62b39b903ef35433e4b8953cb4bead3f41128e31f095d8d2ed73185"), looks := false }, kinds := [], alts := [], laidByText := true, laidKinds := [.data], laidTests := true, laidLooks := .later }
def CastagnoliLinearCardSaid : Prop := Claim7.holds Tryd.pinned (.plain (OpenSpec.ofChange castagnoliLinearSpec)) castagnoliLinearCard

/-- THE TIED CARD OF 'aquiferlaw01.CastagnoliCombines'. -/
def castagnoliCombinesCard : Claim7 := { stood := { row := castagnoliCombinesRow, standIns := [], harness := (true, "bd9ee58bd62b39b903ef35433e4b8953cb4bead3f41128e31f095d8d2ed73185"), looks := false }, kinds := [], alts := [], laidByText := true, laidKinds := [.data], laidTests := true, laidLooks := .later }
def CastagnoliCombinesCardSaid : Prop := Claim7.holds Tryd.pinned (.plain (OpenSpec.ofChange castagnoliCombinesSpec)) castagnoliCombinesCard

/-- THE TIED CARD OF 'aquiferlaw01.CastagnoliZeros'. -/
def castagnoliZerosCard : Claim7 := { stood := { row := castagnoliZerosRow, standIns := [], harness := (true, "bd9ee58bd62b39b903ef35433e4b8953cb4bead3f41128e31f095d8d2ed73185"), looks := false }, kinds := [], alts := [], laidByText := true, laidKinds := [.data], laidTests := true, laidLooks := .later }
def CastagnoliZerosCardSaid : Prop := Claim7.holds Tryd.pinned (.plain (OpenSpec.ofChange castagnoliZerosSpec)) castagnoliZerosCard

/-- THE TIED CARD OF 'aquiferlaw09.PageSeals'. -/
def pageSealsCard : Claim7 := { stood := { row := pageSealsRow, standIns := [], harness := (true, "bd9ee58bd62b39b903ef35433e4b8953cb4bead3f41128e31f095d8d2ed73185"), looks := false }, kinds := [], alts := [], laidByText := true, laidKinds := [.data, .data, .pinned], laidTests := true, laidLooks := .later }
def PageSealsCardSaid : Prop := Claim7.holds Tryd.pinned (.plain (OpenSpec.ofChange pageSealsSpec)) pageSealsCard

/-- THE TIED CARD OF 'aquiferlaw09.PageOpens'. -/
def pageOpensCard : Claim7 := { stood := { row := pageOpensRow, standIns := [], harness := (true, "bd9ee58bd62b39b903ef35433e4b8953cb4bead3f41128e31f095d8d2ed73185"), looks := false }, kinds := [], alts := [], laidByText := true, laidKinds := [.data, .data, .pinned], laidTests := true, laidLooks := .later }
def PageOpensCardSaid : Prop := Claim7.holds Tryd.pinned (.plain (OpenSpec.ofChange pageOpensSpec)) pageOpensCard

/-- THE TIED CARD OF 'aquiferlaw09.PageBack'. -/
def pageBackCard : Claim7 := { stood := { row := pageBackRow, standIns := [], harness := (true, "bd9ee58bd62b39b903ef35433e4b8953cb4bead3f41128e31f095d8d2ed73185"), looks := false }, kinds := [], alts := [], laidByText := true, laidKinds := [.data, .data, .pinned], laidTests := true, laidLooks := .later }
def PageBackCardSaid : Prop := Claim7.holds Tryd.pinned (.plain (OpenSpec.ofChange pageBackSpec)) pageBackCard

/-- THE TIED CARD OF 'aquiferlaw09.PageTurned'. -/
def pageTurnedCard : Claim7 := { stood := { row := pageTurnedRow, standIns := [], harness := (true, "bd9ee58bd62b39b903ef35433e4b8953cb4bead3f41128e31f095d8d2ed73185"), looks := false }, kinds := [], alts := [], laidByText := true, laidKinds := [.data, .data, .pinned], laidTests := true, laidLooks := .later }
def PageTurnedCardSaid : Prop := Claim7.holds Tryd.pinned (.plain (OpenSpec.ofChange pageTurnedSpec)) pageTurnedCard

/-- THE SECOND FORM's CARD OF 'aquiferlaw01.CastagnoliSums'. -/
def castagnoliSumsUptoCard : Claim7 := { stood := { row := castagnoliSumsUptoRow, standIns := [], harness := (true, "bd9ee58bd62b39b903ef35433e4b8953cb4bead3f41128e31f095d8d2ed73185"), looks := false }, kinds := [], alts := [], laidByText := true, laidKinds := [.data], laidTests := true, laidLooks := .later }
def CastagnoliSumsUptoCardSaid : Prop := Claim7.holds Tryd.pinned (.plain (OpenSpec.upto castagnoliSumsSpec)) castagnoliSumsUptoCard

/-- THE SECOND FORM's CARD OF 'aquiferlaw09.PageLess'. -/
def pageLessUptoCard : Claim7 := { stood := { row := pageLessUptoRow, standIns := [], harness := (true, "bd9ee58bd62b39b903ef35433e4b8953cb4bead3f41128e31f095d8d2ed73185"), looks := false }, kinds := [], alts := [], laidByText := true, laidKinds := [.data, .data, .pinned], laidTests := true, laidLooks := .later }
def PageLessUptoCardSaid : Prop := Claim7.holds Tryd.pinned (.plain (OpenSpec.upto pageLessSpec)) pageLessUptoCard

/-- THE SECOND FORM's CARD OF 'aquiferlaw01.CastagnoliParts'. -/
def castagnoliPartsUptoCard : Claim7 := { stood := { row := castagnoliPartsUptoRow, standIns := [], harness := (true, "bd9ee58bd62b39b903ef35433e4b8953cb4bead3f41128e31f095d8d2ed73185"), looks := false }, kinds := [], alts := [], laidByText := true, laidKinds := [.data], laidTests := true, laidLooks := .later }
def CastagnoliPartsUptoCardSaid : Prop := Claim7.holds Tryd.pinned (.plain (OpenSpec.upto castagnoliPartsSpec)) castagnoliPartsUptoCard

/-- THE SECOND FORM's CARD OF 'aquiferlaw01.CastagnoliBurst'. -/
def castagnoliBurstUptoCard : Claim7 := { stood := { row := castagnoliBurstUptoRow, standIns := [], harness := (true, "bd9ee58bd62b39b903ef35433e4b8953cb4bead3f41128e31f095d8d2ed73185"), looks := false }, kinds := [], alts := [], laidByText := true, laidKinds := [.data], laidTests := true, laidLooks := .later }
def CastagnoliBurstUptoCardSaid : Prop := Claim7.holds Tryd.pinned (.plain (OpenSpec.upto castagnoliBurstSpec)) castagnoliBurstUptoCard

/-- THE SECOND FORM's CARD OF 'aquiferlaw09.PageCuts'. -/
def pageCutsUptoCard : Claim7 := { stood := { row := pageCutsUptoRow, standIns := [], harness := (true, "bd9ee58bd62b39b903ef35433e4b8953cb4bead3f41128e31f095d8d2ed73185"), looks := false }, kinds := [], alts := [], laidByText := true, laidKinds := [.data, .data, .pinned], laidTests := true, laidLooks := .later }
def PageCutsUptoCardSaid : Prop := Claim7.holds Tryd.pinned (.plain (OpenSpec.upto pageCutsSpec)) pageCutsUptoCard

/-- THE SECOND FORM's CARD OF 'aquiferlaw01.CastagnoliLinear'. -/
def castagnoliLinearUptoCard : Claim7 := { stood := { row := castagnoliLinearUptoRow, standIns := [], harness := (true, "bd9ee58bd62b39b903ef35433e4b8953cb4bead3f41128e31f095d8d2ed73185"), looks := false }, kinds := [], alts := [], laidByText := true, laidKinds := [.data], laidTests := true, laidLooks := .later }
def CastagnoliLinearUptoCardSaid : Prop := Claim7.holds Tryd.pinned (.plain (OpenSpec.upto castagnoliLinearSpec)) castagnoliLinearUptoCard

/-- THE SECOND FORM's CARD OF 'aquiferlaw01.CastagnoliCombines'. -/
def castagnoliCombinesUptoCard : Claim7 := { stood := { row := castagnoliCombinesUptoRow, standIns := [], harness := (true, "bd9ee58bd62b39b903ef35433e4b8953cb4bead3f41128e31f095d8d2ed73185"), looks := false }, kinds := [], alts := [], laidByText := true, laidKinds := [.data], laidTests := true, laidLooks := .later }
def CastagnoliCombinesUptoCardSaid : Prop := Claim7.holds Tryd.pinned (.plain (OpenSpec.upto castagnoliCombinesSpec)) castagnoliCombinesUptoCard

/-- THE SECOND FORM's CARD OF 'aquiferlaw01.CastagnoliZeros'. -/
def castagnoliZerosUptoCard : Claim7 := { stood := { row := castagnoliZerosUptoRow, standIns := [], harness := (true, "bd9ee58bd62b39b903ef35433e4b8953cb4bead3f41128e31f095d8d2ed73185"), looks := false }, kinds := [], alts := [], laidByText := true, laidKinds := [.data], laidTests := true, laidLooks := .later }
def CastagnoliZerosUptoCardSaid : Prop := Claim7.holds Tryd.pinned (.plain (OpenSpec.upto castagnoliZerosSpec)) castagnoliZerosUptoCard

/-- THE SECOND FORM's CARD OF 'aquiferlaw09.PageSeals'. -/
def pageSealsUptoCard : Claim7 := { stood := { row := pageSealsUptoRow, standIns := [], harness := (true, "bd9ee58bd62b39b903ef35433e4b8953cb4bead3f41128e31f095d8d2ed73185"), looks := false }, kinds := [], alts := [], laidByText := true, laidKinds := [.data, .data, .pinned], laidTests := true, laidLooks := .later }
def PageSealsUptoCardSaid : Prop := Claim7.holds Tryd.pinned (.plain (OpenSpec.upto pageSealsSpec)) pageSealsUptoCard

/-- THE SECOND FORM's CARD OF 'aquiferlaw09.PageOpens'. -/
def pageOpensUptoCard : Claim7 := { stood := { row := pageOpensUptoRow, standIns := [], harness := (true, "bd9ee58bd62b39b903ef35433e4b8953cb4bead3f41128e31f095d8d2ed73185"), looks := false }, kinds := [], alts := [], laidByText := true, laidKinds := [.data, .data, .pinned], laidTests := true, laidLooks := .later }
def PageOpensUptoCardSaid : Prop := Claim7.holds Tryd.pinned (.plain (OpenSpec.upto pageOpensSpec)) pageOpensUptoCard

/-- THE SECOND FORM's CARD OF 'aquiferlaw09.PageBack'. -/
def pageBackUptoCard : Claim7 := { stood := { row := pageBackUptoRow, standIns := [], harness := (true, "bd9ee58bd62b39b903ef35433e4b8953cb4bead3f41128e31f095d8d2ed73185"), looks := false }, kinds := [], alts := [], laidByText := true, laidKinds := [.data, .data, .pinned], laidTests := true, laidLooks := .later }
def PageBackUptoCardSaid : Prop := Claim7.holds Tryd.pinned (.plain (OpenSpec.upto pageBackSpec)) pageBackUptoCard

/-- THE SECOND FORM's CARD OF 'aquiferlaw09.PageTurned'. -/
def pageTurnedUptoCard : Claim7 := { stood := { row := pageTurnedUptoRow, standIns := [], harness := (true, "bd9ee58bd62b39b903ef35433e4b8953cb4bead3f41128e31f095d8d2ed73185"), looks := false }, kinds := [], alts := [], laidByText := true, laidKinds := [.data, .data, .pinned], laidTests := true, laidLooks := .later }
def PageTurnedUptoCardSaid : Prop := Claim7.holds Tryd.pinned (.plain (OpenSpec.upto pageTurnedSpec)) pageTurnedUptoCard
end Rows
end Go.Proofs.YthkcnkhhaiapfaaDoor
