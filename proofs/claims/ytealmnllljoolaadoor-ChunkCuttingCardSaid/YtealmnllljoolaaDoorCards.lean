/-
  DERIVED. GIVEN WITH THE SEED: THE CARDS: each row of YtealmnllljoolaaDoorRows.lean that lists a variable, with what it lists TIED to the program's text (the seventh form; the later family's looks); each row that meets fmt, with fmt's text TOLD by the authors' own Lean function (tested against real Go, not proved from fmt's source: count such statements apart). THE CARD IS WHAT COUNTS. Prove the row's statement (the work); the ties are given (YtealmnllljoolaaDoorTie.lean); close each card by the builder's one call (the guide's Derived/Test/ToyasCard.lean, 'card_holds'). Laid BY PROGRAM, IN A SANDBOX (cutbox-door.mjs). By AI agents, Wed Nov 11 2026. No macro, syntax, notation, axiom, sorry.
-/
import Derived.Test.YtealmnllljoolaaDoorRows
import GoSem.ClaimSeven
namespace Go.Proofs.YtealmnllljoolaaDoor
namespace Rows

/-- THE TIED CARD OF 'aquiferlaw15.ChunkCutting'. -/
def chunkCuttingCard : Claim7 := { stood := { row := chunkCuttingRow, standIns := [], harness := (true, "544c324e9cfd33be5361da06cb7469b55d006d6be139d4ed603d527b2213f147"), looks := false }, kinds := [], alts := [], laidByText := true, laidKinds := [.data, .pinned], laidTests := true, laidLooks := .later }
def ChunkCuttingCardSaid : Prop := Claim7.holds Tryd.pinned (.plain (OpenSpec.ofChange chunkCuttingSpec)) chunkCuttingCard

/-- THE SECOND FORM's CARD OF 'aquiferlaw15.ChunkCutting'. -/
def chunkCuttingUptoCard : Claim7 := { stood := { row := chunkCuttingUptoRow, standIns := [], harness := (true, "544c324e9cfd33be5361da06cb7469b55d006d6be139d4ed603d527b2213f147"), looks := false }, kinds := [], alts := [], laidByText := true, laidKinds := [.data, .pinned], laidTests := true, laidLooks := .later }
def ChunkCuttingUptoCardSaid : Prop := Claim7.holds Tryd.pinned (.plain (OpenSpec.upto chunkCuttingSpec)) chunkCuttingUptoCard
end Rows
end Go.Proofs.YtealmnllljoolaaDoor
