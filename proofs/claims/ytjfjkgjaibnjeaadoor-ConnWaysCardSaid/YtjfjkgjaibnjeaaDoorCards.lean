/-
  DERIVED. GIVEN WITH THE SEED: THE CARDS: each row of YtjfjkgjaibnjeaaDoorRows.lean that lists a variable, with what it lists TIED to the program's text (the seventh form; the later family's looks); each row that meets fmt, with fmt's text TOLD by the authors' own Lean function (tested against real Go, not proved from fmt's source: count such statements apart). THE CARD IS WHAT COUNTS. Prove the row's statement (the work); the ties are given (YtjfjkgjaibnjeaaDoorTie.lean); close each card by the builder's one call (the guide's Derived/Test/ToyasCard.lean, 'card_holds'). Laid BY PROGRAM, IN A SANDBOX (cutbox-door.mjs). By AI agents, Wed Nov 11 2026. No macro, syntax, notation, axiom, sorry.
-/
import Derived.Test.YtjfjkgjaibnjeaaDoorRows
import GoSem.ClaimSeven
namespace Go.Proofs.YtjfjkgjaibnjeaaDoor
namespace Rows

/-- THE TIED CARD OF 'patchbaylaw3.ConnSays'. -/
def connSaysCard : Claim7 := { stood := { row := connSaysRow, standIns := [], harness := (true, "b8074163611696cddd2f99b6af9fdc43305fa3a1e6d9dfc0269d64d0aa576714"), looks := false }, kinds := [], alts := [], laidByText := true, laidKinds := [.data], laidTests := true, laidLooks := .later }
def ConnSaysCardSaid : Prop := Claim7.holds Tryd.pinned (.plain (OpenSpec.ofChange connSaysSpec)) connSaysCard

/-- THE TIED CARD OF 'patchbaylaw3.ConnWays'. -/
def connWaysCard : Claim7 := { stood := { row := connWaysRow, standIns := [], harness := (true, "b8074163611696cddd2f99b6af9fdc43305fa3a1e6d9dfc0269d64d0aa576714"), looks := false }, kinds := [], alts := [], laidByText := true, laidKinds := [.data], laidTests := true, laidLooks := .later }
def ConnWaysCardSaid : Prop := Claim7.holds Tryd.pinned (.plain (OpenSpec.ofChange connWaysSpec)) connWaysCard

/-- THE SECOND FORM's CARD OF 'patchbaylaw3.ConnSays'. -/
def connSaysUptoCard : Claim7 := { stood := { row := connSaysUptoRow, standIns := [], harness := (true, "b8074163611696cddd2f99b6af9fdc43305fa3a1e6d9dfc0269d64d0aa576714"), looks := false }, kinds := [], alts := [], laidByText := true, laidKinds := [.data], laidTests := true, laidLooks := .later }
def ConnSaysUptoCardSaid : Prop := Claim7.holds Tryd.pinned (.plain (OpenSpec.upto connSaysSpec)) connSaysUptoCard

/-- THE SECOND FORM's CARD OF 'patchbaylaw3.ConnWays'. -/
def connWaysUptoCard : Claim7 := { stood := { row := connWaysUptoRow, standIns := [], harness := (true, "b8074163611696cddd2f99b6af9fdc43305fa3a1e6d9dfc0269d64d0aa576714"), looks := false }, kinds := [], alts := [], laidByText := true, laidKinds := [.data], laidTests := true, laidLooks := .later }
def ConnWaysUptoCardSaid : Prop := Claim7.holds Tryd.pinned (.plain (OpenSpec.upto connWaysSpec)) connWaysUptoCard
end Rows
end Go.Proofs.YtjfjkgjaibnjeaaDoor
