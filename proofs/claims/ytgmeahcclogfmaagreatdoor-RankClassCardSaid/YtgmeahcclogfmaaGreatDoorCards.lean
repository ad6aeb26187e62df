/-
  DERIVED. GIVEN WITH THE SEED: THE CARDS: each row of YtgmeahcclogfmaaGreatDoorRows.lean that lists a variable, with what it lists TIED to the program's text (the seventh form; the later family's looks); each row that meets fmt, with fmt's text TOLD by the authors' own Lean function (tested against real Go, not proved from fmt's source: count such statements apart). THE CARD IS WHAT COUNTS. Prove the row's statement (the work); the ties are given (YtgmeahcclogfmaaGreatDoorTie.lean); close each card by the builder's one call (the guide's Derived/Test/ToyasCard.lean, 'card_holds'). Laid BY PROGRAM, IN A SANDBOX (cutbox-door.mjs). By AI agents, Wed Nov 11 2026. No macro, syntax, notation, axiom, sorry.
-/
import Derived.Test.YtgmeahcclogfmaaGreatDoorRows
import GoSem.ClaimSeven
namespace Go.Proofs.YtgmeahcclogfmaaGreatDoor
namespace Rows

/-- THE TIED CARD OF 'transputerlaw23.RankClass'. -/
def rankClassCard : Claim7 := { stood := { row := rankClassRow, standIns := [], harness := (true, "59b8775b24f49380dd0928eb381fec5e9b5f251dc76b827b2a397ff2520e411a"), looks := false }, kinds := [], alts := [], laidByText := true, laidKinds := [.data], laidTests := true, laidLooks := .later }
def RankClassCardSaid : Prop := Claim7.holds Tryz.pinned (.plain (OpenSpec.ofChange rankClassSpec)) rankClassCard

/-- THE SECOND FORM's CARD OF 'transputerlaw23.RankClass'. -/
def rankClassUptoCard : Claim7 := { stood := { row := rankClassUptoRow, standIns := [], harness := (true, "59b8775b24f49380dd0928eb381fec5e9b5f251dc76b827b2a397ff2520e411a"), looks := false }, kinds := [], alts := [], laidByText := true, laidKinds := [.data], laidTests := true, laidLooks := .later }
def RankClassUptoCardSaid : Prop := Claim7.holds Tryz.pinned (.plain (OpenSpec.upto rankClassSpec)) rankClassUptoCard
end Rows
end Go.Proofs.YtgmeahcclogfmaaGreatDoor
