/-
  DERIVED. GIVEN WITH THE SEED: THE CARDS: each row of YtkbolbpojpmicaaGreatDoorRows.lean that lists a variable, with what it lists TIED to the program's text (the seventh form; the later family's looks); each row that meets fmt, with fmt's text TOLD by the authors' own Lean function (tested against real Go, not proved from fmt's source: count such statements apart). THE CARD IS WHAT COUNTS. Prove the row's statement (the work); the ties are given (YtkbolbpojpmicaaGreatDoorTie.lean); close each card by the builder's one call (the guide's Derived/Test/ToyasCard.lean, 'card_holds'). Laid BY PROGRAM, IN A SANDBOX (cutbox-door.mjs). By AI agents, Wed Nov 11 2026. No macro, syntax, notation, axiom, sorry.
-/
import Derived.Test.YtkbolbpojpmicaaGreatDoorRows
import GoSem.ClaimSeven
namespace Go.Proofs.YtkbolbpojpmicaaGreatDoor
namespace Rows

/-- THE TIED CARD OF 'transputerlaw23.RankRuns'. -/
def rankRunsCard : Claim7 := { stood := { row := rankRunsRow, standIns := [], harness := (true, "70ec7d1ba1071b9838ef260f3b5405bd98e07e194a91ff7ab6a630c3a4a2b834"), looks := false }, kinds := [], alts := [], laidByText := true, laidKinds := [.data], laidTests := true, laidLooks := .later }
def RankRunsCardSaid : Prop := Claim7.holds Tryz.pinned (.plain (OpenSpec.ofChange rankRunsSpec)) rankRunsCard

/-- THE SECOND FORM's CARD OF 'transputerlaw23.RankRuns'. -/
def rankRunsUptoCard : Claim7 := { stood := { row := rankRunsUptoRow, standIns := [], harness := (true, "70ec7d1ba1071b9838ef260f3b5405bd98e07e194a91ff7ab6a630c3a4a2b834"), looks := false }, kinds := [], alts := [], laidByText := true, laidKinds := [.data], laidTests := true, laidLooks := .later }
def RankRunsUptoCardSaid : Prop := Claim7.holds Tryz.pinned (.plain (OpenSpec.upto rankRunsSpec)) rankRunsUptoCard
end Rows
end Go.Proofs.YtkbolbpojpmicaaGreatDoor
