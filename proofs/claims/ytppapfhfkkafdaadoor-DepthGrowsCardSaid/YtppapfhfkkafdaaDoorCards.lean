/-
  DERIVED. GIVEN WITH THE SEED: THE CARDS: each row of YtppapfhfkkafdaaDoorRows.lean that lists a variable, with what it lists TIED to the program's text (the seventh form; the later family's looks); each row that meets fmt, with fmt's text TOLD by the authors' own Lean function (tested against real Go, not proved from fmt's source: count such statements apart). THE CARD IS WHAT COUNTS. Prove the row's statement (the work); the ties are given (YtppapfhfkkafdaaDoorTie.lean); close each card by the builder's one call (the guide's Derived/Test/ToyasCard.lean, 'card_holds'). Laid BY PROGRAM, IN A SANDBOX (cutbox-door.mjs). By AI agents, Wed Nov 11 2026. No macro, syntax, notation, axiom, sorry.
-/
import Derived.Test.YtppapfhfkkafdaaDoorRows
import GoSem.ClaimSeven
namespace Go.Proofs.YtppapfhfkkafdaaDoor
namespace Rows

/-- THE TIED CARD OF 'transputerlaw22.DepthExact'. -/
def depthExactCard : Claim7 := { stood := { row := depthExactRow, standIns := [], harness := (true, "e64262aa202b716ebe29479c5e8ae45778ebf0504d3511830568ffe2681e51cc"), looks := false }, kinds := [], alts := [], laidByText := true, laidKinds := [.data], laidTests := true, laidLooks := .later }
def DepthExactCardSaid : Prop := Claim7.holds Tryd.pinned (.plain (OpenSpec.ofChange depthExactSpec)) depthExactCard

/-- THE TIED CARD OF 'transputerlaw22.DepthParts'. -/
def depthPartsCard : Claim7 := { stood := { row := depthPartsRow, standIns := [], harness := (true, "e64262aa202b716ebe29479c5e8ae45778ebf0504d3511830568ffe2681e51cc"), looks := false }, kinds := [], alts := [], laidByText := true, laidKinds := [.data], laidTests := true, laidLooks := .later }
def DepthPartsCardSaid : Prop := Claim7.holds Tryd.pinned (.plain (OpenSpec.ofChange depthPartsSpec)) depthPartsCard

/-- THE TIED CARD OF 'transputerlaw22.DepthTurned'. -/
def depthTurnedCard : Claim7 := { stood := { row := depthTurnedRow, standIns := [], harness := (true, "e64262aa202b716ebe29479c5e8ae45778ebf0504d3511830568ffe2681e51cc"), looks := false }, kinds := [], alts := [], laidByText := true, laidKinds := [.data], laidTests := true, laidLooks := .later }
def DepthTurnedCardSaid : Prop := Claim7.holds Tryd.pinned (.plain (OpenSpec.ofChange depthTurnedSpec)) depthTurnedCard

/-- THE TIED CARD OF 'transputerlaw22.DepthGrows'. -/
def depthGrowsCard : Claim7 := { stood := { row := depthGrowsRow, standIns := [], harness := (true, "e64262aa202b716ebe29479c5e8ae45778ebf0504d3511830568ffe2681e51cc"), looks := false }, kinds := [], alts := [], laidByText := true, laidKinds := [.data], laidTests := true, laidLooks := .later }
def DepthGrowsCardSaid : Prop := Claim7.holds Tryd.pinned (.plain (OpenSpec.ofChange depthGrowsSpec)) depthGrowsCard

/-- THE SECOND FORM's CARD OF 'transputerlaw22.DepthExact'. -/
def depthExactUptoCard : Claim7 := { stood := { row := depthExactUptoRow, standIns := [], harness := (true, "e64262aa202b716ebe29479c5e8ae45778ebf0504d3511830568ffe2681e51cc"), looks := false }, kinds := [], alts := [], laidByText := true, laidKinds := [.data], laidTests := true, laidLooks := .later }
def DepthExactUptoCardSaid : Prop := Claim7.holds Tryd.pinned (.plain (OpenSpec.upto depthExactSpec)) depthExactUptoCard

/-- THE SECOND FORM's CARD OF 'transputerlaw22.DepthParts'. -/
def depthPartsUptoCard : Claim7 := { stood := { row := depthPartsUptoRow, standIns := [], harness := (true, "e64262aa202b716ebe29479c5e8ae45778ebf0504d3511830568ffe2681e51cc"), looks := false }, kinds := [], alts := [], laidByText := true, laidKinds := [.data], laidTests := true, laidLooks := .later }
def DepthPartsUptoCardSaid : Prop := Claim7.holds Tryd.pinned (.plain (OpenSpec.upto depthPartsSpec)) depthPartsUptoCard

/-- THE SECOND FORM's CARD OF 'transputerlaw22.DepthTurned'. -/
def depthTurnedUptoCard : Claim7 := { stood := { row := depthTurnedUptoRow, standIns := [], harness := (true, "e64262aa202b716ebe29479c5e8ae45778ebf0504d3511830568ffe2681e51cc"), looks := false }, kinds := [], alts := [], laidByText := true, laidKinds := [.data], laidTests := true, laidLooks := .later }
def DepthTurnedUptoCardSaid : Prop := Claim7.holds Tryd.pinned (.plain (OpenSpec.upto depthTurnedSpec)) depthTurnedUptoCard

/-- THE SECOND FORM's CARD OF 'transputerlaw22.DepthGrows'. -/
def depthGrowsUptoCard : Claim7 := { stood := { row := depthGrowsUptoRow, standIns := [], harness := (true, "e64262aa202b716ebe29479c5e8ae45778ebf0504d3511830568ffe2681e51cc"), looks := false }, kinds := [], alts := [], laidByText := true, laidKinds := [.data], laidTests := true, laidLooks := .later }
def DepthGrowsUptoCardSaid : Prop := Claim7.holds Tryd.pinned (.plain (OpenSpec.upto depthGrowsSpec)) depthGrowsUptoCard
end Rows
end Go.Proofs.YtppapfhfkkafdaaDoor
