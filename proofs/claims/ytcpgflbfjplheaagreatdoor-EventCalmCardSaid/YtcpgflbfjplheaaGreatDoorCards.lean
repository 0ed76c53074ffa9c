/-
  DERIVED. GIVEN WITH THE SEED: THE CARDS: each row of YtcpgflbfjplheaaGreatDoorRows.lean that lists a variable, with what it lists TIED to the program's text (the seventh form; the later family's looks); each row that meets fmt, with fmt's text TOLD by the authors' own Lean function (tested against real Go, not proved from fmt's source: count such statements apart). THE CARD IS WHAT COUNTS. Prove the row's statement (the work); the ties are given (YtcpgflbfjplheaaGreatDoorTie.lean); close each card by the builder's one call (the guide's Derived/Test/ToyasCard.lean, 'card_holds'). Laid BY PROGRAM, IN A SANDBOX (cutbox-door.mjs). By AI agents, Wed Nov 11 2026. No macro, syntax, notation, axiom, sorry.
-/
import Derived.Test.YtcpgflbfjplheaaGreatDoorRows
import GoSem.ClaimSeven
namespace Go.Proofs.YtcpgflbfjplheaaGreatDoor
namespace Rows

/-- THE TIED CARD OF 'gessolaw08.AreaCuts'. -/
def areaCutsCard : Claim7 := { stood := { row := areaCutsRow, standIns := [], harness := (true, "5321859eb330d3fe559f86b451ce5a4b92336f4b8b4b783ff920d348cd99a48b"), looks := false }, kinds := [], alts := [], laidByText := true, laidKinds := [.data, .pinned], laidTests := true, laidLooks := .later }
def AreaCutsCardSaid : Prop := Claim7.holds Tryz.pinned (.plain (OpenSpec.ofChange areaCutsSpec)) areaCutsCard

/-- THE TIED CARD OF 'gessolaw24.EventLevels'. -/
def eventLevelsCard : Claim7 := { stood := { row := eventLevelsRow, standIns := [], harness := (true, "5321859eb330d3fe559f86b451ce5a4b92336f4b8b4b783ff920d348cd99a48b"), looks := false }, kinds := [], alts := [], laidByText := true, laidKinds := [.data, .pinned], laidTests := true, laidLooks := .later }
def EventLevelsCardSaid : Prop := Claim7.holds Tryz.pinned (.plain (OpenSpec.ofChange eventLevelsSpec)) eventLevelsCard

/-- THE TIED CARD OF 'gessolaw24.EventCalm'. -/
def eventCalmCard : Claim7 := { stood := { row := eventCalmRow, standIns := [], harness := (true, "5321859eb330d3fe559f86b451ce5a4b92336f4b8b4b783ff920d348cd99a48b"), looks := false }, kinds := [], alts := [], laidByText := true, laidKinds := [.data, .pinned], laidTests := true, laidLooks := .later }
def EventCalmCardSaid : Prop := Claim7.holds Tryz.pinned (.plain (OpenSpec.ofChange eventCalmSpec)) eventCalmCard

/-- THE TIED CARD OF 'gessolaw24.EventMore'. -/
def eventMoreCard : Claim7 := { stood := { row := eventMoreRow, standIns := [], harness := (true, "5321859eb330d3fe559f86b451ce5a4b92336f4b8b4b783ff920d348cd99a48b"), looks := false }, kinds := [], alts := [], laidByText := true, laidKinds := [.data, .pinned], laidTests := true, laidLooks := .later }
def EventMoreCardSaid : Prop := Claim7.holds Tryz.pinned (.plain (OpenSpec.ofChange eventMoreSpec)) eventMoreCard

/-- THE TIED CARD OF 'gessolaw25.WindHits'. -/
def windHitsCard : Claim7 := { stood := { row := windHitsRow, standIns := [], harness := (true, "5321859eb330d3fe559f86b451ce5a4b92336f4b8b4b783ff920d348cd99a48b"), looks := false }, kinds := [], alts := [], laidByText := true, laidKinds := [.data, .pinned], laidTests := true, laidLooks := .later }
def WindHitsCardSaid : Prop := Claim7.holds Tryz.pinned (.plain (OpenSpec.ofChange windHitsSpec)) windHitsCard

/-- THE TIED CARD OF 'gessolaw25.WindSpans'. -/
def windSpansCard : Claim7 := { stood := { row := windSpansRow, standIns := [], harness := (true, "5321859eb330d3fe559f86b451ce5a4b92336f4b8b4b783ff920d348cd99a48b"), looks := false }, kinds := [], alts := [], laidByText := true, laidKinds := [.data, .pinned], laidTests := true, laidLooks := .later }
def WindSpansCardSaid : Prop := Claim7.holds Tryz.pinned (.plain (OpenSpec.ofChange windSpansSpec)) windSpansCard

/-- THE TIED CARD OF 'gessolaw25.WindIn'. -/
def windInCard : Claim7 := { stood := { row := windInRow, standIns := [], harness := (true, "5321859eb330d3fe559f86b451ce5a4b92336f4b8b4b783ff920d348cd99a48b"), looks := false }, kinds := [], alts := [], laidByText := true, laidKinds := [.data, .pinned], laidTests := true, laidLooks := .later }
def WindInCardSaid : Prop := Claim7.holds Tryz.pinned (.plain (OpenSpec.ofChange windInSpec)) windInCard

/-- THE TIED CARD OF 'gessolaw25.WindRing'. -/
def windRingCard : Claim7 := { stood := { row := windRingRow, standIns := [], harness := (true, "5321859eb330d3fe559f86b451ce5a4b92336f4b8b4b783ff920d348cd99a48b"), looks := false }, kinds := [], alts := [], laidByText := true, laidKinds := [.data, .pinned], laidTests := true, laidLooks := .later }
def WindRingCardSaid : Prop := Claim7.holds Tryz.pinned (.plain (OpenSpec.ofChange windRingSpec)) windRingCard

/-- THE TIED CARD OF 'gessolaw25.WindConvex'. -/
def windConvexCard : Claim7 := { stood := { row := windConvexRow, standIns := [], harness := (true, "5321859eb330d3fe559f86b451ce5a4b92336f4b8b4b783ff920d348cd99a48b"), looks := false }, kinds := [], alts := [], laidByText := true, laidKinds := [.data, .pinned], laidTests := true, laidLooks := .later }
def WindConvexCardSaid : Prop := Claim7.holds Tryz.pinned (.plain (OpenSpec.ofChange windConvexSpec)) windConvexCard

/-- THE SECOND FORM's CARD OF 'gessolaw08.AreaCuts'. -/
def areaCutsUptoCard : Claim7 := { stood := { row := areaCutsUptoRow, standIns := [], harness := (true, "5321859eb330d3fe559f86b451ce5a4b92336f4b8b4b783ff920d348cd99a48b"), looks := false }, kinds := [], alts := [], laidByText := true, laidKinds := [.data, .pinned], laidTests := true, laidLooks := .later }
def AreaCutsUptoCardSaid : Prop := Claim7.holds Tryz.pinned (.plain (OpenSpec.upto areaCutsSpec)) areaCutsUptoCard

/-- THE SECOND FORM's CARD OF 'gessolaw24.EventLevels'. -/
def eventLevelsUptoCard : Claim7 := { stood := { row := eventLevelsUptoRow, standIns := [], harness := (true, "5321859eb330d3fe559f86b451ce5a4b92336f4b8b4b783ff920d348cd99a48b"), looks := false }, kinds := [], alts := [], laidByText := true, laidKinds := [.data, .pinned], laidTests := true, laidLooks := .later }
def EventLevelsUptoCardSaid : Prop := Claim7.holds Tryz.pinned (.plain (OpenSpec.upto eventLevelsSpec)) eventLevelsUptoCard

/-- THE SECOND FORM's CARD OF 'gessolaw24.EventCalm'. -/
def eventCalmUptoCard : Claim7 := { stood := { row := eventCalmUptoRow, standIns := [], harness := (true, "5321859eb330d3fe559f86b451ce5a4b92336f4b8b4b783ff920d348cd99a48b"), looks := false }, kinds := [], alts := [], laidByText := true, laidKinds := [.data, .pinned], laidTests := true, laidLooks := .later }
def EventCalmUptoCardSaid : Prop := Claim7.holds Tryz.pinned (.plain (OpenSpec.upto eventCalmSpec)) eventCalmUptoCard

/-- THE SECOND FORM's CARD OF 'gessolaw24.EventMore'. -/
def eventMoreUptoCard : Claim7 := { stood := { row := eventMoreUptoRow, standIns := [], harness := (true, "5321859eb330d3fe559f86b451ce5a4b92336f4b8b4b783ff920d348cd99a48b"), looks := false }, kinds := [], alts := [], laidByText := true, laidKinds := [.data, .pinned], laidTests := true, laidLooks := .later }
def EventMoreUptoCardSaid : Prop := Claim7.holds Tryz.pinned (.plain (OpenSpec.upto eventMoreSpec)) eventMoreUptoCard

/-- THE SECOND FORM's CARD OF 'gessolaw25.WindHits'. -/
def windHitsUptoCard : Claim7 := { stood := { row := windHitsUptoRow, standIns := [], harness := (true, "5321859eb330d3fe559f86b451ce5a4b92336f4b8b4b783ff920d348cd99a48b"), looks := false }, kinds := [], alts := [], laidByText := true, laidKinds := [.data, .pinned], laidTests := true, laidLooks := .later }
def WindHitsUptoCardSaid : Prop := Claim7.holds Tryz.pinned (.plain (OpenSpec.upto windHitsSpec)) windHitsUptoCard

/-- THE SECOND FORM's CARD OF 'gessolaw25.WindSpans'. -/
def windSpansUptoCard : Claim7 := { stood := { row := windSpansUptoRow, standIns := [], harness := (true, "5321859eb330d3fe559f86b451ce5a4b92336f4b8b4b783ff920d348cd99a48b"), looks := false }, kinds := [], alts := [], laidByText := true, laidKinds := [.data, .pinned], laidTests := true, laidLooks := .later }
def WindSpansUptoCardSaid : Prop := Claim7.holds Tryz.pinned (.plain (OpenSpec.upto windSpansSpec)) windSpansUptoCard

/-- THE SECOND FORM's CARD OF 'gessolaw25.WindIn'. -/
def windInUptoCard : Claim7 := { stood := { row := windInUptoRow, standIns := [], harness := (true, "5321859eb330d3fe559f86b451ce5a4b92336f4b8b4b783ff920d348cd99a48b"), looks := false }, kinds := [], alts := [], laidByText := true, laidKinds := [.data, .pinned], laidTests := true, laidLooks := .later }
def WindInUptoCardSaid : Prop := Claim7.holds Tryz.pinned (.plain (OpenSpec.upto windInSpec)) windInUptoCard

/-- THE SECOND FORM's CARD OF 'gessolaw25.WindRing'. -/
def windRingUptoCard : Claim7 := { stood := { row := windRingUptoRow, standIns := [], harness := (true, "5321859eb330d3fe559f86b451ce5a4b92336f4b8b4b783ff920d348cd99a48b"), looks := false }, kinds := [], alts := [], laidByText := true, laidKinds := [.data, .pinned], laidTests := true, laidLooks := .later }
def WindRingUptoCardSaid : Prop := Claim7.holds Tryz.pinned (.plain (OpenSpec.upto windRingSpec)) windRingUptoCard

/-- THE SECOND FORM's CARD OF 'gessolaw25.WindConvex'. -/
def windConvexUptoCard : Claim7 := { stood := { row := windConvexUptoRow, standIns := [], harness := (true, "5321859eb330d3fe559f86b451ce5a4b92336f4b8b4b783ff920d348cd99a48b"), looks := false }, kinds := [], alts := [], laidByText := true, laidKinds := [.data, .pinned], laidTests := true, laidLooks := .later }
def WindConvexUptoCardSaid : Prop := Claim7.holds Tryz.pinned (.plain (OpenSpec.upto windConvexSpec)) windConvexUptoCard
end Rows
end Go.Proofs.YtcpgflbfjplheaaGreatDoor
