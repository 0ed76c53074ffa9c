/-
  DERIVED. GIVEN WITH THE SEED: THE CARDS: each row of YtlpfbcilnfgaaaaGreatDoorRows.lean that lists a variable, with what it lists TIED to the program's text (the seventh form; the later family's looks); each row that meets fmt, with fmt's text TOLD by the authors' own Lean function (tested against real Go, not proved from fmt's source: count such statements apart). THE CARD IS WHAT COUNTS. Prove the row's statement (the work); the ties are given (YtlpfbcilnfgaaaaGreatDoorTie.lean); close each card by the builder's one call (the guide's Derived/Test/ToyasCard.lean, 'card_holds'). Laid BY PROGRAM, IN A SANDBOX (cutbox-door.mjs). By AI agents, Wed Nov 11 2026. No macro, syntax, notation, axiom, sorry.
-/
import Derived.Test.YtlpfbcilnfgaaaaGreatDoorRows
import GoSem.ClaimSeven
namespace Go.Proofs.YtlpfbcilnfgaaaaGreatDoor
namespace Rows

/-- THE TIED CARD OF 'gessolaw02.ZedDivides'. -/
def zedDividesCard : Claim7 := { stood := { row := zedDividesRow, standIns := [], harness := (true, "eff6b24a8aa334cbf221bc81bd02fb879bb7cbef4ba7f96099d3dcd119348887"), looks := false }, kinds := [], alts := [], laidByText := true, laidKinds := [.data, .pinned], laidTests := true, laidLooks := .later }
def ZedDividesCardSaid : Prop := Claim7.holds Tryz.pinned (.plain (OpenSpec.ofChange zedDividesSpec)) zedDividesCard

/-- THE TIED CARD OF 'gessolaw02.ZedAdds'. -/
def zedAddsCard : Claim7 := { stood := { row := zedAddsRow, standIns := [], harness := (true, "eff6b24a8aa334cbf221bc81bd02fb879bb7cbef4ba7f96099d3dcd119348887"), looks := false }, kinds := [], alts := [], laidByText := true, laidKinds := [.data, .pinned], laidTests := true, laidLooks := .later }
def ZedAddsCardSaid : Prop := Claim7.holds Tryz.pinned (.plain (OpenSpec.ofChange zedAddsSpec)) zedAddsCard

/-- THE TIED CARD OF 'gessolaw02.ZedLaws'. -/
def zedLawsCard : Claim7 := { stood := { row := zedLawsRow, standIns := [], harness := (true, "eff6b24a8aa334cbf221bc81bd02fb879bb7cbef4ba7f96099d3dcd119348887"), looks := false }, kinds := [], alts := [], laidByText := true, laidKinds := [.data, .pinned], laidTests := true, laidLooks := .later }
def ZedLawsCardSaid : Prop := Claim7.holds Tryz.pinned (.plain (OpenSpec.ofChange zedLawsSpec)) zedLawsCard

/-- THE TIED CARD OF 'gessolaw02.ZedSmalls'. -/
def zedSmallsCard : Claim7 := { stood := { row := zedSmallsRow, standIns := [], harness := (true, "eff6b24a8aa334cbf221bc81bd02fb879bb7cbef4ba7f96099d3dcd119348887"), looks := false }, kinds := [], alts := [], laidByText := true, laidKinds := [.data, .pinned], laidTests := true, laidLooks := .later }
def ZedSmallsCardSaid : Prop := Claim7.holds Tryz.pinned (.plain (OpenSpec.ofChange zedSmallsSpec)) zedSmallsCard

/-- THE TIED CARD OF 'gessolaw02.ZedTexts'. -/
def zedTextsCard : Claim7 := { stood := { row := zedTextsRow, standIns := [], harness := (true, "eff6b24a8aa334cbf221bc81bd02fb879bb7cbef4ba7f96099d3dcd119348887"), looks := false }, kinds := [], alts := [], laidByText := true, laidKinds := [.data, .pinned], laidTests := true, laidLooks := .later }
def ZedTextsCardSaid : Prop := Claim7.holds Tryz.pinned (.plain (OpenSpec.ofChange zedTextsSpec)) zedTextsCard

/-- THE TIED CARD OF 'gessolaw02.ZedBack'. -/
def zedBackCard : Claim7 := { stood := { row := zedBackRow, standIns := [], harness := (true, "eff6b24a8aa334cbf221bc81bd02fb879bb7cbef4ba7f96099d3dcd119348887"), looks := false }, kinds := [], alts := [], laidByText := true, laidKinds := [.data, .pinned], laidTests := true, laidLooks := .later }
def ZedBackCardSaid : Prop := Claim7.holds Tryz.pinned (.plain (OpenSpec.ofChange zedBackSpec)) zedBackCard

/-- THE TIED CARD OF 'gessolaw05.FixTurns'. -/
def fixTurnsCard : Claim7 := { stood := { row := fixTurnsRow, standIns := [], harness := (true, "eff6b24a8aa334cbf221bc81bd02fb879bb7cbef4ba7f96099d3dcd119348887"), looks := false }, kinds := [], alts := [], laidByText := true, laidKinds := [.data, .pinned], laidTests := true, laidLooks := .later }
def FixTurnsCardSaid : Prop := Claim7.holds Tryz.pinned (.plain (OpenSpec.ofChange fixTurnsSpec)) fixTurnsCard

/-- THE TIED CARD OF 'gessolaw05.FixOrder'. -/
def fixOrderCard : Claim7 := { stood := { row := fixOrderRow, standIns := [], harness := (true, "eff6b24a8aa334cbf221bc81bd02fb879bb7cbef4ba7f96099d3dcd119348887"), looks := false }, kinds := [], alts := [], laidByText := true, laidKinds := [.data, .pinned], laidTests := true, laidLooks := .later }
def FixOrderCardSaid : Prop := Claim7.holds Tryz.pinned (.plain (OpenSpec.ofChange fixOrderSpec)) fixOrderCard

/-- THE TIED CARD OF 'gessolaw05.FixBack'. -/
def fixBackCard : Claim7 := { stood := { row := fixBackRow, standIns := [], harness := (true, "eff6b24a8aa334cbf221bc81bd02fb879bb7cbef4ba7f96099d3dcd119348887"), looks := false }, kinds := [], alts := [], laidByText := true, laidKinds := [.data, .pinned], laidTests := true, laidLooks := .later }
def FixBackCardSaid : Prop := Claim7.holds Tryz.pinned (.plain (OpenSpec.ofChange fixBackSpec)) fixBackCard

/-- THE TIED CARD OF 'gessolaw03.RatTexts'. -/
def ratTextsCard : Claim7 := { stood := { row := ratTextsRow, standIns := [], harness := (true, "eff6b24a8aa334cbf221bc81bd02fb879bb7cbef4ba7f96099d3dcd119348887"), looks := false }, kinds := [], alts := [], laidByText := true, laidKinds := [.data, .pinned], laidTests := true, laidLooks := .later }
def RatTextsCardSaid : Prop := Claim7.holds Tryz.pinned (.plain (OpenSpec.ofChange ratTextsSpec)) ratTextsCard

/-- THE TIED CARD OF 'gessolaw03.RatMakes'. -/
def ratMakesCard : Claim7 := { stood := { row := ratMakesRow, standIns := [], harness := (true, "eff6b24a8aa334cbf221bc81bd02fb879bb7cbef4ba7f96099d3dcd119348887"), looks := false }, kinds := [], alts := [], laidByText := true, laidKinds := [.data, .pinned], laidTests := true, laidLooks := .later }
def RatMakesCardSaid : Prop := Claim7.holds Tryz.pinned (.plain (OpenSpec.ofChange ratMakesSpec)) ratMakesCard

/-- THE TIED CARD OF 'gessolaw03.RatField'. -/
def ratFieldCard : Claim7 := { stood := { row := ratFieldRow, standIns := [], harness := (true, "eff6b24a8aa334cbf221bc81bd02fb879bb7cbef4ba7f96099d3dcd119348887"), looks := false }, kinds := [], alts := [], laidByText := true, laidKinds := [.data, .pinned], laidTests := true, laidLooks := .later }
def RatFieldCardSaid : Prop := Claim7.holds Tryz.pinned (.plain (OpenSpec.ofChange ratFieldSpec)) ratFieldCard

/-- THE TIED CARD OF 'gessolaw03.RatOrder'. -/
def ratOrderCard : Claim7 := { stood := { row := ratOrderRow, standIns := [], harness := (true, "eff6b24a8aa334cbf221bc81bd02fb879bb7cbef4ba7f96099d3dcd119348887"), looks := false }, kinds := [], alts := [], laidByText := true, laidKinds := [.data, .pinned], laidTests := true, laidLooks := .later }
def RatOrderCardSaid : Prop := Claim7.holds Tryz.pinned (.plain (OpenSpec.ofChange ratOrderSpec)) ratOrderCard

/-- THE TIED CARD OF 'gessolaw03.RatReckons'. -/
def ratReckonsCard : Claim7 := { stood := { row := ratReckonsRow, standIns := [], harness := (true, "eff6b24a8aa334cbf221bc81bd02fb879bb7cbef4ba7f96099d3dcd119348887"), looks := false }, kinds := [], alts := [], laidByText := true, laidKinds := [.data, .pinned], laidTests := true, laidLooks := .later }
def RatReckonsCardSaid : Prop := Claim7.holds Tryz.pinned (.plain (OpenSpec.ofChange ratReckonsSpec)) ratReckonsCard

/-- THE TIED CARD OF 'gessolaw03.RatLowest'. -/
def ratLowestCard : Claim7 := { stood := { row := ratLowestRow, standIns := [], harness := (true, "eff6b24a8aa334cbf221bc81bd02fb879bb7cbef4ba7f96099d3dcd119348887"), looks := false }, kinds := [], alts := [], laidByText := true, laidKinds := [.data, .pinned], laidTests := true, laidLooks := .later }
def RatLowestCardSaid : Prop := Claim7.holds Tryz.pinned (.plain (OpenSpec.ofChange ratLowestSpec)) ratLowestCard

/-- THE SECOND FORM's CARD OF 'gessolaw02.ZedDivides'. -/
def zedDividesUptoCard : Claim7 := { stood := { row := zedDividesUptoRow, standIns := [], harness := (true, "eff6b24a8aa334cbf221bc81bd02fb879bb7cbef4ba7f96099d3dcd119348887"), looks := false }, kinds := [], alts := [], laidByText := true, laidKinds := [.data, .pinned], laidTests := true, laidLooks := .later }
def ZedDividesUptoCardSaid : Prop := Claim7.holds Tryz.pinned (.plain (OpenSpec.upto zedDividesSpec)) zedDividesUptoCard

/-- THE SECOND FORM's CARD OF 'gessolaw02.ZedAdds'. -/
def zedAddsUptoCard : Claim7 := { stood := { row := zedAddsUptoRow, standIns := [], harness := (true, "eff6b24a8aa334cbf221bc81bd02fb879bb7cbef4ba7f96099d3dcd119348887"), looks := false }, kinds := [], alts := [], laidByText := true, laidKinds := [.data, .pinned], laidTests := true, laidLooks := .later }
def ZedAddsUptoCardSaid : Prop := Claim7.holds Tryz.pinned (.plain (OpenSpec.upto zedAddsSpec)) zedAddsUptoCard

/-- THE SECOND FORM's CARD OF 'gessolaw02.ZedLaws'. -/
def zedLawsUptoCard : Claim7 := { stood := { row := zedLawsUptoRow, standIns := [], harness := (true, "eff6b24a8aa334cbf221bc81bd02fb879bb7cbef4ba7f96099d3dcd119348887"), looks := false }, kinds := [], alts := [], laidByText := true, laidKinds := [.data, .pinned], laidTests := true, laidLooks := .later }
def ZedLawsUptoCardSaid : Prop := Claim7.holds Tryz.pinned (.plain (OpenSpec.upto zedLawsSpec)) zedLawsUptoCard

/-- THE SECOND FORM's CARD OF 'gessolaw02.ZedSmalls'. -/
def zedSmallsUptoCard : Claim7 := { stood := { row := zedSmallsUptoRow, standIns := [], harness := (true, "eff6b24a8aa334cbf221bc81bd02fb879bb7cbef4ba7f96099d3dcd119348887"), looks := false }, kinds := [], alts := [], laidByText := true, laidKinds := [.data, .pinned], laidTests := true, laidLooks := .later }
def ZedSmallsUptoCardSaid : Prop := Claim7.holds Tryz.pinned (.plain (OpenSpec.upto zedSmallsSpec)) zedSmallsUptoCard

/-- THE SECOND FORM's CARD OF 'gessolaw02.ZedTexts'. -/
def zedTextsUptoCard : Claim7 := { stood := { row := zedTextsUptoRow, standIns := [], harness := (true, "eff6b24a8aa334cbf221bc81bd02fb879bb7cbef4ba7f96099d3dcd119348887"), looks := false }, kinds := [], alts := [], laidByText := true, laidKinds := [.data, .pinned], laidTests := true, laidLooks := .later }
def ZedTextsUptoCardSaid : Prop := Claim7.holds Tryz.pinned (.plain (OpenSpec.upto zedTextsSpec)) zedTextsUptoCard

/-- THE SECOND FORM's CARD OF 'gessolaw02.ZedBack'. -/
def zedBackUptoCard : Claim7 := { stood := { row := zedBackUptoRow, standIns := [], harness := (true, "eff6b24a8aa334cbf221bc81bd02fb879bb7cbef4ba7f96099d3dcd119348887"), looks := false }, kinds := [], alts := [], laidByText := true, laidKinds := [.data, .pinned], laidTests := true, laidLooks := .later }
def ZedBackUptoCardSaid : Prop := Claim7.holds Tryz.pinned (.plain (OpenSpec.upto zedBackSpec)) zedBackUptoCard

/-- THE SECOND FORM's CARD OF 'gessolaw05.FixTurns'. -/
def fixTurnsUptoCard : Claim7 := { stood := { row := fixTurnsUptoRow, standIns := [], harness := (true, "eff6b24a8aa334cbf221bc81bd02fb879bb7cbef4ba7f96099d3dcd119348887"), looks := false }, kinds := [], alts := [], laidByText := true, laidKinds := [.data, .pinned], laidTests := true, laidLooks := .later }
def FixTurnsUptoCardSaid : Prop := Claim7.holds Tryz.pinned (.plain (OpenSpec.upto fixTurnsSpec)) fixTurnsUptoCard

/-- THE SECOND FORM's CARD OF 'gessolaw05.FixOrder'. -/
def fixOrderUptoCard : Claim7 := { stood := { row := fixOrderUptoRow, standIns := [], harness := (true, "eff6b24a8aa334cbf221bc81bd02fb879bb7cbef4ba7f96099d3dcd119348887"), looks := false }, kinds := [], alts := [], laidByText := true, laidKinds := [.data, .pinned], laidTests := true, laidLooks := .later }
def FixOrderUptoCardSaid : Prop := Claim7.holds Tryz.pinned (.plain (OpenSpec.upto fixOrderSpec)) fixOrderUptoCard

/-- THE SECOND FORM's CARD OF 'gessolaw05.FixBack'. -/
def fixBackUptoCard : Claim7 := { stood := { row := fixBackUptoRow, standIns := [], harness := (true, "eff6b24a8aa334cbf221bc81bd02fb879bb7cbef4ba7f96099d3dcd119348887"), looks := false }, kinds := [], alts := [], laidByText := true, laidKinds := [.data, .pinned], laidTests := true, laidLooks := .later }
def FixBackUptoCardSaid : Prop := Claim7.holds Tryz.pinned (.plain (OpenSpec.upto fixBackSpec)) fixBackUptoCard

/-- THE SECOND FORM's CARD OF 'gessolaw03.RatTexts'. -/
def ratTextsUptoCard : Claim7 := { stood := { row := ratTextsUptoRow, standIns := [], harness := (true, "eff6b24a8aa334cbf221bc81bd02fb879bb7cbef4ba7f96099d3dcd119348887"), looks := false }, kinds := [], alts := [], laidByText := true, laidKinds := [.data, .pinned], laidTests := true, laidLooks := .later }
def RatTextsUptoCardSaid : Prop := Claim7.holds Tryz.pinned (.plain (OpenSpec.upto ratTextsSpec)) ratTextsUptoCard

/-- THE SECOND FORM's CARD OF 'gessolaw03.RatMakes'. -/
def ratMakesUptoCard : Claim7 := { stood := { row := ratMakesUptoRow, standIns := [], harness := (true, "eff6b24a8aa334cbf221bc81bd02fb879bb7cbef4ba7f96099d3dcd119348887"), looks := false }, kinds := [], alts := [], laidByText := true, laidKinds := [.data, .pinned], laidTests := true, laidLooks := .later }
def RatMakesUptoCardSaid : Prop := Claim7.holds Tryz.pinned (.plain (OpenSpec.upto ratMakesSpec)) ratMakesUptoCard

/-- THE SECOND FORM's CARD OF 'gessolaw03.RatField'. -/
def ratFieldUptoCard : Claim7 := { stood := { row := ratFieldUptoRow, standIns := [], harness := (true, "eff6b24a8aa334cbf221bc81bd02fb879bb7cbef4ba7f96099d3dcd119348887"), looks := false }, kinds := [], alts := [], laidByText := true, laidKinds := [.data, .pinned], laidTests := true, laidLooks := .later }
def RatFieldUptoCardSaid : Prop := Claim7.holds Tryz.pinned (.plain (OpenSpec.upto ratFieldSpec)) ratFieldUptoCard

/-- THE SECOND FORM's CARD OF 'gessolaw03.RatOrder'. -/
def ratOrderUptoCard : Claim7 := { stood := { row := ratOrderUptoRow, standIns := [], harness := (true, "eff6b24a8aa334cbf221bc81bd02fb879bb7cbef4ba7f96099d3dcd119348887"), looks := false }, kinds := [], alts := [], laidByText := true, laidKinds := [.data, .pinned], laidTests := true, laidLooks := .later }
def RatOrderUptoCardSaid : Prop := Claim7.holds Tryz.pinned (.plain (OpenSpec.upto ratOrderSpec)) ratOrderUptoCard

/-- THE SECOND FORM's CARD OF 'gessolaw03.RatReckons'. -/
def ratReckonsUptoCard : Claim7 := { stood := { row := ratReckonsUptoRow, standIns := [], harness := (true, "eff6b24a8aa334cbf221bc81bd02fb879bb7cbef4ba7f96099d3dcd119348887"), looks := false }, kinds := [], alts := [], laidByText := true, laidKinds := [.data, .pinned], laidTests := true, laidLooks := .later }
def RatReckonsUptoCardSaid : Prop := Claim7.holds Tryz.pinned (.plain (OpenSpec.upto ratReckonsSpec)) ratReckonsUptoCard

/-- THE SECOND FORM's CARD OF 'gessolaw03.RatLowest'. -/
def ratLowestUptoCard : Claim7 := { stood := { row := ratLowestUptoRow, standIns := [], harness := (true, "eff6b24a8aa334cbf221bc81bd02fb879bb7cbef4ba7f96099d3dcd119348887"), looks := false }, kinds := [], alts := [], laidByText := true, laidKinds := [.data, .pinned], laidTests := true, laidLooks := .later }
def RatLowestUptoCardSaid : Prop := Claim7.holds Tryz.pinned (.plain (OpenSpec.upto ratLowestSpec)) ratLowestUptoCard
end Rows
end Go.Proofs.YtlpfbcilnfgaaaaGreatDoor
