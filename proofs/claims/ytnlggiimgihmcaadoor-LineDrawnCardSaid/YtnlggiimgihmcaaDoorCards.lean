/-
  DERIVED. GIVEN WITH THE SEED: THE CARDS: each row of YtnlggiimgihmcaaDoorRows.lean that lists a variable, with what it lists TIED to the program's text (the seventh form; the later family's looks); each row that meets fmt, with fmt's text TOLD by the authors' own Lean function (tested against real Go, not proved from fmt's source: count such statements apart). THE CARD IS WHAT COUNTS. Prove the row's statement (the work); the ties are given (YtnlggiimgihmcaaDoorTie.lean); close each card by the builder's one call (the guide's Derived/Test/ToyasCard.lean, 'card_holds'). Laid BY PROGRAM, IN A SANDBOX (cutbox-door.mjs). By AI agents, Wed Nov 11 2026. No macro, syntax, notation, axiom, sorry.
-/
import Derived.Test.YtnlggiimgihmcaaDoorRows
import GoSem.ClaimSeven
namespace Go.Proofs.YtnlggiimgihmcaaDoor
namespace Rows

/-- THE TIED CARD OF 'catscradlelaw01.LineWords'. -/
def lineWordsCard : Claim7 := { stood := { row := lineWordsRow, standIns := [], harness := (true, "418fdd5ff0882751f0daada328be116feddecf54901e2de23a3b46abc82b0807"), looks := true }, kinds := [], alts := [], laidByText := true, laidKinds := [.data, .data, .data], laidTests := true, laidLooks := .later }
def LineWordsCardSaid : Prop := Claim7.holds Tryd.pinned (.plain (OpenSpec.ofChange lineWordsSpec)) lineWordsCard

/-- THE TIED CARD OF 'catscradlelaw01.LineNormals'. -/
def lineNormalsCard : Claim7 := { stood := { row := lineNormalsRow, standIns := [], harness := (true, "418fdd5ff0882751f0daada328be116feddecf54901e2de23a3b46abc82b0807"), looks := true }, kinds := [], alts := [], laidByText := true, laidKinds := [.data, .data, .data], laidTests := true, laidLooks := .later }
def LineNormalsCardSaid : Prop := Claim7.holds Tryd.pinned (.plain (OpenSpec.ofChange lineNormalsSpec)) lineNormalsCard

/-- THE TIED CARD OF 'catscradlelaw01.LineForgets'. -/
def lineForgetsCard : Claim7 := { stood := { row := lineForgetsRow, standIns := [], harness := (true, "418fdd5ff0882751f0daada328be116feddecf54901e2de23a3b46abc82b0807"), looks := true }, kinds := [], alts := [], laidByText := true, laidKinds := [.data, .data, .data], laidTests := true, laidLooks := .later }
def LineForgetsCardSaid : Prop := Claim7.holds Tryd.pinned (.plain (OpenSpec.ofChange lineForgetsSpec)) lineForgetsCard

/-- THE TIED CARD OF 'catscradlelaw01.LineForgetsBoth'. -/
def lineForgetsBothCard : Claim7 := { stood := { row := lineForgetsBothRow, standIns := [], harness := (true, "418fdd5ff0882751f0daada328be116feddecf54901e2de23a3b46abc82b0807"), looks := true }, kinds := [], alts := [], laidByText := true, laidKinds := [.data, .data, .data], laidTests := true, laidLooks := .later }
def LineForgetsBothCardSaid : Prop := Claim7.holds Tryd.pinned (.plain (OpenSpec.ofChange lineForgetsBothSpec)) lineForgetsBothCard

/-- THE TIED CARD OF 'catscradlelaw01.LineWinds'. -/
def lineWindsCard : Claim7 := { stood := { row := lineWindsRow, standIns := [], harness := (true, "418fdd5ff0882751f0daada328be116feddecf54901e2de23a3b46abc82b0807"), looks := true }, kinds := [], alts := [], laidByText := true, laidKinds := [.data, .data, .data], laidTests := true, laidLooks := .later }
def LineWindsCardSaid : Prop := Claim7.holds Tryd.pinned (.plain (OpenSpec.ofChange lineWindsSpec)) lineWindsCard

/-- THE TIED CARD OF 'catscradlelaw01.LineRanks'. -/
def lineRanksCard : Claim7 := { stood := { row := lineRanksRow, standIns := [], harness := (true, "418fdd5ff0882751f0daada328be116feddecf54901e2de23a3b46abc82b0807"), looks := true }, kinds := [], alts := [], laidByText := true, laidKinds := [.data, .data, .data], laidTests := true, laidLooks := .later }
def LineRanksCardSaid : Prop := Claim7.holds Tryd.pinned (.plain (OpenSpec.ofChange lineRanksSpec)) lineRanksCard

/-- THE TIED CARD OF 'catscradlelaw01.LineKeeps'. -/
def lineKeepsCard : Claim7 := { stood := { row := lineKeepsRow, standIns := [], harness := (true, "418fdd5ff0882751f0daada328be116feddecf54901e2de23a3b46abc82b0807"), looks := true }, kinds := [], alts := [], laidByText := true, laidKinds := [.data, .data, .data], laidTests := true, laidLooks := .later }
def LineKeepsCardSaid : Prop := Claim7.holds Tryd.pinned (.plain (OpenSpec.ofChange lineKeepsSpec)) lineKeepsCard

/-- THE TIED CARD OF 'catscradlelaw01.LineCircles'. -/
def lineCirclesCard : Claim7 := { stood := { row := lineCirclesRow, standIns := [], harness := (true, "418fdd5ff0882751f0daada328be116feddecf54901e2de23a3b46abc82b0807"), looks := true }, kinds := [], alts := [], laidByText := true, laidKinds := [.data, .data, .data], laidTests := true, laidLooks := .later }
def LineCirclesCardSaid : Prop := Claim7.holds Tryd.pinned (.plain (OpenSpec.ofChange lineCirclesSpec)) lineCirclesCard

/-- THE TIED CARD OF 'catscradlelaw01.LineDrawn'. -/
def lineDrawnCard : Claim7 := { stood := { row := lineDrawnRow, standIns := [], harness := (true, "418fdd5ff0882751f0daada328be116feddecf54901e2de23a3b46abc82b0807"), looks := true }, kinds := [], alts := [], laidByText := true, laidKinds := [.data, .data, .data], laidTests := true, laidLooks := .later }
def LineDrawnCardSaid : Prop := Claim7.holds Tryd.pinned (.plain (OpenSpec.ofChange lineDrawnSpec)) lineDrawnCard

/-- THE TIED CARD OF 'catscradlelaw01.LineSame'. -/
def lineSameCard : Claim7 := { stood := { row := lineSameRow, standIns := [], harness := (true, "418fdd5ff0882751f0daada328be116feddecf54901e2de23a3b46abc82b0807"), looks := true }, kinds := [], alts := [], laidByText := true, laidKinds := [.data, .data, .data], laidTests := true, laidLooks := .later }
def LineSameCardSaid : Prop := Claim7.holds Tryd.pinned (.plain (OpenSpec.ofChange lineSameSpec)) lineSameCard

/-- THE TIED CARD OF 'catscradlelaw01.LineReduces'. -/
def lineReducesCard : Claim7 := { stood := { row := lineReducesRow, standIns := [], harness := (true, "418fdd5ff0882751f0daada328be116feddecf54901e2de23a3b46abc82b0807"), looks := true }, kinds := [], alts := [], laidByText := true, laidKinds := [.data, .data, .data], laidTests := true, laidLooks := .later }
def LineReducesCardSaid : Prop := Claim7.holds Tryd.pinned (.plain (OpenSpec.ofChange lineReducesSpec)) lineReducesCard

/-- THE TIED CARD OF 'catscradlelaw01.LineTurns'. -/
def lineTurnsCard : Claim7 := { stood := { row := lineTurnsRow, standIns := [], harness := (true, "418fdd5ff0882751f0daada328be116feddecf54901e2de23a3b46abc82b0807"), looks := true }, kinds := [], alts := [], laidByText := true, laidKinds := [.data, .data, .data], laidTests := true, laidLooks := .later }
def LineTurnsCardSaid : Prop := Claim7.holds Tryd.pinned (.plain (OpenSpec.ofChange lineTurnsSpec)) lineTurnsCard

/-- THE TIED CARD OF 'catscradlelaw01.LineSymmetries'. -/
def lineSymmetriesCard : Claim7 := { stood := { row := lineSymmetriesRow, standIns := [], harness := (true, "418fdd5ff0882751f0daada328be116feddecf54901e2de23a3b46abc82b0807"), looks := true }, kinds := [], alts := [], laidByText := true, laidKinds := [.data, .data, .data], laidTests := true, laidLooks := .later }
def LineSymmetriesCardSaid : Prop := Claim7.holds Tryd.pinned (.plain (OpenSpec.ofChange lineSymmetriesSpec)) lineSymmetriesCard

/-- THE TIED CARD OF 'catscradlelaw01.LineAll'. -/
def lineAllCard : Claim7 := { stood := { row := lineAllRow, standIns := [], harness := (true, "418fdd5ff0882751f0daada328be116feddecf54901e2de23a3b46abc82b0807"), looks := true }, kinds := [], alts := [], laidByText := true, laidKinds := [.data, .data, .data], laidTests := true, laidLooks := .later }
def LineAllCardSaid : Prop := Claim7.holds Tryd.pinned (.plain (OpenSpec.ofChange lineAllSpec)) lineAllCard

/-- THE TIED CARD OF 'catscradlelaw01.LinePrints'. -/
def linePrintsCard : Claim7 := { stood := { row := linePrintsRow, standIns := [], harness := (true, "418fdd5ff0882751f0daada328be116feddecf54901e2de23a3b46abc82b0807"), looks := true }, kinds := [], alts := [], laidByText := true, laidKinds := [.data, .data, .data, .data, .sentinel, .sentinel, .pinned], laidTests := true, laidLooks := .later }
def LinePrintsCardSaid : Prop := Claim7.holds Tryd.pinned (.plain (OpenSpec.ofChange linePrintsSpec)) linePrintsCard

/-- THE TIED CARD OF 'catscradlelaw01.LineParses'. -/
def lineParsesCard : Claim7 := { stood := { row := lineParsesRow, standIns := [], harness := (true, "418fdd5ff0882751f0daada328be116feddecf54901e2de23a3b46abc82b0807"), looks := true }, kinds := [], alts := [], laidByText := true, laidKinds := [.data, .data, .data, .data, .sentinel, .sentinel, .pinned], laidTests := true, laidLooks := .later }
def LineParsesCardSaid : Prop := Claim7.holds Tryd.pinned (.plain (OpenSpec.ofChange lineParsesSpec)) lineParsesCard

/-- THE SECOND FORM's CARD OF 'catscradlelaw01.LineWords'. -/
def lineWordsUptoCard : Claim7 := { stood := { row := lineWordsUptoRow, standIns := [], harness := (true, "418fdd5ff0882751f0daada328be116feddecf54901e2de23a3b46abc82b0807"), looks := true }, kinds := [], alts := [], laidByText := true, laidKinds := [.data, .data, .data], laidTests := true, laidLooks := .later }
def LineWordsUptoCardSaid : Prop := Claim7.holds Tryd.pinned (.plain (OpenSpec.upto lineWordsSpec)) lineWordsUptoCard

/-- THE SECOND FORM's CARD OF 'catscradlelaw01.LineNormals'. -/
def lineNormalsUptoCard : Claim7 := { stood := { row := lineNormalsUptoRow, standIns := [], harness := (true, "418fdd5ff0882751f0daada328be116feddecf54901e2de23a3b46abc82b0807"), looks := true }, kinds := [], alts := [], laidByText := true, laidKinds := [.data, .data, .data], laidTests := true, laidLooks := .later }
def LineNormalsUptoCardSaid : Prop := Claim7.holds Tryd.pinned (.plain (OpenSpec.upto lineNormalsSpec)) lineNormalsUptoCard

/-- THE SECOND FORM's CARD OF 'catscradlelaw01.LineForgets'. -/
def lineForgetsUptoCard : Claim7 := { stood := { row := lineForgetsUptoRow, standIns := [], harness := (true, "418fdd5ff0882751f0daada328be116feddecf54901e2de23a3b46abc82b0807"), looks := true }, kinds := [], alts := [], laidByText := true, laidKinds := [.data, .data, .data], laidTests := true, laidLooks := .later }
def LineForgetsUptoCardSaid : Prop := Claim7.holds Tryd.pinned (.plain (OpenSpec.upto lineForgetsSpec)) lineForgetsUptoCard

/-- THE SECOND FORM's CARD OF 'catscradlelaw01.LineForgetsBoth'. -/
def lineForgetsBothUptoCard : Claim7 := { stood := { row := lineForgetsBothUptoRow, standIns := [], harness := (true, "418fdd5ff0882751f0daada328be116feddecf54901e2de23a3b46abc82b0807"), looks := true }, kinds := [], alts := [], laidByText := true, laidKinds := [.data, .data, .data], laidTests := true, laidLooks := .later }
def LineForgetsBothUptoCardSaid : Prop := Claim7.holds Tryd.pinned (.plain (OpenSpec.upto lineForgetsBothSpec)) lineForgetsBothUptoCard

/-- THE SECOND FORM's CARD OF 'catscradlelaw01.LineWinds'. -/
def lineWindsUptoCard : Claim7 := { stood := { row := lineWindsUptoRow, standIns := [], harness := (true, "418fdd5ff0882751f0daada328be116feddecf54901e2de23a3b46abc82b0807"), looks := true }, kinds := [], alts := [], laidByText := true, laidKinds := [.data, .data, .data], laidTests := true, laidLooks := .later }
def LineWindsUptoCardSaid : Prop := Claim7.holds Tryd.pinned (.plain (OpenSpec.upto lineWindsSpec)) lineWindsUptoCard

/-- THE SECOND FORM's CARD OF 'catscradlelaw01.LineRanks'. -/
def lineRanksUptoCard : Claim7 := { stood := { row := lineRanksUptoRow, standIns := [], harness := (true, "418fdd5ff0882751f0daada328be116feddecf54901e2de23a3b46abc82b0807"), looks := true }, kinds := [], alts := [], laidByText := true, laidKinds := [.data, .data, .data], laidTests := true, laidLooks := .later }
def LineRanksUptoCardSaid : Prop := Claim7.holds Tryd.pinned (.plain (OpenSpec.upto lineRanksSpec)) lineRanksUptoCard

/-- THE SECOND FORM's CARD OF 'catscradlelaw01.LineKeeps'. -/
def lineKeepsUptoCard : Claim7 := { stood := { row := lineKeepsUptoRow, standIns := [], harness := (true, "418fdd5ff0882751f0daada328be116feddecf54901e2de23a3b46abc82b0807"), looks := true }, kinds := [], alts := [], laidByText := true, laidKinds := [.data, .data, .data], laidTests := true, laidLooks := .later }
def LineKeepsUptoCardSaid : Prop := Claim7.holds Tryd.pinned (.plain (OpenSpec.upto lineKeepsSpec)) lineKeepsUptoCard

/-- THE SECOND FORM's CARD OF 'catscradlelaw01.LineCircles'. -/
def lineCirclesUptoCard : Claim7 := { stood := { row := lineCirclesUptoRow, standIns := [], harness := (true, "418fdd5ff0882751f0daada328be116feddecf54901e2de23a3b46abc82b0807"), looks := true }, kinds := [], alts := [], laidByText := true, laidKinds := [.data, .data, .data], laidTests := true, laidLooks := .later }
def LineCirclesUptoCardSaid : Prop := Claim7.holds Tryd.pinned (.plain (OpenSpec.upto lineCirclesSpec)) lineCirclesUptoCard

/-- THE SECOND FORM's CARD OF 'catscradlelaw01.LineDrawn'. -/
def lineDrawnUptoCard : Claim7 := { stood := { row := lineDrawnUptoRow, standIns := [], harness := (true, "418fdd5ff0882751f0daada328be116feddecf54901e2de23a3b46abc82b0807"), looks := true }, kinds := [], alts := [], laidByText := true, laidKinds := [.data, .data, .data], laidTests := true, laidLooks := .later }
def LineDrawnUptoCardSaid : Prop := Claim7.holds Tryd.pinned (.plain (OpenSpec.upto lineDrawnSpec)) lineDrawnUptoCard

/-- THE SECOND FORM's CARD OF 'catscradlelaw01.LineSame'. -/
def lineSameUptoCard : Claim7 := { stood := { row := lineSameUptoRow, standIns := [], harness := (true, "418fdd5ff0882751f0daada328be116feddecf54901e2de23a3b46abc82b0807"), looks := true }, kinds := [], alts := [], laidByText := true, laidKinds := [.data, .data, .data], laidTests := true, laidLooks := .later }
def LineSameUptoCardSaid : Prop := Claim7.holds Tryd.pinned (.plain (OpenSpec.upto lineSameSpec)) lineSameUptoCard

/-- THE SECOND FORM's CARD OF 'catscradlelaw01.LineReduces'. -/
def lineReducesUptoCard : Claim7 := { stood := { row := lineReducesUptoRow, standIns := [], harness := (true, "418fdd5ff0882751f0daada328be116feddecf54901e2de23a3b46abc82b0807"), looks := true }, kinds := [], alts := [], laidByText := true, laidKinds := [.data, .data, .data], laidTests := true, laidLooks := .later }
def LineReducesUptoCardSaid : Prop := Claim7.holds Tryd.pinned (.plain (OpenSpec.upto lineReducesSpec)) lineReducesUptoCard

/-- THE SECOND FORM's CARD OF 'catscradlelaw01.LineTurns'. -/
def lineTurnsUptoCard : Claim7 := { stood := { row := lineTurnsUptoRow, standIns := [], harness := (true, "418fdd5ff0882751f0daada328be116feddecf54901e2de23a3b46abc82b0807"), looks := true }, kinds := [], alts := [], laidByText := true, laidKinds := [.data, .data, .data], laidTests := true, laidLooks := .later }
def LineTurnsUptoCardSaid : Prop := Claim7.holds Tryd.pinned (.plain (OpenSpec.upto lineTurnsSpec)) lineTurnsUptoCard

/-- THE SECOND FORM's CARD OF 'catscradlelaw01.LineSymmetries'. -/
def lineSymmetriesUptoCard : Claim7 := { stood := { row := lineSymmetriesUptoRow, standIns := [], harness := (true, "418fdd5ff0882751f0daada328be116feddecf54901e2de23a3b46abc82b0807"), looks := true }, kinds := [], alts := [], laidByText := true, laidKinds := [.data, .data, .data], laidTests := true, laidLooks := .later }
def LineSymmetriesUptoCardSaid : Prop := Claim7.holds Tryd.pinned (.plain (OpenSpec.upto lineSymmetriesSpec)) lineSymmetriesUptoCard

/-- THE SECOND FORM's CARD OF 'catscradlelaw01.LineAll'. -/
def lineAllUptoCard : Claim7 := { stood := { row := lineAllUptoRow, standIns := [], harness := (true, "418fdd5ff0882751f0daada328be116feddecf54901e2de23a3b46abc82b0807"), looks := true }, kinds := [], alts := [], laidByText := true, laidKinds := [.data, .data, .data], laidTests := true, laidLooks := .later }
def LineAllUptoCardSaid : Prop := Claim7.holds Tryd.pinned (.plain (OpenSpec.upto lineAllSpec)) lineAllUptoCard

/-- THE SECOND FORM's CARD OF 'catscradlelaw01.LinePrints'. -/
def linePrintsUptoCard : Claim7 := { stood := { row := linePrintsUptoRow, standIns := [], harness := (true, "418fdd5ff0882751f0daada328be116feddecf54901e2de23a3b46abc82b0807"), looks := true }, kinds := [], alts := [], laidByText := true, laidKinds := [.data, .data, .data, .data, .sentinel, .sentinel, .pinned], laidTests := true, laidLooks := .later }
def LinePrintsUptoCardSaid : Prop := Claim7.holds Tryd.pinned (.plain (OpenSpec.upto linePrintsSpec)) linePrintsUptoCard

/-- THE SECOND FORM's CARD OF 'catscradlelaw01.LineParses'. -/
def lineParsesUptoCard : Claim7 := { stood := { row := lineParsesUptoRow, standIns := [], harness := (true, "418fdd5ff0882751f0daada328be116feddecf54901e2de23a3b46abc82b0807"), looks := true }, kinds := [], alts := [], laidByText := true, laidKinds := [.data, .data, .data, .data, .sentinel, .sentinel, .pinned], laidTests := true, laidLooks := .later }
def LineParsesUptoCardSaid : Prop := Claim7.holds Tryd.pinned (.plain (OpenSpec.upto lineParsesSpec)) lineParsesUptoCard
end Rows
end Go.Proofs.YtnlggiimgihmcaaDoor
