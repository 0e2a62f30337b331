/-
  DERIVED. GIVEN WITH THE SEED: THE CARDS: each row of YtkjcmppaapbabaaDoorRows.lean that lists a variable, with what it lists TIED to the program's text (the seventh form; the later family's looks); each row that meets fmt, with fmt's text TOLD by the authors' own Lean function (tested against real Go, not proved from fmt's source: count such statements apart). THE CARD IS WHAT COUNTS. Prove the row's statement (the work); the ties are given (YtkjcmppaapbabaaDoorTie.lean); close each card by the builder's one call (the guide's Derived/Test/ToyasCard.lean, 'card_holds'). Laid BY PROGRAM, IN A SANDBOX (cutbox-door.mjs). By AI agents, Wed Nov 11 2026. No macro, syntax, notation, axiom, sorry.
-/
import Derived.Test.YtkjcmppaapbabaaDoorRows
import GoSem.ClaimSeven
namespace Go.Proofs.YtkjcmppaapbabaaDoor
namespace Rows

/-- THE TIED CARD OF 'catscradlelaw02.CodeFaces'. -/
def codeFacesCard : Claim7 := { stood := { row := codeFacesRow, standIns := [], harness := (true, "fc8537e5f04908246f354d21a1ce4414088e92b9052af0745ffaa61a7b430b7e"), looks := true }, kinds := [], alts := [], laidByText := true, laidKinds := [.data, .data, .data], laidTests := true, laidLooks := .later }
def CodeFacesCardSaid : Prop := Claim7.holds Tryd.pinned (.plain (OpenSpec.ofChange codeFacesSpec)) codeFacesCard

/-- THE TIED CARD OF 'catscradlelaw02.CodeChecks'. -/
def codeChecksCard : Claim7 := { stood := { row := codeChecksRow, standIns := [], harness := (true, "fc8537e5f04908246f354d21a1ce4414088e92b9052af0745ffaa61a7b430b7e"), looks := true }, kinds := [], alts := [], laidByText := true, laidKinds := [.data, .data, .data], laidTests := true, laidLooks := .later }
def CodeChecksCardSaid : Prop := Claim7.holds Tryd.pinned (.plain (OpenSpec.ofChange codeChecksSpec)) codeChecksCard

/-- THE TIED CARD OF 'catscradlelaw02.CodeEuler'. -/
def codeEulerCard : Claim7 := { stood := { row := codeEulerRow, standIns := [], harness := (true, "fc8537e5f04908246f354d21a1ce4414088e92b9052af0745ffaa61a7b430b7e"), looks := true }, kinds := [], alts := [], laidByText := true, laidKinds := [.data, .data, .data], laidTests := true, laidLooks := .later }
def CodeEulerCardSaid : Prop := Claim7.holds Tryd.pinned (.plain (OpenSpec.ofChange codeEulerSpec)) codeEulerCard

/-- THE TIED CARD OF 'catscradlelaw02.CodeCircles'. -/
def codeCirclesCard : Claim7 := { stood := { row := codeCirclesRow, standIns := [], harness := (true, "fc8537e5f04908246f354d21a1ce4414088e92b9052af0745ffaa61a7b430b7e"), looks := true }, kinds := [], alts := [], laidByText := true, laidKinds := [.data, .data, .data], laidTests := true, laidLooks := .later }
def CodeCirclesCardSaid : Prop := Claim7.holds Tryd.pinned (.plain (OpenSpec.ofChange codeCirclesSpec)) codeCirclesCard

/-- THE TIED CARD OF 'catscradlelaw02.CodeFingers'. -/
def codeFingersCard : Claim7 := { stood := { row := codeFingersRow, standIns := [], harness := (true, "fc8537e5f04908246f354d21a1ce4414088e92b9052af0745ffaa61a7b430b7e"), looks := true }, kinds := [], alts := [], laidByText := true, laidKinds := [.data, .data, .data], laidTests := true, laidLooks := .later }
def CodeFingersCardSaid : Prop := Claim7.holds Tryd.pinned (.plain (OpenSpec.ofChange codeFingersSpec)) codeFingersCard

/-- THE TIED CARD OF 'catscradlelaw02.CodeTurns'. -/
def codeTurnsCard : Claim7 := { stood := { row := codeTurnsRow, standIns := [], harness := (true, "fc8537e5f04908246f354d21a1ce4414088e92b9052af0745ffaa61a7b430b7e"), looks := true }, kinds := [], alts := [], laidByText := true, laidKinds := [.data, .data, .data], laidTests := true, laidLooks := .later }
def CodeTurnsCardSaid : Prop := Claim7.holds Tryd.pinned (.plain (OpenSpec.ofChange codeTurnsSpec)) codeTurnsCard

/-- THE TIED CARD OF 'catscradlelaw02.CodeNormals'. -/
def codeNormalsCard : Claim7 := { stood := { row := codeNormalsRow, standIns := [], harness := (true, "fc8537e5f04908246f354d21a1ce4414088e92b9052af0745ffaa61a7b430b7e"), looks := true }, kinds := [], alts := [], laidByText := true, laidKinds := [.data, .data, .data], laidTests := true, laidLooks := .later }
def CodeNormalsCardSaid : Prop := Claim7.holds Tryd.pinned (.plain (OpenSpec.ofChange codeNormalsSpec)) codeNormalsCard

/-- THE TIED CARD OF 'catscradlelaw02.CodeSame'. -/
def codeSameCard : Claim7 := { stood := { row := codeSameRow, standIns := [], harness := (true, "fc8537e5f04908246f354d21a1ce4414088e92b9052af0745ffaa61a7b430b7e"), looks := true }, kinds := [], alts := [], laidByText := true, laidKinds := [.data, .data, .data], laidTests := true, laidLooks := .later }
def CodeSameCardSaid : Prop := Claim7.holds Tryd.pinned (.plain (OpenSpec.ofChange codeSameSpec)) codeSameCard

/-- THE TIED CARD OF 'catscradlelaw02.CodePlain'. -/
def codePlainCard : Claim7 := { stood := { row := codePlainRow, standIns := [], harness := (true, "fc8537e5f04908246f354d21a1ce4414088e92b9052af0745ffaa61a7b430b7e"), looks := true }, kinds := [], alts := [], laidByText := true, laidKinds := [.data, .data, .data], laidTests := true, laidLooks := .later }
def CodePlainCardSaid : Prop := Claim7.holds Tryd.pinned (.plain (OpenSpec.ofChange codePlainSpec)) codePlainCard

/-- THE TIED CARD OF 'catscradlelaw02.CodeOwn'. -/
def codeOwnCard : Claim7 := { stood := { row := codeOwnRow, standIns := [], harness := (true, "fc8537e5f04908246f354d21a1ce4414088e92b9052af0745ffaa61a7b430b7e"), looks := true }, kinds := [], alts := [], laidByText := true, laidKinds := [.data, .data, .data], laidTests := true, laidLooks := .later }
def CodeOwnCardSaid : Prop := Claim7.holds Tryd.pinned (.plain (OpenSpec.ofChange codeOwnSpec)) codeOwnCard

/-- THE TIED CARD OF 'catscradlelaw02.CodeStarts'. -/
def codeStartsCard : Claim7 := { stood := { row := codeStartsRow, standIns := [], harness := (true, "fc8537e5f04908246f354d21a1ce4414088e92b9052af0745ffaa61a7b430b7e"), looks := true }, kinds := [], alts := [], laidByText := true, laidKinds := [.data, .data, .data], laidTests := true, laidLooks := .later }
def CodeStartsCardSaid : Prop := Claim7.holds Tryd.pinned (.plain (OpenSpec.ofChange codeStartsSpec)) codeStartsCard

/-- THE TIED CARD OF 'catscradlelaw02.CodeGroup'. -/
def codeGroupCard : Claim7 := { stood := { row := codeGroupRow, standIns := [], harness := (true, "fc8537e5f04908246f354d21a1ce4414088e92b9052af0745ffaa61a7b430b7e"), looks := true }, kinds := [], alts := [], laidByText := true, laidKinds := [.data, .data, .data], laidTests := true, laidLooks := .later }
def CodeGroupCardSaid : Prop := Claim7.holds Tryd.pinned (.plain (OpenSpec.ofChange codeGroupSpec)) codeGroupCard

/-- THE TIED CARD OF 'catscradlelaw02.CodeForgets'. -/
def codeForgetsCard : Claim7 := { stood := { row := codeForgetsRow, standIns := [], harness := (true, "fc8537e5f04908246f354d21a1ce4414088e92b9052af0745ffaa61a7b430b7e"), looks := true }, kinds := [], alts := [], laidByText := true, laidKinds := [.data, .data, .data], laidTests := true, laidLooks := .later }
def CodeForgetsCardSaid : Prop := Claim7.holds Tryd.pinned (.plain (OpenSpec.ofChange codeForgetsSpec)) codeForgetsCard

/-- THE TIED CARD OF 'catscradlelaw02.CodeErrors'. -/
def codeErrorsCard : Claim7 := { stood := { row := codeErrorsRow, standIns := [], harness := (true, "fc8537e5f04908246f354d21a1ce4414088e92b9052af0745ffaa61a7b430b7e"), looks := true }, kinds := [], alts := [], laidByText := true, laidKinds := [.data, .data, .data], laidTests := true, laidLooks := .later }
def CodeErrorsCardSaid : Prop := Claim7.holds Tryd.pinned (.plain (OpenSpec.ofChange codeErrorsSpec)) codeErrorsCard

/-- THE TIED CARD OF 'catscradlelaw02.CodeWords'. -/
def codeWordsCard : Claim7 := { stood := { row := codeWordsRow, standIns := [], harness := (true, "fc8537e5f04908246f354d21a1ce4414088e92b9052af0745ffaa61a7b430b7e"), looks := true }, kinds := [], alts := [], laidByText := true, laidKinds := [.data, .data, .data], laidTests := true, laidLooks := .later }
def CodeWordsCardSaid : Prop := Claim7.holds Tryd.pinned (.plain (OpenSpec.ofChange codeWordsSpec)) codeWordsCard

/-- THE TIED CARD OF 'catscradlelaw02.CodePrints'. -/
def codePrintsCard : Claim7 := { stood := { row := codePrintsRow, standIns := [], harness := (true, "fc8537e5f04908246f354d21a1ce4414088e92b9052af0745ffaa61a7b430b7e"), looks := true }, kinds := [], alts := [], laidByText := true, laidKinds := [.data, .data, .data, .sentinel, .sentinel], laidTests := true, laidLooks := .later }
def CodePrintsCardSaid : Prop := Claim7.holds Tryd.pinned (.plain (OpenSpec.ofChange codePrintsSpec)) codePrintsCard

/-- THE TIED CARD OF 'catscradlelaw02.CodeParses'. -/
def codeParsesCard : Claim7 := { stood := { row := codeParsesRow, standIns := [], harness := (true, "fc8537e5f04908246f354d21a1ce4414088e92b9052af0745ffaa61a7b430b7e"), looks := true }, kinds := [], alts := [], laidByText := true, laidKinds := [.data, .data, .data, .sentinel, .sentinel], laidTests := true, laidLooks := .later }
def CodeParsesCardSaid : Prop := Claim7.holds Tryd.pinned (.plain (OpenSpec.ofChange codeParsesSpec)) codeParsesCard

/-- THE SECOND FORM's CARD OF 'catscradlelaw02.CodeFaces'. -/
def codeFacesUptoCard : Claim7 := { stood := { row := codeFacesUptoRow, standIns := [], harness := (true, "fc8537e5f04908246f354d21a1ce4414088e92b9052af0745ffaa61a7b430b7e"), looks := true }, kinds := [], alts := [], laidByText := true, laidKinds := [.data, .data, .data], laidTests := true, laidLooks := .later }
def CodeFacesUptoCardSaid : Prop := Claim7.holds Tryd.pinned (.plain (OpenSpec.upto codeFacesSpec)) codeFacesUptoCard

/-- THE SECOND FORM's CARD OF 'catscradlelaw02.CodeChecks'. -/
def codeChecksUptoCard : Claim7 := { stood := { row := codeChecksUptoRow, standIns := [], harness := (true, "fc8537e5f04908246f354d21a1ce4414088e92b9052af0745ffaa61a7b430b7e"), looks := true }, kinds := [], alts := [], laidByText := true, laidKinds := [.data, .data, .data], laidTests := true, laidLooks := .later }
def CodeChecksUptoCardSaid : Prop := Claim7.holds Tryd.pinned (.plain (OpenSpec.upto codeChecksSpec)) codeChecksUptoCard

/-- THE SECOND FORM's CARD OF 'catscradlelaw02.CodeEuler'. -/
def codeEulerUptoCard : Claim7 := { stood := { row := codeEulerUptoRow, standIns := [], harness := (true, "fc8537e5f04908246f354d21a1ce4414088e92b9052af0745ffaa61a7b430b7e"), looks := true }, kinds := [], alts := [], laidByText := true, laidKinds := [.data, .data, .data], laidTests := true, laidLooks := .later }
def CodeEulerUptoCardSaid : Prop := Claim7.holds Tryd.pinned (.plain (OpenSpec.upto codeEulerSpec)) codeEulerUptoCard

/-- THE SECOND FORM's CARD OF 'catscradlelaw02.CodeCircles'. -/
def codeCirclesUptoCard : Claim7 := { stood := { row := codeCirclesUptoRow, standIns := [], harness := (true, "fc8537e5f04908246f354d21a1ce4414088e92b9052af0745ffaa61a7b430b7e"), looks := true }, kinds := [], alts := [], laidByText := true, laidKinds := [.data, .data, .data], laidTests := true, laidLooks := .later }
def CodeCirclesUptoCardSaid : Prop := Claim7.holds Tryd.pinned (.plain (OpenSpec.upto codeCirclesSpec)) codeCirclesUptoCard

/-- THE SECOND FORM's CARD OF 'catscradlelaw02.CodeFingers'. -/
def codeFingersUptoCard : Claim7 := { stood := { row := codeFingersUptoRow, standIns := [], harness := (true, "fc8537e5f04908246f354d21a1ce4414088e92b9052af0745ffaa61a7b430b7e"), looks := true }, kinds := [], alts := [], laidByText := true, laidKinds := [.data, .data, .data], laidTests := true, laidLooks := .later }
def CodeFingersUptoCardSaid : Prop := Claim7.holds Tryd.pinned (.plain (OpenSpec.upto codeFingersSpec)) codeFingersUptoCard

/-- THE SECOND FORM's CARD OF 'catscradlelaw02.CodeTurns'. -/
def codeTurnsUptoCard : Claim7 := { stood := { row := codeTurnsUptoRow, standIns := [], harness := (true, "fc8537e5f04908246f354d21a1ce4414088e92b9052af0745ffaa61a7b430b7e"), looks := true }, kinds := [], alts := [], laidByText := true, laidKinds := [.data, .data, .data], laidTests := true, laidLooks := .later }
def CodeTurnsUptoCardSaid : Prop := Claim7.holds Tryd.pinned (.plain (OpenSpec.upto codeTurnsSpec)) codeTurnsUptoCard

/-- THE SECOND FORM's CARD OF 'catscradlelaw02.CodeNormals'. -/
def codeNormalsUptoCard : Claim7 := { stood := { row := codeNormalsUptoRow, standIns := [], harness := (true, "fc8537e5f04908246f354d21a1ce4414088e92b9052af0745ffaa61a7b430b7e"), looks := true }, kinds := [], alts := [], laidByText := true, laidKinds := [.data, .data, .data], laidTests := true, laidLooks := .later }
def CodeNormalsUptoCardSaid : Prop := Claim7.holds Tryd.pinned (.plain (OpenSpec.upto codeNormalsSpec)) codeNormalsUptoCard

/-- THE SECOND FORM's CARD OF 'catscradlelaw02.CodeSame'. -/
def codeSameUptoCard : Claim7 := { stood := { row := codeSameUptoRow, standIns := [], harness := (true, "fc8537e5f04908246f354d21a1ce4414088e92b9052af0745ffaa61a7b430b7e"), looks := true }, kinds := [], alts := [], laidByText := true, laidKinds := [.data, .data, .data], laidTests := true, laidLooks := .later }
def CodeSameUptoCardSaid : Prop := Claim7.holds Tryd.pinned (.plain (OpenSpec.upto codeSameSpec)) codeSameUptoCard

/-- THE SECOND FORM's CARD OF 'catscradlelaw02.CodePlain'. -/
def codePlainUptoCard : Claim7 := { stood := { row := codePlainUptoRow, standIns := [], harness := (true, "fc8537e5f04908246f354d21a1ce4414088e92b9052af0745ffaa61a7b430b7e"), looks := true }, kinds := [], alts := [], laidByText := true, laidKinds := [.data, .data, .data], laidTests := true, laidLooks := .later }
def CodePlainUptoCardSaid : Prop := Claim7.holds Tryd.pinned (.plain (OpenSpec.upto codePlainSpec)) codePlainUptoCard

/-- THE SECOND FORM's CARD OF 'catscradlelaw02.CodeOwn'. -/
def codeOwnUptoCard : Claim7 := { stood := { row := codeOwnUptoRow, standIns := [], harness := (true, "fc8537e5f04908246f354d21a1ce4414088e92b9052af0745ffaa61a7b430b7e"), looks := true }, kinds := [], alts := [], laidByText := true, laidKinds := [.data, .data, .data], laidTests := true, laidLooks := .later }
def CodeOwnUptoCardSaid : Prop := Claim7.holds Tryd.pinned (.plain (OpenSpec.upto codeOwnSpec)) codeOwnUptoCard

/-- THE SECOND FORM's CARD OF 'catscradlelaw02.CodeStarts'. -/
def codeStartsUptoCard : Claim7 := { stood := { row := codeStartsUptoRow, standIns := [], harness := (true, "fc8537e5f04908246f354d21a1ce4414088e92b9052af0745ffaa61a7b430b7e"), looks := true }, kinds := [], alts := [], laidByText := true, laidKinds := [.data, .data, .data], laidTests := true, laidLooks := .later }
def CodeStartsUptoCardSaid : Prop := Claim7.holds Tryd.pinned (.plain (OpenSpec.upto codeStartsSpec)) codeStartsUptoCard

/-- THE SECOND FORM's CARD OF 'catscradlelaw02.CodeGroup'. -/
def codeGroupUptoCard : Claim7 := { stood := { row := codeGroupUptoRow, standIns := [], harness := (true, "fc8537e5f04908246f354d21a1ce4414088e92b9052af0745ffaa61a7b430b7e"), looks := true }, kinds := [], alts := [], laidByText := true, laidKinds := [.data, .data, .data], laidTests := true, laidLooks := .later }
def CodeGroupUptoCardSaid : Prop := Claim7.holds Tryd.pinned (.plain (OpenSpec.upto codeGroupSpec)) codeGroupUptoCard

/-- THE SECOND FORM's CARD OF 'catscradlelaw02.CodeForgets'. -/
def codeForgetsUptoCard : Claim7 := { stood := { row := codeForgetsUptoRow, standIns := [], harness := (true, "fc8537e5f04908246f354d21a1ce4414088e92b9052af0745ffaa61a7b430b7e"), looks := true }, kinds := [], alts := [], laidByText := true, laidKinds := [.data, .data, .data], laidTests := true, laidLooks := .later }
def CodeForgetsUptoCardSaid : Prop := Claim7.holds Tryd.pinned (.plain (OpenSpec.upto codeForgetsSpec)) codeForgetsUptoCard

/-- THE SECOND FORM's CARD OF 'catscradlelaw02.CodeErrors'. -/
def codeErrorsUptoCard : Claim7 := { stood := { row := codeErrorsUptoRow, standIns := [], harness := (true, "fc8537e5f04908246f354d21a1ce4414088e92b9052af0745ffaa61a7b430b7e"), looks := true }, kinds := [], alts := [], laidByText := true, laidKinds := [.data, .data, .data], laidTests := true, laidLooks := .later }
def CodeErrorsUptoCardSaid : Prop := Claim7.holds Tryd.pinned (.plain (OpenSpec.upto codeErrorsSpec)) codeErrorsUptoCard

/-- THE SECOND FORM's CARD OF 'catscradlelaw02.CodeWords'. -/
def codeWordsUptoCard : Claim7 := { stood := { row := codeWordsUptoRow, standIns := [], harness := (true, "fc8537e5f04908246f354d21a1ce4414088e92b9052af0745ffaa61a7b430b7e"), looks := true }, kinds := [], alts := [], laidByText := true, laidKinds := [.data, .data, .data], laidTests := true, laidLooks := .later }
def CodeWordsUptoCardSaid : Prop := Claim7.holds Tryd.pinned (.plain (OpenSpec.upto codeWordsSpec)) codeWordsUptoCard

/-- THE SECOND FORM's CARD OF 'catscradlelaw02.CodePrints'. -/
def codePrintsUptoCard : Claim7 := { stood := { row := codePrintsUptoRow, standIns := [], harness := (true, "fc8537e5f04908246f354d21a1ce4414088e92b9052af0745ffaa61a7b430b7e"), looks := true }, kinds := [], alts := [], laidByText := true, laidKinds := [.data, .data, .data, .sentinel, .sentinel], laidTests := true, laidLooks := .later }
def CodePrintsUptoCardSaid : Prop := Claim7.holds Tryd.pinned (.plain (OpenSpec.upto codePrintsSpec)) codePrintsUptoCard

/-- THE SECOND FORM's CARD OF 'catscradlelaw02.CodeParses'. -/
def codeParsesUptoCard : Claim7 := { stood := { row := codeParsesUptoRow, standIns := [], harness := (true, "fc8537e5f04908246f354d21a1ce4414088e92b9052af0745ffaa61a7b430b7e"), looks := true }, kinds := [], alts := [], laidByText := true, laidKinds := [.data, .data, .data, .sentinel, .sentinel], laidTests := true, laidLooks := .later }
def CodeParsesUptoCardSaid : Prop := Claim7.holds Tryd.pinned (.plain (OpenSpec.upto codeParsesSpec)) codeParsesUptoCard
end Rows
end Go.Proofs.YtkjcmppaapbabaaDoor
