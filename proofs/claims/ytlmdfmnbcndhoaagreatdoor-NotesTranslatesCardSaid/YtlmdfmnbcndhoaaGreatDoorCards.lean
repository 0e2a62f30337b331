/-
  DERIVED. GIVEN WITH THE SEED: THE CARDS: each row of YtlmdfmnbcndhoaaGreatDoorRows.lean that lists a variable, with what it lists TIED to the program's text (the seventh form; the later family's looks); each row that meets fmt, with fmt's text TOLD by the authors' own Lean function (tested against real Go, not proved from fmt's source: count such statements apart). THE CARD IS WHAT COUNTS. Prove the row's statement (the work); the ties are given (YtlmdfmnbcndhoaaGreatDoorTie.lean); close each card by the builder's one call (the guide's Derived/Test/ToyasCard.lean, 'card_holds'). Laid BY PROGRAM, IN A SANDBOX (cutbox-door.mjs). By AI agents, Wed Nov 11 2026. No macro, syntax, notation, axiom, sorry.
-/
import Derived.Test.YtlmdfmnbcndhoaaGreatDoorRows
import GoSem.ClaimSeven
namespace Go.Proofs.YtlmdfmnbcndhoaaGreatDoor
namespace Rows

/-- THE TIED CARD OF 'catscradlelaw07.NotesReads'. -/
def notesReadsCard : Claim7 := { stood := { row := notesReadsRow, standIns := [], harness := (true, "dc6f2da536cc9cab148092e09e339a4c337d724a466b04b5328221ea07433945"), looks := true }, kinds := [], alts := [], laidByText := true, laidKinds := [.data, .data, .data, .data, .pinned], laidTests := true, laidLooks := .later }
def NotesReadsCardSaid : Prop := Claim7.holds Tryz.pinned (.plain (OpenSpec.ofChange notesReadsSpec)) notesReadsCard

/-- THE TIED CARD OF 'catscradlelaw07.NotesLines'. -/
def notesLinesCard : Claim7 := { stood := { row := notesLinesRow, standIns := [], harness := (true, "dc6f2da536cc9cab148092e09e339a4c337d724a466b04b5328221ea07433945"), looks := true }, kinds := [], alts := [], laidByText := true, laidKinds := [.data, .data, .data, .data, .pinned], laidTests := true, laidLooks := .later }
def NotesLinesCardSaid : Prop := Claim7.holds Tryz.pinned (.plain (OpenSpec.ofChange notesLinesSpec)) notesLinesCard

/-- THE TIED CARD OF 'catscradlelaw07.NotesSigns'. -/
def notesSignsCard : Claim7 := { stood := { row := notesSignsRow, standIns := [], harness := (true, "dc6f2da536cc9cab148092e09e339a4c337d724a466b04b5328221ea07433945"), looks := true }, kinds := [], alts := [], laidByText := true, laidKinds := [.data, .data, .data, .data, .pinned], laidTests := true, laidLooks := .later }
def NotesSignsCardSaid : Prop := Claim7.holds Tryz.pinned (.plain (OpenSpec.ofChange notesSignsSpec)) notesSignsCard

/-- THE TIED CARD OF 'catscradlelaw07.NotesItems'. -/
def notesItemsCard : Claim7 := { stood := { row := notesItemsRow, standIns := [], harness := (true, "dc6f2da536cc9cab148092e09e339a4c337d724a466b04b5328221ea07433945"), looks := true }, kinds := [], alts := [], laidByText := true, laidKinds := [.data, .data, .data, .data, .pinned], laidTests := true, laidLooks := .later }
def NotesItemsCardSaid : Prop := Claim7.holds Tryz.pinned (.plain (OpenSpec.ofChange notesItemsSpec)) notesItemsCard

/-- THE TIED CARD OF 'catscradlelaw07.NotesBack'. -/
def notesBackCard : Claim7 := { stood := { row := notesBackRow, standIns := [], harness := (true, "dc6f2da536cc9cab148092e09e339a4c337d724a466b04b5328221ea07433945"), looks := true }, kinds := [], alts := [], laidByText := true, laidKinds := [.data, .data, .data, .data, .pinned], laidTests := true, laidLooks := .later }
def NotesBackCardSaid : Prop := Claim7.holds Tryz.pinned (.plain (OpenSpec.ofChange notesBackSpec)) notesBackCard

/-- THE TIED CARD OF 'catscradlelaw07.NotesSequences'. -/
def notesSequencesCard : Claim7 := { stood := { row := notesSequencesRow, standIns := [], harness := (true, "dc6f2da536cc9cab148092e09e339a4c337d724a466b04b5328221ea07433945"), looks := true }, kinds := [], alts := [], laidByText := true, laidKinds := [.data, .data, .data, .data, .pinned], laidTests := true, laidLooks := .later }
def NotesSequencesCardSaid : Prop := Claim7.holds Tryz.pinned (.plain (OpenSpec.ofChange notesSequencesSpec)) notesSequencesCard

/-- THE TIED CARD OF 'catscradlelaw07.NotesCodes'. -/
def notesCodesCard : Claim7 := { stood := { row := notesCodesRow, standIns := [], harness := (true, "dc6f2da536cc9cab148092e09e339a4c337d724a466b04b5328221ea07433945"), looks := true }, kinds := [], alts := [], laidByText := true, laidKinds := [.data, .data, .data, .data, .pinned], laidTests := true, laidLooks := .later }
def NotesCodesCardSaid : Prop := Claim7.holds Tryz.pinned (.plain (OpenSpec.ofChange notesCodesSpec)) notesCodesCard

/-- THE TIED CARD OF 'catscradlelaw07.NotesTranslates'. -/
def notesTranslatesCard : Claim7 := { stood := { row := notesTranslatesRow, standIns := [], harness := (true, "dc6f2da536cc9cab148092e09e339a4c337d724a466b04b5328221ea07433945"), looks := true }, kinds := [], alts := [], laidByText := true, laidKinds := [.data, .data, .data, .data, .pinned], laidTests := true, laidLooks := .later }
def NotesTranslatesCardSaid : Prop := Claim7.holds Tryz.pinned (.plain (OpenSpec.ofChange notesTranslatesSpec)) notesTranslatesCard

/-- THE TIED CARD OF 'catscradlelaw07.NotesWords'. -/
def notesWordsCard : Claim7 := { stood := { row := notesWordsRow, standIns := [], harness := (true, "dc6f2da536cc9cab148092e09e339a4c337d724a466b04b5328221ea07433945"), looks := true }, kinds := [], alts := [], laidByText := true, laidKinds := [.data, .data, .data, .data, .pinned], laidTests := true, laidLooks := .later }
def NotesWordsCardSaid : Prop := Claim7.holds Tryz.pinned (.plain (OpenSpec.ofChange notesWordsSpec)) notesWordsCard

/-- THE TIED CARD OF 'catscradlelaw07.NotesOpen'. -/
def notesOpenCard : Claim7 := { stood := { row := notesOpenRow, standIns := [], harness := (true, "dc6f2da536cc9cab148092e09e339a4c337d724a466b04b5328221ea07433945"), looks := true }, kinds := [], alts := [], laidByText := true, laidKinds := [.data, .data, .data, .data, .pinned], laidTests := true, laidLooks := .later }
def NotesOpenCardSaid : Prop := Claim7.holds Tryz.pinned (.plain (OpenSpec.ofChange notesOpenSpec)) notesOpenCard

/-- THE TIED CARD OF 'catscradlelaw07.NotesLong'. -/
def notesLongCard : Claim7 := { stood := { row := notesLongRow, standIns := [], harness := (true, "dc6f2da536cc9cab148092e09e339a4c337d724a466b04b5328221ea07433945"), looks := true }, kinds := [], alts := [], laidByText := true, laidKinds := [.data, .data, .data, .data, .pinned], laidTests := true, laidLooks := .later }
def NotesLongCardSaid : Prop := Claim7.holds Tryz.pinned (.plain (OpenSpec.ofChange notesLongSpec)) notesLongCard

/-- THE TIED CARD OF 'catscradlelaw07.NotesWritten'. -/
def notesWrittenCard : Claim7 := { stood := { row := notesWrittenRow, standIns := [], harness := (true, "dc6f2da536cc9cab148092e09e339a4c337d724a466b04b5328221ea07433945"), looks := true }, kinds := [], alts := [], laidByText := true, laidKinds := [.data, .data, .data, .data, .pinned], laidTests := true, laidLooks := .later }
def NotesWrittenCardSaid : Prop := Claim7.holds Tryz.pinned (.plain (OpenSpec.ofChange notesWrittenSpec)) notesWrittenCard

/-- THE SECOND FORM's CARD OF 'catscradlelaw07.NotesReads'. -/
def notesReadsUptoCard : Claim7 := { stood := { row := notesReadsUptoRow, standIns := [], harness := (true, "dc6f2da536cc9cab148092e09e339a4c337d724a466b04b5328221ea07433945"), looks := true }, kinds := [], alts := [], laidByText := true, laidKinds := [.data, .data, .data, .data, .pinned], laidTests := true, laidLooks := .later }
def NotesReadsUptoCardSaid : Prop := Claim7.holds Tryz.pinned (.plain (OpenSpec.upto notesReadsSpec)) notesReadsUptoCard

/-- THE SECOND FORM's CARD OF 'catscradlelaw07.NotesLines'. -/
def notesLinesUptoCard : Claim7 := { stood := { row := notesLinesUptoRow, standIns := [], harness := (true, "dc6f2da536cc9cab148092e09e339a4c337d724a466b04b5328221ea07433945"), looks := true }, kinds := [], alts := [], laidByText := true, laidKinds := [.data, .data, .data, .data, .pinned], laidTests := true, laidLooks := .later }
def NotesLinesUptoCardSaid : Prop := Claim7.holds Tryz.pinned (.plain (OpenSpec.upto notesLinesSpec)) notesLinesUptoCard

/-- THE SECOND FORM's CARD OF 'catscradlelaw07.NotesSigns'. -/
def notesSignsUptoCard : Claim7 := { stood := { row := notesSignsUptoRow, standIns := [], harness := (true, "dc6f2da536cc9cab148092e09e339a4c337d724a466b04b5328221ea07433945"), looks := true }, kinds := [], alts := [], laidByText := true, laidKinds := [.data, .data, .data, .data, .pinned], laidTests := true, laidLooks := .later }
def NotesSignsUptoCardSaid : Prop := Claim7.holds Tryz.pinned (.plain (OpenSpec.upto notesSignsSpec)) notesSignsUptoCard

/-- THE SECOND FORM's CARD OF 'catscradlelaw07.NotesItems'. -/
def notesItemsUptoCard : Claim7 := { stood := { row := notesItemsUptoRow, standIns := [], harness := (true, "dc6f2da536cc9cab148092e09e339a4c337d724a466b04b5328221ea07433945"), looks := true }, kinds := [], alts := [], laidByText := true, laidKinds := [.data, .data, .data, .data, .pinned], laidTests := true, laidLooks := .later }
def NotesItemsUptoCardSaid : Prop := Claim7.holds Tryz.pinned (.plain (OpenSpec.upto notesItemsSpec)) notesItemsUptoCard

/-- THE SECOND FORM's CARD OF 'catscradlelaw07.NotesBack'. -/
def notesBackUptoCard : Claim7 := { stood := { row := notesBackUptoRow, standIns := [], harness := (true, "dc6f2da536cc9cab148092e09e339a4c337d724a466b04b5328221ea07433945"), looks := true }, kinds := [], alts := [], laidByText := true, laidKinds := [.data, .data, .data, .data, .pinned], laidTests := true, laidLooks := .later }
def NotesBackUptoCardSaid : Prop := Claim7.holds Tryz.pinned (.plain (OpenSpec.upto notesBackSpec)) notesBackUptoCard

/-- THE SECOND FORM's CARD OF 'catscradlelaw07.NotesSequences'. -/
def notesSequencesUptoCard : Claim7 := { stood := { row := notesSequencesUptoRow, standIns := [], harness := (true, "dc6f2da536cc9cab148092e09e339a4c337d724a466b04b5328221ea07433945"), looks := true }, kinds := [], alts := [], laidByText := true, laidKinds := [.data, .data, .data, .data, .pinned], laidTests := true, laidLooks := .later }
def NotesSequencesUptoCardSaid : Prop := Claim7.holds Tryz.pinned (.plain (OpenSpec.upto notesSequencesSpec)) notesSequencesUptoCard

/-- THE SECOND FORM's CARD OF 'catscradlelaw07.NotesCodes'. -/
def notesCodesUptoCard : Claim7 := { stood := { row := notesCodesUptoRow, standIns := [], harness := (true, "dc6f2da536cc9cab148092e09e339a4c337d724a466b04b5328221ea07433945"), looks := true }, kinds := [], alts := [], laidByText := true, laidKinds := [.data, .data, .data, .data, .pinned], laidTests := true, laidLooks := .later }
def NotesCodesUptoCardSaid : Prop := Claim7.holds Tryz.pinned (.plain (OpenSpec.upto notesCodesSpec)) notesCodesUptoCard

/-- THE SECOND FORM's CARD OF 'catscradlelaw07.NotesTranslates'. -/
def notesTranslatesUptoCard : Claim7 := { stood := { row := notesTranslatesUptoRow, standIns := [], harness := (true, "dc6f2da536cc9cab148092e09e339a4c337d724a466b04b5328221ea07433945"), looks := true }, kinds := [], alts := [], laidByText := true, laidKinds := [.data, .data, .data, .data, .pinned], laidTests := true, laidLooks := .later }
def NotesTranslatesUptoCardSaid : Prop := Claim7.holds Tryz.pinned (.plain (OpenSpec.upto notesTranslatesSpec)) notesTranslatesUptoCard

/-- THE SECOND FORM's CARD OF 'catscradlelaw07.NotesWords'. -/
def notesWordsUptoCard : Claim7 := { stood := { row := notesWordsUptoRow, standIns := [], harness := (true, "dc6f2da536cc9cab148092e09e339a4c337d724a466b04b5328221ea07433945"), looks := true }, kinds := [], alts := [], laidByText := true, laidKinds := [.data, .data, .data, .data, .pinned], laidTests := true, laidLooks := .later }
def NotesWordsUptoCardSaid : Prop := Claim7.holds Tryz.pinned (.plain (OpenSpec.upto notesWordsSpec)) notesWordsUptoCard

/-- THE SECOND FORM's CARD OF 'catscradlelaw07.NotesOpen'. -/
def notesOpenUptoCard : Claim7 := { stood := { row := notesOpenUptoRow, standIns := [], harness := (true, "dc6f2da536cc9cab148092e09e339a4c337d724a466b04b5328221ea07433945"), looks := true }, kinds := [], alts := [], laidByText := true, laidKinds := [.data, .data, .data, .data, .pinned], laidTests := true, laidLooks := .later }
def NotesOpenUptoCardSaid : Prop := Claim7.holds Tryz.pinned (.plain (OpenSpec.upto notesOpenSpec)) notesOpenUptoCard

/-- THE SECOND FORM's CARD OF 'catscradlelaw07.NotesLong'. -/
def notesLongUptoCard : Claim7 := { stood := { row := notesLongUptoRow, standIns := [], harness := (true, "dc6f2da536cc9cab148092e09e339a4c337d724a466b04b5328221ea07433945"), looks := true }, kinds := [], alts := [], laidByText := true, laidKinds := [.data, .data, .data, .data, .pinned], laidTests := true, laidLooks := .later }
def NotesLongUptoCardSaid : Prop := Claim7.holds Tryz.pinned (.plain (OpenSpec.upto notesLongSpec)) notesLongUptoCard

/-- THE SECOND FORM's CARD OF 'catscradlelaw07.NotesWritten'. -/
def notesWrittenUptoCard : Claim7 := { stood := { row := notesWrittenUptoRow, standIns := [], harness := (true, "dc6f2da536cc9cab148092e09e339a4c337d724a466b04b5328221ea07433945"), looks := true }, kinds := [], alts := [], laidByText := true, laidKinds := [.data, .data, .data, .data, .pinned], laidTests := true, laidLooks := .later }
def NotesWrittenUptoCardSaid : Prop := Claim7.holds Tryz.pinned (.plain (OpenSpec.upto notesWrittenSpec)) notesWrittenUptoCard
end Rows
end Go.Proofs.YtlmdfmnbcndhoaaGreatDoor
