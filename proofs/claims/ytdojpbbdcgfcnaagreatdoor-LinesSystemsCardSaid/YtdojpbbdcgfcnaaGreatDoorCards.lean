/-
  DERIVED. GIVEN WITH THE SEED: THE CARDS: each row of YtdojpbbdcgfcnaaGreatDoorRows.lean that lists a variable, with what it lists TIED to the program's text (the seventh form; the later family's looks); each row that meets fmt, with fmt's text TOLD by the authors' own Lean function (tested against real Go, not proved from fmt's source: count such statements apart). THE CARD IS WHAT COUNTS. Prove the row's statement (the work); the ties are given (YtdojpbbdcgfcnaaGreatDoorTie.lean); close each card by the builder's one call (the guide's Derived/Test/ToyasCard.lean, 'card_holds'). Laid BY PROGRAM, IN A SANDBOX (cutbox-door.mjs). By AI agents, Wed Nov 11 2026. No macro, syntax, notation, axiom, sorry.
-/
import Derived.Test.YtdojpbbdcgfcnaaGreatDoorRows
import GoSem.ClaimSeven
namespace Go.Proofs.YtdojpbbdcgfcnaaGreatDoor
namespace Rows

/-- THE TIED CARD OF 'talismanlaw02.LinesChecks'. -/
def linesChecksCard : Claim7 := { stood := { row := linesChecksRow, standIns := [], harness := (true, "a7580111780c6e854e6bee10a52b74153d4d5916351b6f67e3c9b68731351a51"), looks := false }, kinds := [], alts := [], laidByText := true, laidKinds := [.data, .data, .data], laidTests := true, laidLooks := .later }
def LinesChecksCardSaid : Prop := Claim7.holds Tryz.pinned (.plain (OpenSpec.ofChange linesChecksSpec)) linesChecksCard

/-- THE TIED CARD OF 'talismanlaw02.LinesBasis'. -/
def linesBasisCard : Claim7 := { stood := { row := linesBasisRow, standIns := [], harness := (true, "a7580111780c6e854e6bee10a52b74153d4d5916351b6f67e3c9b68731351a51"), looks := false }, kinds := [], alts := [], laidByText := true, laidKinds := [.data, .data, .data], laidTests := true, laidLooks := .later }
def LinesBasisCardSaid : Prop := Claim7.holds Tryz.pinned (.plain (OpenSpec.ofChange linesBasisSpec)) linesBasisCard

/-- THE TIED CARD OF 'talismanlaw02.LinesDependent'. -/
def linesDependentCard : Claim7 := { stood := { row := linesDependentRow, standIns := [], harness := (true, "a7580111780c6e854e6bee10a52b74153d4d5916351b6f67e3c9b68731351a51"), looks := false }, kinds := [], alts := [], laidByText := true, laidKinds := [.data, .data, .data], laidTests := true, laidLooks := .later }
def LinesDependentCardSaid : Prop := Claim7.holds Tryz.pinned (.plain (OpenSpec.ofChange linesDependentSpec)) linesDependentCard

/-- THE TIED CARD OF 'talismanlaw02.LinesConstant'. -/
def linesConstantCard : Claim7 := { stood := { row := linesConstantRow, standIns := [], harness := (true, "a7580111780c6e854e6bee10a52b74153d4d5916351b6f67e3c9b68731351a51"), looks := false }, kinds := [], alts := [], laidByText := true, laidKinds := [.data, .data, .data], laidTests := true, laidLooks := .later }
def LinesConstantCardSaid : Prop := Claim7.holds Tryz.pinned (.plain (OpenSpec.ofChange linesConstantSpec)) linesConstantCard

/-- THE TIED CARD OF 'talismanlaw02.LinesSpan'. -/
def linesSpanCard : Claim7 := { stood := { row := linesSpanRow, standIns := [], harness := (true, "a7580111780c6e854e6bee10a52b74153d4d5916351b6f67e3c9b68731351a51"), looks := false }, kinds := [], alts := [], laidByText := true, laidKinds := [.data, .data, .data], laidTests := true, laidLooks := .later }
def LinesSpanCardSaid : Prop := Claim7.holds Tryz.pinned (.plain (OpenSpec.ofChange linesSpanSpec)) linesSpanCard

/-- THE TIED CARD OF 'talismanlaw02.LinesDimension'. -/
def linesDimensionCard : Claim7 := { stood := { row := linesDimensionRow, standIns := [], harness := (true, "a7580111780c6e854e6bee10a52b74153d4d5916351b6f67e3c9b68731351a51"), looks := false }, kinds := [], alts := [], laidByText := true, laidKinds := [.data, .data, .data], laidTests := true, laidLooks := .later }
def LinesDimensionCardSaid : Prop := Claim7.holds Tryz.pinned (.plain (OpenSpec.ofChange linesDimensionSpec)) linesDimensionCard

/-- THE TIED CARD OF 'talismanlaw02.LinesComplements'. -/
def linesComplementsCard : Claim7 := { stood := { row := linesComplementsRow, standIns := [], harness := (true, "a7580111780c6e854e6bee10a52b74153d4d5916351b6f67e3c9b68731351a51"), looks := false }, kinds := [], alts := [], laidByText := true, laidKinds := [.data, .data, .data], laidTests := true, laidLooks := .later }
def LinesComplementsCardSaid : Prop := Claim7.holds Tryz.pinned (.plain (OpenSpec.ofChange linesComplementsSpec)) linesComplementsCard

/-- THE TIED CARD OF 'talismantop.TopShifted'. -/
def topShiftedCard : Claim7 := { stood := { row := topShiftedRow, standIns := [], harness := (true, "a7580111780c6e854e6bee10a52b74153d4d5916351b6f67e3c9b68731351a51"), looks := false }, kinds := [], alts := [], laidByText := true, laidKinds := [.data, .data, .data], laidTests := true, laidLooks := .later }
def TopShiftedCardSaid : Prop := Claim7.holds Tryz.pinned (.plain (OpenSpec.ofChange topShiftedSpec)) topShiftedCard

/-- THE TIED CARD OF 'talismanlaw02.LinesTurned'. -/
def linesTurnedCard : Claim7 := { stood := { row := linesTurnedRow, standIns := [], harness := (true, "a7580111780c6e854e6bee10a52b74153d4d5916351b6f67e3c9b68731351a51"), looks := false }, kinds := [], alts := [], laidByText := true, laidKinds := [.data, .data, .data], laidTests := true, laidLooks := .later }
def LinesTurnedCardSaid : Prop := Claim7.holds Tryz.pinned (.plain (OpenSpec.ofChange linesTurnedSpec)) linesTurnedCard

/-- THE TIED CARD OF 'talismanlaw02.LinesNormal'. -/
def linesNormalCard : Claim7 := { stood := { row := linesNormalRow, standIns := [], harness := (true, "a7580111780c6e854e6bee10a52b74153d4d5916351b6f67e3c9b68731351a51"), looks := false }, kinds := [], alts := [], laidByText := true, laidKinds := [.data, .data, .data], laidTests := true, laidLooks := .later }
def LinesNormalCardSaid : Prop := Claim7.holds Tryz.pinned (.plain (OpenSpec.ofChange linesNormalSpec)) linesNormalCard

/-- THE TIED CARD OF 'talismantop.TopSpanKept'. -/
def topSpanKeptCard : Claim7 := { stood := { row := topSpanKeptRow, standIns := [], harness := (true, "a7580111780c6e854e6bee10a52b74153d4d5916351b6f67e3c9b68731351a51"), looks := false }, kinds := [], alts := [], laidByText := true, laidKinds := [.data, .data, .data], laidTests := true, laidLooks := .later }
def TopSpanKeptCardSaid : Prop := Claim7.holds Tryz.pinned (.plain (OpenSpec.ofChange topSpanKeptSpec)) topSpanKeptCard

/-- THE TIED CARD OF 'talismanlaw02.LinesSums'. -/
def linesSumsCard : Claim7 := { stood := { row := linesSumsRow, standIns := [], harness := (true, "a7580111780c6e854e6bee10a52b74153d4d5916351b6f67e3c9b68731351a51"), looks := false }, kinds := [], alts := [], laidByText := true, laidKinds := [.data, .data, .data], laidTests := true, laidLooks := .later }
def LinesSumsCardSaid : Prop := Claim7.holds Tryz.pinned (.plain (OpenSpec.ofChange linesSumsSpec)) linesSumsCard

/-- THE TIED CARD OF 'talismanlaw02.LinesKinds'. -/
def linesKindsCard : Claim7 := { stood := { row := linesKindsRow, standIns := [], harness := (true, "a7580111780c6e854e6bee10a52b74153d4d5916351b6f67e3c9b68731351a51"), looks := false }, kinds := [], alts := [], laidByText := true, laidKinds := [.data, .data, .data], laidTests := true, laidLooks := .later }
def LinesKindsCardSaid : Prop := Claim7.holds Tryz.pinned (.plain (OpenSpec.ofChange linesKindsSpec)) linesKindsCard

/-- THE TIED CARD OF 'talismanlaw02.LinesSystems'. -/
def linesSystemsCard : Claim7 := { stood := { row := linesSystemsRow, standIns := [], harness := (true, "a7580111780c6e854e6bee10a52b74153d4d5916351b6f67e3c9b68731351a51"), looks := false }, kinds := [], alts := [], laidByText := true, laidKinds := [.data, .data, .data], laidTests := true, laidLooks := .later }
def LinesSystemsCardSaid : Prop := Claim7.holds Tryz.pinned (.plain (OpenSpec.ofChange linesSystemsSpec)) linesSystemsCard

/-- THE SECOND FORM's CARD OF 'talismanlaw02.LinesChecks'. -/
def linesChecksUptoCard : Claim7 := { stood := { row := linesChecksUptoRow, standIns := [], harness := (true, "a7580111780c6e854e6bee10a52b74153d4d5916351b6f67e3c9b68731351a51"), looks := false }, kinds := [], alts := [], laidByText := true, laidKinds := [.data, .data, .data], laidTests := true, laidLooks := .later }
def LinesChecksUptoCardSaid : Prop := Claim7.holds Tryz.pinned (.plain (OpenSpec.upto linesChecksSpec)) linesChecksUptoCard

/-- THE SECOND FORM's CARD OF 'talismanlaw02.LinesBasis'. -/
def linesBasisUptoCard : Claim7 := { stood := { row := linesBasisUptoRow, standIns := [], harness := (true, "a7580111780c6e854e6bee10a52b74153d4d5916351b6f67e3c9b68731351a51"), looks := false }, kinds := [], alts := [], laidByText := true, laidKinds := [.data, .data, .data], laidTests := true, laidLooks := .later }
def LinesBasisUptoCardSaid : Prop := Claim7.holds Tryz.pinned (.plain (OpenSpec.upto linesBasisSpec)) linesBasisUptoCard

/-- THE SECOND FORM's CARD OF 'talismanlaw02.LinesDependent'. -/
def linesDependentUptoCard : Claim7 := { stood := { row := linesDependentUptoRow, standIns := [], harness := (true, "a7580111780c6e854e6bee10a52b74153d4d5916351b6f67e3c9b68731351a51"), looks := false }, kinds := [], alts := [], laidByText := true, laidKinds := [.data, .data, .data], laidTests := true, laidLooks := .later }
def LinesDependentUptoCardSaid : Prop := Claim7.holds Tryz.pinned (.plain (OpenSpec.upto linesDependentSpec)) linesDependentUptoCard

/-- THE SECOND FORM's CARD OF 'talismanlaw02.LinesConstant'. -/
def linesConstantUptoCard : Claim7 := { stood := { row := linesConstantUptoRow, standIns := [], harness := (true, "a7580111780c6e854e6bee10a52b74153d4d5916351b6f67e3c9b68731351a51"), looks := false }, kinds := [], alts := [], laidByText := true, laidKinds := [.data, .data, .data], laidTests := true, laidLooks := .later }
def LinesConstantUptoCardSaid : Prop := Claim7.holds Tryz.pinned (.plain (OpenSpec.upto linesConstantSpec)) linesConstantUptoCard

/-- THE SECOND FORM's CARD OF 'talismanlaw02.LinesSpan'. -/
def linesSpanUptoCard : Claim7 := { stood := { row := linesSpanUptoRow, standIns := [], harness := (true, "a7580111780c6e854e6bee10a52b74153d4d5916351b6f67e3c9b68731351a51"), looks := false }, kinds := [], alts := [], laidByText := true, laidKinds := [.data, .data, .data], laidTests := true, laidLooks := .later }
def LinesSpanUptoCardSaid : Prop := Claim7.holds Tryz.pinned (.plain (OpenSpec.upto linesSpanSpec)) linesSpanUptoCard

/-- THE SECOND FORM's CARD OF 'talismanlaw02.LinesDimension'. -/
def linesDimensionUptoCard : Claim7 := { stood := { row := linesDimensionUptoRow, standIns := [], harness := (true, "a7580111780c6e854e6bee10a52b74153d4d5916351b6f67e3c9b68731351a51"), looks := false }, kinds := [], alts := [], laidByText := true, laidKinds := [.data, .data, .data], laidTests := true, laidLooks := .later }
def LinesDimensionUptoCardSaid : Prop := Claim7.holds Tryz.pinned (.plain (OpenSpec.upto linesDimensionSpec)) linesDimensionUptoCard

/-- THE SECOND FORM's CARD OF 'talismanlaw02.LinesComplements'. -/
def linesComplementsUptoCard : Claim7 := { stood := { row := linesComplementsUptoRow, standIns := [], harness := (true, "a7580111780c6e854e6bee10a52b74153d4d5916351b6f67e3c9b68731351a51"), looks := false }, kinds := [], alts := [], laidByText := true, laidKinds := [.data, .data, .data], laidTests := true, laidLooks := .later }
def LinesComplementsUptoCardSaid : Prop := Claim7.holds Tryz.pinned (.plain (OpenSpec.upto linesComplementsSpec)) linesComplementsUptoCard

/-- THE SECOND FORM's CARD OF 'talismantop.TopShifted'. -/
def topShiftedUptoCard : Claim7 := { stood := { row := topShiftedUptoRow, standIns := [], harness := (true, "a7580111780c6e854e6bee10a52b74153d4d5916351b6f67e3c9b68731351a51"), looks := false }, kinds := [], alts := [], laidByText := true, laidKinds := [.data, .data, .data], laidTests := true, laidLooks := .later }
def TopShiftedUptoCardSaid : Prop := Claim7.holds Tryz.pinned (.plain (OpenSpec.upto topShiftedSpec)) topShiftedUptoCard

/-- THE SECOND FORM's CARD OF 'talismanlaw02.LinesTurned'. -/
def linesTurnedUptoCard : Claim7 := { stood := { row := linesTurnedUptoRow, standIns := [], harness := (true, "a7580111780c6e854e6bee10a52b74153d4d5916351b6f67e3c9b68731351a51"), looks := false }, kinds := [], alts := [], laidByText := true, laidKinds := [.data, .data, .data], laidTests := true, laidLooks := .later }
def LinesTurnedUptoCardSaid : Prop := Claim7.holds Tryz.pinned (.plain (OpenSpec.upto linesTurnedSpec)) linesTurnedUptoCard

/-- THE SECOND FORM's CARD OF 'talismanlaw02.LinesNormal'. -/
def linesNormalUptoCard : Claim7 := { stood := { row := linesNormalUptoRow, standIns := [], harness := (true, "a7580111780c6e854e6bee10a52b74153d4d5916351b6f67e3c9b68731351a51"), looks := false }, kinds := [], alts := [], laidByText := true, laidKinds := [.data, .data, .data], laidTests := true, laidLooks := .later }
def LinesNormalUptoCardSaid : Prop := Claim7.holds Tryz.pinned (.plain (OpenSpec.upto linesNormalSpec)) linesNormalUptoCard

/-- THE SECOND FORM's CARD OF 'talismantop.TopSpanKept'. -/
def topSpanKeptUptoCard : Claim7 := { stood := { row := topSpanKeptUptoRow, standIns := [], harness := (true, "a7580111780c6e854e6bee10a52b74153d4d5916351b6f67e3c9b68731351a51"), looks := false }, kinds := [], alts := [], laidByText := true, laidKinds := [.data, .data, .data], laidTests := true, laidLooks := .later }
def TopSpanKeptUptoCardSaid : Prop := Claim7.holds Tryz.pinned (.plain (OpenSpec.upto topSpanKeptSpec)) topSpanKeptUptoCard

/-- THE SECOND FORM's CARD OF 'talismanlaw02.LinesSums'. -/
def linesSumsUptoCard : Claim7 := { stood := { row := linesSumsUptoRow, standIns := [], harness := (true, "a7580111780c6e854e6bee10a52b74153d4d5916351b6f67e3c9b68731351a51"), looks := false }, kinds := [], alts := [], laidByText := true, laidKinds := [.data, .data, .data], laidTests := true, laidLooks := .later }
def LinesSumsUptoCardSaid : Prop := Claim7.holds Tryz.pinned (.plain (OpenSpec.upto linesSumsSpec)) linesSumsUptoCard

/-- THE SECOND FORM's CARD OF 'talismanlaw02.LinesKinds'. -/
def linesKindsUptoCard : Claim7 := { stood := { row := linesKindsUptoRow, standIns := [], harness := (true, "a7580111780c6e854e6bee10a52b74153d4d5916351b6f67e3c9b68731351a51"), looks := false }, kinds := [], alts := [], laidByText := true, laidKinds := [.data, .data, .data], laidTests := true, laidLooks := .later }
def LinesKindsUptoCardSaid : Prop := Claim7.holds Tryz.pinned (.plain (OpenSpec.upto linesKindsSpec)) linesKindsUptoCard

/-- THE SECOND FORM's CARD OF 'talismanlaw02.LinesSystems'. -/
def linesSystemsUptoCard : Claim7 := { stood := { row := linesSystemsUptoRow, standIns := [], harness := (true, "a7580111780c6e854e6bee10a52b74153d4d5916351b6f67e3c9b68731351a51"), looks := false }, kinds := [], alts := [], laidByText := true, laidKinds := [.data, .data, .data], laidTests := true, laidLooks := .later }
def LinesSystemsUptoCardSaid : Prop := Claim7.holds Tryz.pinned (.plain (OpenSpec.upto linesSystemsSpec)) linesSystemsUptoCard
end Rows
end Go.Proofs.YtdojpbbdcgfcnaaGreatDoor
