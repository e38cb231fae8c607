/-
  DERIVED. GIVEN WITH THE SEED: THE CARDS: each row of YtafigkikblpbnaaGreatDoorRows.lean that lists a variable, with what it lists TIED to the program's text (the seventh form; the later family's looks); each row that meets fmt, with fmt's text TOLD by the authors' own Lean function (tested against real Go, not proved from fmt's source: count such statements apart). THE CARD IS WHAT COUNTS. Prove the row's statement (the work); the ties are given (YtafigkikblpbnaaGreatDoorTie.lean); close each card by the builder's one call (the guide's Derived/Test/ToyasCard.lean, 'card_holds'). Laid BY PROGRAM, IN A SANDBOX (cutbox-door.mjs). By AI agents, Wed Nov 11 2026. No macro, syntax, notation, axiom, sorry.
-/
import Derived.Test.YtafigkikblpbnaaGreatDoorRows
import GoSem.ClaimSeven
namespace Go.Proofs.YtafigkikblpbnaaGreatDoor
namespace Rows

/-- THE TIED CARD OF 'hanaperlaw40.ReportComing'. -/
def reportComingCard : Claim7 := { stood := { row := reportComingRow, standIns := [], harness := (true, "7c92d7e27a73f712d31ce9c731a9c4ad66050b8b385a1bd7b4e2c971b24d84fd"), looks := false }, kinds := [], alts := [], laidByText := true, laidKinds := [.data, .data, .data], laidTests := true, laidLooks := .later }
def ReportComingCardSaid : Prop := Claim7.holds Tryz.pinned (.plain (OpenSpec.ofChange reportComingSpec)) reportComingCard

/-- THE TIED CARD OF 'hanaperlaw40.ReportSums'. -/
def reportSumsCard : Claim7 := { stood := { row := reportSumsRow, standIns := [], harness := (true, "7c92d7e27a73f712d31ce9c731a9c4ad66050b8b385a1bd7b4e2c971b24d84fd"), looks := false }, kinds := [], alts := [], laidByText := true, laidKinds := [.data, .data, .data], laidTests := true, laidLooks := .later }
def ReportSumsCardSaid : Prop := Claim7.holds Tryz.pinned (.plain (OpenSpec.ofChange reportSumsSpec)) reportSumsCard

/-- THE TIED CARD OF 'hanaperlaw40.ReportLines'. -/
def reportLinesCard : Claim7 := { stood := { row := reportLinesRow, standIns := [], harness := (true, "7c92d7e27a73f712d31ce9c731a9c4ad66050b8b385a1bd7b4e2c971b24d84fd"), looks := false }, kinds := [], alts := [], laidByText := true, laidKinds := [.data, .data, .data], laidTests := true, laidLooks := .later }
def ReportLinesCardSaid : Prop := Claim7.holds Tryz.pinned (.plain (OpenSpec.ofChange reportLinesSpec)) reportLinesCard

/-- THE SECOND FORM's CARD OF 'hanaperlaw40.ReportComing'. -/
def reportComingUptoCard : Claim7 := { stood := { row := reportComingUptoRow, standIns := [], harness := (true, "7c92d7e27a73f712d31ce9c731a9c4ad66050b8b385a1bd7b4e2c971b24d84fd"), looks := false }, kinds := [], alts := [], laidByText := true, laidKinds := [.data, .data, .data], laidTests := true, laidLooks := .later }
def ReportComingUptoCardSaid : Prop := Claim7.holds Tryz.pinned (.plain (OpenSpec.upto reportComingSpec)) reportComingUptoCard

/-- THE SECOND FORM's CARD OF 'hanaperlaw40.ReportSums'. -/
def reportSumsUptoCard : Claim7 := { stood := { row := reportSumsUptoRow, standIns := [], harness := (true, "7c92d7e27a73f712d31ce9c731a9c4ad66050b8b385a1bd7b4e2c971b24d84fd"), looks := false }, kinds := [], alts := [], laidByText := true, laidKinds := [.data, .data, .data], laidTests := true, laidLooks := .later }
def ReportSumsUptoCardSaid : Prop := Claim7.holds Tryz.pinned (.plain (OpenSpec.upto reportSumsSpec)) reportSumsUptoCard

/-- THE SECOND FORM's CARD OF 'hanaperlaw40.ReportLines'. -/
def reportLinesUptoCard : Claim7 := { stood := { row := reportLinesUptoRow, standIns := [], harness := (true, "7c92d7e27a73f712d31ce9c731a9c4ad66050b8b385a1bd7b4e2c971b24d84fd"), looks := false }, kinds := [], alts := [], laidByText := true, laidKinds := [.data, .data, .data], laidTests := true, laidLooks := .later }
def ReportLinesUptoCardSaid : Prop := Claim7.holds Tryz.pinned (.plain (OpenSpec.upto reportLinesSpec)) reportLinesUptoCard
end Rows
end Go.Proofs.YtafigkikblpbnaaGreatDoor
