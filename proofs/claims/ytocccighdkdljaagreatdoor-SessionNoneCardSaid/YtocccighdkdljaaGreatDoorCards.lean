/-
  DERIVED. GIVEN WITH THE SEED: THE CARDS: each row of YtocccighdkdljaaGreatDoorRows.lean that lists a variable, with what it lists TIED to the program's text (the seventh form; the later family's looks); each row that meets fmt, with fmt's text TOLD by the authors' own Lean function (tested against real Go, not proved from fmt's source: count such statements apart). THE CARD IS WHAT COUNTS. Prove the row's statement (the work); the ties are given (YtocccighdkdljaaGreatDoorTie.lean); close each card by the builder's one call (the guide's Derived/Test/ToyasCard.lean, 'card_holds'). Laid BY PROGRAM, IN A SANDBOX (cutbox-door.mjs). By AI agents, Wed Nov 11 2026. No macro, syntax, notation, axiom, sorry.
-/
import Derived.Test.YtocccighdkdljaaGreatDoorRows
import GoSem.ClaimSeven
namespace Go.Proofs.YtocccighdkdljaaGreatDoor
namespace Rows

/-- THE TIED CARD OF 'milepostlaw54.SessionNone'. -/
def sessionNoneCard : Claim7 := { stood := { row := sessionNoneRow, standIns := [], harness := (true, "9c9a573f769abf7199e37a5abc901c3e4c0a78087536b5db5e3917c1cd5709c5"), looks := true }, kinds := [], alts := [], laidByText := true, laidKinds := [.handle], laidTests := true, laidLooks := .later }
def SessionNoneCardSaid : Prop := Claim7.holds Tryz.pinned (.plain (OpenSpec.ofChange sessionNoneSpec)) sessionNoneCard

/-- THE TIED CARD OF 'milepostlaw55.WatchNone'. -/
def watchNoneCard : Claim7 := { stood := { row := watchNoneRow, standIns := [], harness := (true, "9c9a573f769abf7199e37a5abc901c3e4c0a78087536b5db5e3917c1cd5709c5"), looks := true }, kinds := [], alts := [], laidByText := true, laidKinds := [.handle], laidTests := true, laidLooks := .later }
def WatchNoneCardSaid : Prop := Claim7.holds Tryz.pinned (.plain (OpenSpec.ofChange watchNoneSpec)) watchNoneCard

/-- THE TIED CARD OF 'milepostlaw54.SessionSteps'. -/
def sessionStepsCard : Claim7 := { stood := { row := sessionStepsRow, standIns := [], harness := (true, "9c9a573f769abf7199e37a5abc901c3e4c0a78087536b5db5e3917c1cd5709c5"), looks := true }, kinds := [], alts := [], laidByText := true, laidKinds := [.handle], laidTests := true, laidLooks := .later }
def SessionStepsCardSaid : Prop := Claim7.holds Tryz.pinned (.plain (OpenSpec.ofChange sessionStepsSpec)) sessionStepsCard

/-- THE SECOND FORM's CARD OF 'milepostlaw54.SessionNone'. -/
def sessionNoneUptoCard : Claim7 := { stood := { row := sessionNoneUptoRow, standIns := [], harness := (true, "9c9a573f769abf7199e37a5abc901c3e4c0a78087536b5db5e3917c1cd5709c5"), looks := true }, kinds := [], alts := [], laidByText := true, laidKinds := [.handle], laidTests := true, laidLooks := .later }
def SessionNoneUptoCardSaid : Prop := Claim7.holds Tryz.pinned (.plain (OpenSpec.upto sessionNoneSpec)) sessionNoneUptoCard

/-- THE SECOND FORM's CARD OF 'milepostlaw55.WatchNone'. -/
def watchNoneUptoCard : Claim7 := { stood := { row := watchNoneUptoRow, standIns := [], harness := (true, "9c9a573f769abf7199e37a5abc901c3e4c0a78087536b5db5e3917c1cd5709c5"), looks := true }, kinds := [], alts := [], laidByText := true, laidKinds := [.handle], laidTests := true, laidLooks := .later }
def WatchNoneUptoCardSaid : Prop := Claim7.holds Tryz.pinned (.plain (OpenSpec.upto watchNoneSpec)) watchNoneUptoCard

/-- THE SECOND FORM's CARD OF 'milepostlaw54.SessionSteps'. -/
def sessionStepsUptoCard : Claim7 := { stood := { row := sessionStepsUptoRow, standIns := [], harness := (true, "9c9a573f769abf7199e37a5abc901c3e4c0a78087536b5db5e3917c1cd5709c5"), looks := true }, kinds := [], alts := [], laidByText := true, laidKinds := [.handle], laidTests := true, laidLooks := .later }
def SessionStepsUptoCardSaid : Prop := Claim7.holds Tryz.pinned (.plain (OpenSpec.upto sessionStepsSpec)) sessionStepsUptoCard
end Rows
end Go.Proofs.YtocccighdkdljaaGreatDoor
