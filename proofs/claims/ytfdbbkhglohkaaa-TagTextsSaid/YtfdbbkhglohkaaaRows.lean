/-
  No cell of these rows narrows 'for every input' (looked for: loops, veiled, ifaces, maps, wideKeys, modest, calm, conditions, laid).
  DERIVED. THE GIVEN ROWS OF THIS SEAT. 12 by the template 'for every input the law returns true; each argument reads behind the call as it read before'; 0 by the template 'total and deterministic' (their statements: YtfdbbkhglohkaaaTotals.lean).
  GIVEN WITH THE SEED: the statements are not yours to turn. If you find one false, say at which input.
  Laid BY PROGRAM, IN A SANDBOX (cutbox-rows.mjs): the forced cells as the released guide's own fill.sh prints them over the translation 33088ecedd5d3277… (all of the seat's roots in one cut). By AI agents, Wed Nov 11 2026. No macro, syntax, notation, axiom, sorry.
-/
import Derived.Test.YtfdbbkhglohkaaaChecked
import GoSem.Claim
import GoSem.ClaimJoined
import GoSem.ClaimMapViews
import Derived.JoinedTies
import Derived.KernelRfl
namespace Go.Proofs.Ytfdbbkhglohkaaa
/- THE CELL 'sum', in the pinned program and in every row, IS THE sha256 OF THE DUMP (.gsa) THAT YtfdbbkhglohkaaaProg.lean LOADS. Nothing in Lean hashes anything: it is a label: what it is worth is what the hold of that sum in a sandbox is worth. -/
noncomputable def Try.pinned : Pinned := { name := "ytfdbbkhglohkaaa", sum := "33088ecedd5d32771c1803218503be47bc4f8d0f94739979f3104e249ff88b00", checked := Try.checked }
namespace Rows
def none {H : Type} : Left H := { results := [], args := [] }

/-- 'milepostlaw44.FoldFolds': WHATEVER THE INPUT: true; the input reads as it did. -/
def foldFoldsSpec : ChangeSpec := { name := "foldFolds", fn := fun _ => fun
  | [d1, d2, d3] => { results := [.lit (.bool true)], args := [d1, d2, d3] }
  | _ => none }
def foldFoldsRow : OpenClaim := { program := "ytfdbbkhglohkaaa", sum := "33088ecedd5d32771c1803218503be47bc4f8d0f94739979f3104e249ff88b00", func := "milepost/milepostlaw44.FoldFolds", spec := "foldFolds", apart := false }
def FoldFoldsSaid : Prop := foldFoldsRow.holds Try.pinned (OpenSpec.ofChange foldFoldsSpec)

/-- ITS FALSE NEIGHBOUR: 'it returns false'. Refute it at one input. -/
def foldFoldsWrong : ChangeSpec := { name := "foldFolds", fn := fun _ => fun
  | [d1, d2, d3] => { results := [.lit (.bool false)], args := [d1, d2, d3] }
  | _ => none }
def FoldFoldsWrongFalsely : Prop := foldFoldsRow.holds Try.pinned (OpenSpec.ofChange foldFoldsWrong)

/-- 'milepostlaw44.FoldTops': WHATEVER THE INPUT: true; the input reads as it did. -/
def foldTopsSpec : ChangeSpec := { name := "foldTops", fn := fun _ => fun
  | [d] => { results := [.lit (.bool true)], args := [d] }
  | _ => none }
def foldTopsRow : OpenClaim := { program := "ytfdbbkhglohkaaa", sum := "33088ecedd5d32771c1803218503be47bc4f8d0f94739979f3104e249ff88b00", func := "milepost/milepostlaw44.FoldTops", spec := "foldTops", apart := false }
def FoldTopsSaid : Prop := foldTopsRow.holds Try.pinned (OpenSpec.ofChange foldTopsSpec)

/-- ITS FALSE NEIGHBOUR: 'it returns false'. Refute it at one input. -/
def foldTopsWrong : ChangeSpec := { name := "foldTops", fn := fun _ => fun
  | [d] => { results := [.lit (.bool false)], args := [d] }
  | _ => none }
def FoldTopsWrongFalsely : Prop := foldTopsRow.holds Try.pinned (OpenSpec.ofChange foldTopsWrong)

/-- 'milepostlaw44.FoldBest': WHATEVER THE INPUT: true; the input reads as it did. -/
def foldBestSpec : ChangeSpec := { name := "foldBest", fn := fun _ => fun
  | [d1, d2] => { results := [.lit (.bool true)], args := [d1, d2] }
  | _ => none }
def foldBestRow : OpenClaim := { program := "ytfdbbkhglohkaaa", sum := "33088ecedd5d32771c1803218503be47bc4f8d0f94739979f3104e249ff88b00", func := "milepost/milepostlaw44.FoldBest", spec := "foldBest", apart := false }
def FoldBestSaid : Prop := foldBestRow.holds Try.pinned (OpenSpec.ofChange foldBestSpec)

/-- ITS FALSE NEIGHBOUR: 'it returns false'. Refute it at one input. -/
def foldBestWrong : ChangeSpec := { name := "foldBest", fn := fun _ => fun
  | [d1, d2] => { results := [.lit (.bool false)], args := [d1, d2] }
  | _ => none }
def FoldBestWrongFalsely : Prop := foldBestRow.holds Try.pinned (OpenSpec.ofChange foldBestWrong)

/-- 'milepostlaw38.UpPlaces': WHATEVER THE INPUT: true; the input reads as it did. -/
def upPlacesSpec : ChangeSpec := { name := "upPlaces", fn := fun _ => fun
  | [d1, d2] => { results := [.lit (.bool true)], args := [d1, d2] }
  | _ => none }
def upPlacesRow : OpenClaim := { program := "ytfdbbkhglohkaaa", sum := "33088ecedd5d32771c1803218503be47bc4f8d0f94739979f3104e249ff88b00", func := "milepost/milepostlaw38.UpPlaces", spec := "upPlaces", unfollowed := true, recurses := true, apart := false }
def UpPlacesSaid : Prop := upPlacesRow.holds Try.pinned (OpenSpec.ofChange upPlacesSpec)

/-- ITS FALSE NEIGHBOUR: 'it returns false'. Refute it at one input. -/
def upPlacesWrong : ChangeSpec := { name := "upPlaces", fn := fun _ => fun
  | [d1, d2] => { results := [.lit (.bool false)], args := [d1, d2] }
  | _ => none }
def UpPlacesWrongFalsely : Prop := upPlacesRow.holds Try.pinned (OpenSpec.ofChange upPlacesWrong)

/-- 'milepostlaw38.UpLess': WHATEVER THE INPUT: true; the input reads as it did. -/
def upLessSpec : ChangeSpec := { name := "upLess", fn := fun _ => fun
  | [d1, d2, d3] => { results := [.lit (.bool true)], args := [d1, d2, d3] }
  | _ => none }
def upLessRow : OpenClaim := { program := "ytfdbbkhglohkaaa", sum := "33088ecedd5d32771c1803218503be47bc4f8d0f94739979f3104e249ff88b00", func := "milepost/milepostlaw38.UpLess", spec := "upLess", unfollowed := true, recurses := true, apart := false }
def UpLessSaid : Prop := upLessRow.holds Try.pinned (OpenSpec.ofChange upLessSpec)

/-- ITS FALSE NEIGHBOUR: 'it returns false'. Refute it at one input. -/
def upLessWrong : ChangeSpec := { name := "upLess", fn := fun _ => fun
  | [d1, d2, d3] => { results := [.lit (.bool false)], args := [d1, d2, d3] }
  | _ => none }
def UpLessWrongFalsely : Prop := upLessRow.holds Try.pinned (OpenSpec.ofChange upLessWrong)

/-- 'milepostlaw57.AuditDuels': WHATEVER THE INPUT: true; the input reads as it did. -/
def auditDuelsSpec : ChangeSpec := { name := "auditDuels", fn := fun _ => fun
  | [d] => { results := [.lit (.bool true)], args := [d] }
  | _ => none }
def auditDuelsRow : OpenClaim := { program := "ytfdbbkhglohkaaa", sum := "33088ecedd5d32771c1803218503be47bc4f8d0f94739979f3104e249ff88b00", func := "milepost/milepostlaw57.AuditDuels", spec := "auditDuels", apart := false }
def AuditDuelsSaid : Prop := auditDuelsRow.holds Try.pinned (OpenSpec.ofChange auditDuelsSpec)

/-- ITS FALSE NEIGHBOUR: 'it returns false'. Refute it at one input. -/
def auditDuelsWrong : ChangeSpec := { name := "auditDuels", fn := fun _ => fun
  | [d] => { results := [.lit (.bool false)], args := [d] }
  | _ => none }
def AuditDuelsWrongFalsely : Prop := auditDuelsRow.holds Try.pinned (OpenSpec.ofChange auditDuelsWrong)

/-- 'milepostlaw57.AuditWins': WHATEVER THE INPUT: true; the input reads as it did. -/
def auditWinsSpec : ChangeSpec := { name := "auditWins", fn := fun _ => fun
  | [d1, d2, d3] => { results := [.lit (.bool true)], args := [d1, d2, d3] }
  | _ => none }
def auditWinsRow : OpenClaim := { program := "ytfdbbkhglohkaaa", sum := "33088ecedd5d32771c1803218503be47bc4f8d0f94739979f3104e249ff88b00", func := "milepost/milepostlaw57.AuditWins", spec := "auditWins", apart := false }
def AuditWinsSaid : Prop := auditWinsRow.holds Try.pinned (OpenSpec.ofChange auditWinsSpec)

/-- ITS FALSE NEIGHBOUR: 'it returns false'. Refute it at one input. -/
def auditWinsWrong : ChangeSpec := { name := "auditWins", fn := fun _ => fun
  | [d1, d2, d3] => { results := [.lit (.bool false)], args := [d1, d2, d3] }
  | _ => none }
def AuditWinsWrongFalsely : Prop := auditWinsRow.holds Try.pinned (OpenSpec.ofChange auditWinsWrong)

/-- 'milepostlaw10.HexTells': WHATEVER THE INPUT: true; the input reads as it did. -/
def hexTellsSpec : ChangeSpec := { name := "hexTells", fn := fun _ => fun
  | [d] => { results := [.lit (.bool true)], args := [d] }
  | _ => none }
def hexTellsRow : OpenClaim := { program := "ytfdbbkhglohkaaa", sum := "33088ecedd5d32771c1803218503be47bc4f8d0f94739979f3104e249ff88b00", func := "milepost/milepostlaw10.HexTells", spec := "hexTells", inPlace := ["internal/abi.NoEscape"], apart := false }
def HexTellsSaid : Prop := hexTellsRow.holds Try.pinned (OpenSpec.ofChange hexTellsSpec)

/-- ITS FALSE NEIGHBOUR: 'it returns false'. Refute it at one input. -/
def hexTellsWrong : ChangeSpec := { name := "hexTells", fn := fun _ => fun
  | [d] => { results := [.lit (.bool false)], args := [d] }
  | _ => none }
def HexTellsWrongFalsely : Prop := hexTellsRow.holds Try.pinned (OpenSpec.ofChange hexTellsWrong)

/-- 'milepostlaw10.HexBack': WHATEVER THE INPUT: true; the input reads as it did. -/
def hexBackSpec : ChangeSpec := { name := "hexBack", fn := fun _ => fun
  | [d] => { results := [.lit (.bool true)], args := [d] }
  | _ => none }
def hexBackRow : OpenClaim := { program := "ytfdbbkhglohkaaa", sum := "33088ecedd5d32771c1803218503be47bc4f8d0f94739979f3104e249ff88b00", func := "milepost/milepostlaw10.HexBack", spec := "hexBack", inPlace := ["internal/abi.NoEscape"], apart := false }
def HexBackSaid : Prop := hexBackRow.holds Try.pinned (OpenSpec.ofChange hexBackSpec)

/-- ITS FALSE NEIGHBOUR: 'it returns false'. Refute it at one input. -/
def hexBackWrong : ChangeSpec := { name := "hexBack", fn := fun _ => fun
  | [d] => { results := [.lit (.bool false)], args := [d] }
  | _ => none }
def HexBackWrongFalsely : Prop := hexBackRow.holds Try.pinned (OpenSpec.ofChange hexBackWrong)

/-- 'milepostlaw46.RingTop': WHATEVER THE INPUT: true; the input reads as it did. -/
def ringTopSpec : ChangeSpec := { name := "ringTop", fn := fun _ => fun
  | [d] => { results := [.lit (.bool true)], args := [d] }
  | _ => none }
def ringTopRow : OpenClaim := { program := "ytfdbbkhglohkaaa", sum := "33088ecedd5d32771c1803218503be47bc4f8d0f94739979f3104e249ff88b00", func := "milepost/milepostlaw46.RingTop", spec := "ringTop", apart := false }
def RingTopSaid : Prop := ringTopRow.holds Try.pinned (OpenSpec.ofChange ringTopSpec)

/-- ITS FALSE NEIGHBOUR: 'it returns false'. Refute it at one input. -/
def ringTopWrong : ChangeSpec := { name := "ringTop", fn := fun _ => fun
  | [d] => { results := [.lit (.bool false)], args := [d] }
  | _ => none }
def RingTopWrongFalsely : Prop := ringTopRow.holds Try.pinned (OpenSpec.ofChange ringTopWrong)

/-- 'milepostlaw10.HexReads': WHATEVER THE INPUT: true; the input reads as it did. -/
def hexReadsSpec : ChangeSpec := { name := "hexReads", fn := fun _ => fun
  | [d] => { results := [.lit (.bool true)], args := [d] }
  | _ => none }
def hexReadsRow : OpenClaim := { program := "ytfdbbkhglohkaaa", sum := "33088ecedd5d32771c1803218503be47bc4f8d0f94739979f3104e249ff88b00", func := "milepost/milepostlaw10.HexReads", spec := "hexReads", inPlace := ["internal/abi.NoEscape"], apart := false }
def HexReadsSaid : Prop := hexReadsRow.holds Try.pinned (OpenSpec.ofChange hexReadsSpec)

/-- ITS FALSE NEIGHBOUR: 'it returns false'. Refute it at one input. -/
def hexReadsWrong : ChangeSpec := { name := "hexReads", fn := fun _ => fun
  | [d] => { results := [.lit (.bool false)], args := [d] }
  | _ => none }
def HexReadsWrongFalsely : Prop := hexReadsRow.holds Try.pinned (OpenSpec.ofChange hexReadsWrong)

/-- 'milepostlaw03.TagTexts': WHATEVER THE INPUT: true; the input reads as it did. -/
def tagTextsSpec : ChangeSpec := { name := "tagTexts", fn := fun _ => fun
  | [d1, d2, d3] => { results := [.lit (.bool true)], args := [d1, d2, d3] }
  | _ => none }
def tagTextsRow : OpenClaim := { program := "ytfdbbkhglohkaaa", sum := "33088ecedd5d32771c1803218503be47bc4f8d0f94739979f3104e249ff88b00", func := "milepost/milepostlaw03.TagTexts", spec := "tagTexts", inPlace := ["internal/abi.NoEscape", "internal/bytealg.MakeNoZero"], apart := false }
def TagTextsSaid : Prop := tagTextsRow.holds Try.pinned (OpenSpec.ofChange tagTextsSpec)

/-- ITS FALSE NEIGHBOUR: 'it returns false'. Refute it at one input. -/
def tagTextsWrong : ChangeSpec := { name := "tagTexts", fn := fun _ => fun
  | [d1, d2, d3] => { results := [.lit (.bool false)], args := [d1, d2, d3] }
  | _ => none }
def TagTextsWrongFalsely : Prop := tagTextsRow.holds Try.pinned (OpenSpec.ofChange tagTextsWrong)

/- THE SECOND FORM. 'bulk': how many values and letters a reading holds, each counted each time it is reached (what is shared counts as often as it is met; a slice's spare places count too). A statement '..UptoSaid' is the law's where the arguments, and the package variables that the reading takes, are together of bulk at most 1048576: NARROWER than '..Said'. Prove '..Said' where nothing that the law and all that it calls make is longer than what came in: it says more and counts as full. Else prove '..UptoSaid'. A law counts once. -/
mutual
def uptoBulk {H : Type} : DataW H → Nat
  | .lit (.string bytes) => bytes.length + 1
  | .lit _ => 1
  | .nil => 1
  | .ptr d => uptoBulk d + 1
  | .slice elems spare => uptoBulkAll elems + uptoBulkAll spare + 1
  | .agg parts => uptoBulkAll parts + 1
  | .iface _ d => uptoBulk d + 1
  | .map entries => uptoBulkEntries entries + 1
  | .held _ => 1
def uptoBulkAll {H : Type} : List (DataW H) → Nat
  | [] => 0
  | d :: r => uptoBulk d + uptoBulkAll r
def uptoBulkEntries {H : Type} : List (Lit × DataW H) → Nat
  | [] => 0
  | x :: r => uptoBulkEntry x + uptoBulkEntries r
def uptoBulkEntry {H : Type} : Lit × DataW H → Nat
  | (.string bytes, d) => bytes.length + uptoBulk d + 1
  | (_, d) => uptoBulk d + 1
 end
def uptoSmall : (H : Type) → List (DataW H) → Bool := fun _ ds => decide (uptoBulkAll ds ≤ 1048576)
def OpenSpec.upto (s : _root_.Go.ChangeSpec) : _root_.Go.OpenSpec := { _root_.Go.OpenSpec.ofChange s with cond := some uptoSmall }

/-- 'milepostlaw44.FoldFolds', WHERE WHAT IT READS IS OF BULK AT MOST 1048576: true; the input reads as it did. -/
def foldFoldsUptoRow : OpenClaim := { program := "ytfdbbkhglohkaaa", sum := "33088ecedd5d32771c1803218503be47bc4f8d0f94739979f3104e249ff88b00", func := "milepost/milepostlaw44.FoldFolds", spec := "foldFolds", apart := false, narrowed := true }
def FoldFoldsUptoSaid : Prop := foldFoldsUptoRow.holds Try.pinned (OpenSpec.upto foldFoldsSpec)

/-- 'milepostlaw44.FoldTops', WHERE WHAT IT READS IS OF BULK AT MOST 1048576: true; the input reads as it did. -/
def foldTopsUptoRow : OpenClaim := { program := "ytfdbbkhglohkaaa", sum := "33088ecedd5d32771c1803218503be47bc4f8d0f94739979f3104e249ff88b00", func := "milepost/milepostlaw44.FoldTops", spec := "foldTops", apart := false, narrowed := true }
def FoldTopsUptoSaid : Prop := foldTopsUptoRow.holds Try.pinned (OpenSpec.upto foldTopsSpec)

/-- 'milepostlaw44.FoldBest', WHERE WHAT IT READS IS OF BULK AT MOST 1048576: true; the input reads as it did. -/
def foldBestUptoRow : OpenClaim := { program := "ytfdbbkhglohkaaa", sum := "33088ecedd5d32771c1803218503be47bc4f8d0f94739979f3104e249ff88b00", func := "milepost/milepostlaw44.FoldBest", spec := "foldBest", apart := false, narrowed := true }
def FoldBestUptoSaid : Prop := foldBestUptoRow.holds Try.pinned (OpenSpec.upto foldBestSpec)

/-- 'milepostlaw38.UpPlaces', WHERE WHAT IT READS IS OF BULK AT MOST 1048576: true; the input reads as it did. -/
def upPlacesUptoRow : OpenClaim := { program := "ytfdbbkhglohkaaa", sum := "33088ecedd5d32771c1803218503be47bc4f8d0f94739979f3104e249ff88b00", func := "milepost/milepostlaw38.UpPlaces", spec := "upPlaces", unfollowed := true, recurses := true, apart := false, narrowed := true }
def UpPlacesUptoSaid : Prop := upPlacesUptoRow.holds Try.pinned (OpenSpec.upto upPlacesSpec)

/-- 'milepostlaw38.UpLess', WHERE WHAT IT READS IS OF BULK AT MOST 1048576: true; the input reads as it did. -/
def upLessUptoRow : OpenClaim := { program := "ytfdbbkhglohkaaa", sum := "33088ecedd5d32771c1803218503be47bc4f8d0f94739979f3104e249ff88b00", func := "milepost/milepostlaw38.UpLess", spec := "upLess", unfollowed := true, recurses := true, apart := false, narrowed := true }
def UpLessUptoSaid : Prop := upLessUptoRow.holds Try.pinned (OpenSpec.upto upLessSpec)

/-- 'milepostlaw57.AuditDuels', WHERE WHAT IT READS IS OF BULK AT MOST 1048576: true; the input reads as it did. -/
def auditDuelsUptoRow : OpenClaim := { program := "ytfdbbkhglohkaaa", sum := "33088ecedd5d32771c1803218503be47bc4f8d0f94739979f3104e249ff88b00", func := "milepost/milepostlaw57.AuditDuels", spec := "auditDuels", apart := false, narrowed := true }
def AuditDuelsUptoSaid : Prop := auditDuelsUptoRow.holds Try.pinned (OpenSpec.upto auditDuelsSpec)

/-- 'milepostlaw57.AuditWins', WHERE WHAT IT READS IS OF BULK AT MOST 1048576: true; the input reads as it did. -/
def auditWinsUptoRow : OpenClaim := { program := "ytfdbbkhglohkaaa", sum := "33088ecedd5d32771c1803218503be47bc4f8d0f94739979f3104e249ff88b00", func := "milepost/milepostlaw57.AuditWins", spec := "auditWins", apart := false, narrowed := true }
def AuditWinsUptoSaid : Prop := auditWinsUptoRow.holds Try.pinned (OpenSpec.upto auditWinsSpec)

/-- 'milepostlaw10.HexTells', WHERE WHAT IT READS IS OF BULK AT MOST 1048576: true; the input reads as it did. -/
def hexTellsUptoRow : OpenClaim := { program := "ytfdbbkhglohkaaa", sum := "33088ecedd5d32771c1803218503be47bc4f8d0f94739979f3104e249ff88b00", func := "milepost/milepostlaw10.HexTells", spec := "hexTells", inPlace := ["internal/abi.NoEscape"], apart := false, narrowed := true }
def HexTellsUptoSaid : Prop := hexTellsUptoRow.holds Try.pinned (OpenSpec.upto hexTellsSpec)

/-- 'milepostlaw10.HexBack', WHERE WHAT IT READS IS OF BULK AT MOST 1048576: true; the input reads as it did. -/
def hexBackUptoRow : OpenClaim := { program := "ytfdbbkhglohkaaa", sum := "33088ecedd5d32771c1803218503be47bc4f8d0f94739979f3104e249ff88b00", func := "milepost/milepostlaw10.HexBack", spec := "hexBack", inPlace := ["internal/abi.NoEscape"], apart := false, narrowed := true }
def HexBackUptoSaid : Prop := hexBackUptoRow.holds Try.pinned (OpenSpec.upto hexBackSpec)

/-- 'milepostlaw46.RingTop', WHERE WHAT IT READS IS OF BULK AT MOST 1048576: true; the input reads as it did. -/
def ringTopUptoRow : OpenClaim := { program := "ytfdbbkhglohkaaa", sum := "33088ecedd5d32771c1803218503be47bc4f8d0f94739979f3104e249ff88b00", func := "milepost/milepostlaw46.RingTop", spec := "ringTop", apart := false, narrowed := true }
def RingTopUptoSaid : Prop := ringTopUptoRow.holds Try.pinned (OpenSpec.upto ringTopSpec)

/-- 'milepostlaw10.HexReads', WHERE WHAT IT READS IS OF BULK AT MOST 1048576: true; the input reads as it did. -/
def hexReadsUptoRow : OpenClaim := { program := "ytfdbbkhglohkaaa", sum := "33088ecedd5d32771c1803218503be47bc4f8d0f94739979f3104e249ff88b00", func := "milepost/milepostlaw10.HexReads", spec := "hexReads", inPlace := ["internal/abi.NoEscape"], apart := false, narrowed := true }
def HexReadsUptoSaid : Prop := hexReadsUptoRow.holds Try.pinned (OpenSpec.upto hexReadsSpec)

/-- 'milepostlaw03.TagTexts', WHERE WHAT IT READS IS OF BULK AT MOST 1048576: true; the input reads as it did. -/
def tagTextsUptoRow : OpenClaim := { program := "ytfdbbkhglohkaaa", sum := "33088ecedd5d32771c1803218503be47bc4f8d0f94739979f3104e249ff88b00", func := "milepost/milepostlaw03.TagTexts", spec := "tagTexts", inPlace := ["internal/abi.NoEscape", "internal/bytealg.MakeNoZero"], apart := false, narrowed := true }
def TagTextsUptoSaid : Prop := tagTextsUptoRow.holds Try.pinned (OpenSpec.upto tagTextsSpec)

end Rows
end Go.Proofs.Ytfdbbkhglohkaaa
