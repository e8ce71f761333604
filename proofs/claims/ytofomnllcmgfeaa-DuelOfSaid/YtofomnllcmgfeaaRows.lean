/-
  No cell of these rows narrows 'for every input' (looked for: loops, veiled, ifaces, maps, wideKeys, modest, calm, conditions, laid).
  DERIVED. THE GIVEN ROWS OF THIS SEAT. 12 by the template 'for every input the law returns true; each argument reads behind the call as it read before'; 0 by the template 'total and deterministic' (their statements: YtofomnllcmgfeaaTotals.lean).
  GIVEN WITH THE SEED: the statements are not yours to turn. If you find one false, say at which input.
  Laid BY PROGRAM, IN A SANDBOX (cutbox-rows.mjs): the forced cells as the released guide's own fill.sh prints them over the translation 0d8c12522d74505a… (all of the seat's roots in one cut). By AI agents, Wed Nov 11 2026. No macro, syntax, notation, axiom, sorry.
-/
import Derived.Test.YtofomnllcmgfeaaChecked
import GoSem.Claim
import GoSem.ClaimJoined
import GoSem.ClaimMapViews
import Derived.JoinedTies
import Derived.KernelRfl
namespace Go.Proofs.Ytofomnllcmgfeaa
/- THE CELL 'sum', in the pinned program and in every row, IS THE sha256 OF THE DUMP (.gsa) THAT YtofomnllcmgfeaaProg.lean LOADS. Nothing in Lean hashes anything: it is a label: what it is worth is what the hold of that sum in a sandbox is worth. -/
noncomputable def Try.pinned : Pinned := { name := "ytofomnllcmgfeaa", sum := "0d8c12522d74505a3a8e83bc60a1e8098925eaede5c4bf6b91a8d549c0856145", checked := Try.checked }
namespace Rows
def none {H : Type} : Left H := { results := [], args := [] }

/-- 'milepostlaw38.UpPlaces': WHATEVER THE INPUT: true; the input reads as it did. -/
def upPlacesSpec : ChangeSpec := { name := "upPlaces", fn := fun _ => fun
  | [d1, d2] => { results := [.lit (.bool true)], args := [d1, d2] }
  | _ => none }
def upPlacesRow : OpenClaim := { program := "ytofomnllcmgfeaa", sum := "0d8c12522d74505a3a8e83bc60a1e8098925eaede5c4bf6b91a8d549c0856145", func := "milepost/milepostlaw38.UpPlaces", spec := "upPlaces", unfollowed := true, recurses := true, apart := false }
def UpPlacesSaid : Prop := upPlacesRow.holds Try.pinned (OpenSpec.ofChange upPlacesSpec)

/-- ITS FALSE NEIGHBOUR: 'it returns false'. Refute it at one input. -/
def upPlacesWrong : ChangeSpec := { name := "upPlaces", fn := fun _ => fun
  | [d1, d2] => { results := [.lit (.bool false)], args := [d1, d2] }
  | _ => none }
def UpPlacesWrongFalsely : Prop := upPlacesRow.holds Try.pinned (OpenSpec.ofChange upPlacesWrong)

/-- 'milepostlaw38.UpLess': WHATEVER THE INPUT: true; the input reads as it did. -/
def upLessSpec : ChangeSpec := { name := "upLess", fn := fun _ => fun
  | [d1, d2, d3] => { results := [.lit (.bool true)], args := [d1, d2, d3] }
  | _ => none }
def upLessRow : OpenClaim := { program := "ytofomnllcmgfeaa", sum := "0d8c12522d74505a3a8e83bc60a1e8098925eaede5c4bf6b91a8d549c0856145", func := "milepost/milepostlaw38.UpLess", spec := "upLess", unfollowed := true, recurses := true, apart := false }
def UpLessSaid : Prop := upLessRow.holds Try.pinned (OpenSpec.ofChange upLessSpec)

/-- ITS FALSE NEIGHBOUR: 'it returns false'. Refute it at one input. -/
def upLessWrong : ChangeSpec := { name := "upLess", fn := fun _ => fun
  | [d1, d2, d3] => { results := [.lit (.bool false)], args := [d1, d2, d3] }
  | _ => none }
def UpLessWrongFalsely : Prop := upLessRow.holds Try.pinned (OpenSpec.ofChange upLessWrong)

/-- 'milepostlaw46.RingTop': WHATEVER THE INPUT: true; the input reads as it did. -/
def ringTopSpec : ChangeSpec := { name := "ringTop", fn := fun _ => fun
  | [d] => { results := [.lit (.bool true)], args := [d] }
  | _ => none }
def ringTopRow : OpenClaim := { program := "ytofomnllcmgfeaa", sum := "0d8c12522d74505a3a8e83bc60a1e8098925eaede5c4bf6b91a8d549c0856145", func := "milepost/milepostlaw46.RingTop", spec := "ringTop", apart := false }
def RingTopSaid : Prop := ringTopRow.holds Try.pinned (OpenSpec.ofChange ringTopSpec)

/-- ITS FALSE NEIGHBOUR: 'it returns false'. Refute it at one input. -/
def ringTopWrong : ChangeSpec := { name := "ringTop", fn := fun _ => fun
  | [d] => { results := [.lit (.bool false)], args := [d] }
  | _ => none }
def RingTopWrongFalsely : Prop := ringTopRow.holds Try.pinned (OpenSpec.ofChange ringTopWrong)

/-- 'milepostlaw45.CupOrders': WHATEVER THE INPUT: true; the input reads as it did. -/
def cupOrdersSpec : ChangeSpec := { name := "cupOrders", fn := fun _ => fun
  | [d1, d2] => { results := [.lit (.bool true)], args := [d1, d2] }
  | _ => none }
def cupOrdersRow : OpenClaim := { program := "ytofomnllcmgfeaa", sum := "0d8c12522d74505a3a8e83bc60a1e8098925eaede5c4bf6b91a8d549c0856145", func := "milepost/milepostlaw45.CupOrders", spec := "cupOrders", unfollowed := true, recurses := true, apart := false }
def CupOrdersSaid : Prop := cupOrdersRow.holds Try.pinned (OpenSpec.ofChange cupOrdersSpec)

/-- ITS FALSE NEIGHBOUR: 'it returns false'. Refute it at one input. -/
def cupOrdersWrong : ChangeSpec := { name := "cupOrders", fn := fun _ => fun
  | [d1, d2] => { results := [.lit (.bool false)], args := [d1, d2] }
  | _ => none }
def CupOrdersWrongFalsely : Prop := cupOrdersRow.holds Try.pinned (OpenSpec.ofChange cupOrdersWrong)

/-- 'milepostlaw45.CupAny': WHATEVER THE INPUT: true; the input reads as it did. -/
def cupAnySpec : ChangeSpec := { name := "cupAny", fn := fun _ => fun
  | [d1, d2, d3] => { results := [.lit (.bool true)], args := [d1, d2, d3] }
  | _ => none }
def cupAnyRow : OpenClaim := { program := "ytofomnllcmgfeaa", sum := "0d8c12522d74505a3a8e83bc60a1e8098925eaede5c4bf6b91a8d549c0856145", func := "milepost/milepostlaw45.CupAny", spec := "cupAny", unfollowed := true, recurses := true, apart := false }
def CupAnySaid : Prop := cupAnyRow.holds Try.pinned (OpenSpec.ofChange cupAnySpec)

/-- ITS FALSE NEIGHBOUR: 'it returns false'. Refute it at one input. -/
def cupAnyWrong : ChangeSpec := { name := "cupAny", fn := fun _ => fun
  | [d1, d2, d3] => { results := [.lit (.bool false)], args := [d1, d2, d3] }
  | _ => none }
def CupAnyWrongFalsely : Prop := cupAnyRow.holds Try.pinned (OpenSpec.ofChange cupAnyWrong)

/-- 'milepostlaw45.CupBest': WHATEVER THE INPUT: true; the input reads as it did. -/
def cupBestSpec : ChangeSpec := { name := "cupBest", fn := fun _ => fun
  | [d1, d2] => { results := [.lit (.bool true)], args := [d1, d2] }
  | _ => none }
def cupBestRow : OpenClaim := { program := "ytofomnllcmgfeaa", sum := "0d8c12522d74505a3a8e83bc60a1e8098925eaede5c4bf6b91a8d549c0856145", func := "milepost/milepostlaw45.CupBest", spec := "cupBest", unfollowed := true, recurses := true, apart := false }
def CupBestSaid : Prop := cupBestRow.holds Try.pinned (OpenSpec.ofChange cupBestSpec)

/-- ITS FALSE NEIGHBOUR: 'it returns false'. Refute it at one input. -/
def cupBestWrong : ChangeSpec := { name := "cupBest", fn := fun _ => fun
  | [d1, d2] => { results := [.lit (.bool false)], args := [d1, d2] }
  | _ => none }
def CupBestWrongFalsely : Prop := cupBestRow.holds Try.pinned (OpenSpec.ofChange cupBestWrong)

/-- 'milepostlaw46.RingCup': WHATEVER THE INPUT: true; the input reads as it did. -/
def ringCupSpec : ChangeSpec := { name := "ringCup", fn := fun _ => fun
  | [d1, d2] => { results := [.lit (.bool true)], args := [d1, d2] }
  | _ => none }
def ringCupRow : OpenClaim := { program := "ytofomnllcmgfeaa", sum := "0d8c12522d74505a3a8e83bc60a1e8098925eaede5c4bf6b91a8d549c0856145", func := "milepost/milepostlaw46.RingCup", spec := "ringCup", unfollowed := true, recurses := true, apart := false }
def RingCupSaid : Prop := ringCupRow.holds Try.pinned (OpenSpec.ofChange ringCupSpec)

/-- ITS FALSE NEIGHBOUR: 'it returns false'. Refute it at one input. -/
def ringCupWrong : ChangeSpec := { name := "ringCup", fn := fun _ => fun
  | [d1, d2] => { results := [.lit (.bool false)], args := [d1, d2] }
  | _ => none }
def RingCupWrongFalsely : Prop := ringCupRow.holds Try.pinned (OpenSpec.ofChange ringCupWrong)

/-- 'milepostlaw42.DuelScores': WHATEVER THE INPUT: true; the input reads as it did. -/
def duelScoresSpec : ChangeSpec := { name := "duelScores", fn := fun _ => fun
  | [d1, d2, d3] => { results := [.lit (.bool true)], args := [d1, d2, d3] }
  | _ => none }
def duelScoresRow : OpenClaim := { program := "ytofomnllcmgfeaa", sum := "0d8c12522d74505a3a8e83bc60a1e8098925eaede5c4bf6b91a8d549c0856145", func := "milepost/milepostlaw42.DuelScores", spec := "duelScores", unfollowed := true, recurses := true, apart := false }
def DuelScoresSaid : Prop := duelScoresRow.holds Try.pinned (OpenSpec.ofChange duelScoresSpec)

/-- ITS FALSE NEIGHBOUR: 'it returns false'. Refute it at one input. -/
def duelScoresWrong : ChangeSpec := { name := "duelScores", fn := fun _ => fun
  | [d1, d2, d3] => { results := [.lit (.bool false)], args := [d1, d2, d3] }
  | _ => none }
def DuelScoresWrongFalsely : Prop := duelScoresRow.holds Try.pinned (OpenSpec.ofChange duelScoresWrong)

/-- 'milepostlaw42.DuelTurns': WHATEVER THE INPUT: true; the input reads as it did. -/
def duelTurnsSpec : ChangeSpec := { name := "duelTurns", fn := fun _ => fun
  | [d1, d2, d3] => { results := [.lit (.bool true)], args := [d1, d2, d3] }
  | _ => none }
def duelTurnsRow : OpenClaim := { program := "ytofomnllcmgfeaa", sum := "0d8c12522d74505a3a8e83bc60a1e8098925eaede5c4bf6b91a8d549c0856145", func := "milepost/milepostlaw42.DuelTurns", spec := "duelTurns", unfollowed := true, recurses := true, apart := false }
def DuelTurnsSaid : Prop := duelTurnsRow.holds Try.pinned (OpenSpec.ofChange duelTurnsSpec)

/-- ITS FALSE NEIGHBOUR: 'it returns false'. Refute it at one input. -/
def duelTurnsWrong : ChangeSpec := { name := "duelTurns", fn := fun _ => fun
  | [d1, d2, d3] => { results := [.lit (.bool false)], args := [d1, d2, d3] }
  | _ => none }
def DuelTurnsWrongFalsely : Prop := duelTurnsRow.holds Try.pinned (OpenSpec.ofChange duelTurnsWrong)

/-- 'milepostlaw42.DuelAll': WHATEVER THE INPUT: true; the input reads as it did. -/
def duelAllSpec : ChangeSpec := { name := "duelAll", fn := fun _ => fun
  | [d1, d2] => { results := [.lit (.bool true)], args := [d1, d2] }
  | _ => none }
def duelAllRow : OpenClaim := { program := "ytofomnllcmgfeaa", sum := "0d8c12522d74505a3a8e83bc60a1e8098925eaede5c4bf6b91a8d549c0856145", func := "milepost/milepostlaw42.DuelAll", spec := "duelAll", unfollowed := true, recurses := true, apart := false }
def DuelAllSaid : Prop := duelAllRow.holds Try.pinned (OpenSpec.ofChange duelAllSpec)

/-- ITS FALSE NEIGHBOUR: 'it returns false'. Refute it at one input. -/
def duelAllWrong : ChangeSpec := { name := "duelAll", fn := fun _ => fun
  | [d1, d2] => { results := [.lit (.bool false)], args := [d1, d2] }
  | _ => none }
def DuelAllWrongFalsely : Prop := duelAllRow.holds Try.pinned (OpenSpec.ofChange duelAllWrong)

/-- 'milepostlaw38.UpLevels': WHATEVER THE INPUT: true; the input reads as it did. -/
def upLevelsSpec : ChangeSpec := { name := "upLevels", fn := fun _ => fun
  | [d1, d2] => { results := [.lit (.bool true)], args := [d1, d2] }
  | _ => none }
def upLevelsRow : OpenClaim := { program := "ytofomnllcmgfeaa", sum := "0d8c12522d74505a3a8e83bc60a1e8098925eaede5c4bf6b91a8d549c0856145", func := "milepost/milepostlaw38.UpLevels", spec := "upLevels", inPlace := ["internal/abi.NoEscape", "internal/bytealg.MakeNoZero"], unfollowed := true, recurses := true, apart := false }
def UpLevelsSaid : Prop := upLevelsRow.holds Try.pinned (OpenSpec.ofChange upLevelsSpec)

/-- ITS FALSE NEIGHBOUR: 'it returns false'. Refute it at one input. -/
def upLevelsWrong : ChangeSpec := { name := "upLevels", fn := fun _ => fun
  | [d1, d2] => { results := [.lit (.bool false)], args := [d1, d2] }
  | _ => none }
def UpLevelsWrongFalsely : Prop := upLevelsRow.holds Try.pinned (OpenSpec.ofChange upLevelsWrong)

/-- 'milepostlaw42.DuelOf': WHATEVER THE INPUT: true; the input reads as it did. -/
def duelOfSpec : ChangeSpec := { name := "duelOf", fn := fun _ => fun
  | [d1, d2] => { results := [.lit (.bool true)], args := [d1, d2] }
  | _ => none }
def duelOfRow : OpenClaim := { program := "ytofomnllcmgfeaa", sum := "0d8c12522d74505a3a8e83bc60a1e8098925eaede5c4bf6b91a8d549c0856145", func := "milepost/milepostlaw42.DuelOf", spec := "duelOf", inPlace := ["internal/abi.NoEscape", "internal/bytealg.MakeNoZero"], unfollowed := true, recurses := true, apart := false }
def DuelOfSaid : Prop := duelOfRow.holds Try.pinned (OpenSpec.ofChange duelOfSpec)

/-- ITS FALSE NEIGHBOUR: 'it returns false'. Refute it at one input. -/
def duelOfWrong : ChangeSpec := { name := "duelOf", fn := fun _ => fun
  | [d1, d2] => { results := [.lit (.bool false)], args := [d1, d2] }
  | _ => none }
def DuelOfWrongFalsely : Prop := duelOfRow.holds Try.pinned (OpenSpec.ofChange duelOfWrong)

/- THE SECOND FORM. 'bulk': how many values and letters a reading holds, each counted each time it is reached (what is shared counts as often as it is met; a slice's spare places count too). A statement '..UptoSaid' is the law's where the arguments, and the package variables that the reading takes, are together of bulk at most 1048576: NARROWER than '..Said'. Prove '..Said' where nothing that the law and all that it calls make is longer than what came in: it says more and counts as full. Else prove '..UptoSaid'. A law counts once. -/
mutual
def uptoBulk {H : Type} : DataW H → Nat
  | .lit (.string bytes) => bytes.length + 1
  | .lit _ => 1
  | .nil => 1
  | .ptr d => uptoBulk d + 1
  | .slice elems spare => uptoBulkAll elems + uptoBulkAll spare + 1
  | .agg parts => uptoBulkAll parts + 1
  | .iface _ d => uptoBulk d + 1
  | .map entries => uptoBulkEntries entries + 1
  | .held _ => 1
def uptoBulkAll {H : Type} : List (DataW H) → Nat
  | [] => 0
  | d :: r => uptoBulk d + uptoBulkAll r
def uptoBulkEntries {H : Type} : List (Lit × DataW H) → Nat
  | [] => 0
  | x :: r => uptoBulkEntry x + uptoBulkEntries r
def uptoBulkEntry {H : Type} : Lit × DataW H → Nat
  | (.string bytes, d) => bytes.length + uptoBulk d + 1
  | (_, d) => uptoBulk d + 1
 end
def uptoSmall : (H : Type) → List (DataW H) → Bool := fun _ ds => decide (uptoBulkAll ds ≤ 1048576)
def OpenSpec.upto (s : _root_.Go.ChangeSpec) : _root_.Go.OpenSpec := { _root_.Go.OpenSpec.ofChange s with cond := some uptoSmall }

/-- 'milepostlaw38.UpPlaces', WHERE WHAT IT READS IS OF BULK AT MOST 1048576: true; the input reads as it did. -/
def upPlacesUptoRow : OpenClaim := { program := "ytofomnllcmgfeaa", sum := "0d8c12522d74505a3a8e83bc60a1e8098925eaede5c4bf6b91a8d549c0856145", func := "milepost/milepostlaw38.UpPlaces", spec := "upPlaces", unfollowed := true, recurses := true, apart := false, narrowed := true }
def UpPlacesUptoSaid : Prop := upPlacesUptoRow.holds Try.pinned (OpenSpec.upto upPlacesSpec)

/-- 'milepostlaw38.UpLess', WHERE WHAT IT READS IS OF BULK AT MOST 1048576: true; the input reads as it did. -/
def upLessUptoRow : OpenClaim := { program := "ytofomnllcmgfeaa", sum := "0d8c12522d74505a3a8e83bc60a1e8098925eaede5c4bf6b91a8d549c0856145", func := "milepost/milepostlaw38.UpLess", spec := "upLess", unfollowed := true, recurses := true, apart := false, narrowed := true }
def UpLessUptoSaid : Prop := upLessUptoRow.holds Try.pinned (OpenSpec.upto upLessSpec)

/-- 'milepostlaw46.RingTop', WHERE WHAT IT READS IS OF BULK AT MOST 1048576: true; the input reads as it did. -/
def ringTopUptoRow : OpenClaim := { program := "ytofomnllcmgfeaa", sum := "0d8c12522d74505a3a8e83bc60a1e8098925eaede5c4bf6b91a8d549c0856145", func := "milepost/milepostlaw46.RingTop", spec := "ringTop", apart := false, narrowed := true }
def RingTopUptoSaid : Prop := ringTopUptoRow.holds Try.pinned (OpenSpec.upto ringTopSpec)

/-- 'milepostlaw45.CupOrders', WHERE WHAT IT READS IS OF BULK AT MOST 1048576: true; the input reads as it did. -/
def cupOrdersUptoRow : OpenClaim := { program := "ytofomnllcmgfeaa", sum := "0d8c12522d74505a3a8e83bc60a1e8098925eaede5c4bf6b91a8d549c0856145", func := "milepost/milepostlaw45.CupOrders", spec := "cupOrders", unfollowed := true, recurses := true, apart := false, narrowed := true }
def CupOrdersUptoSaid : Prop := cupOrdersUptoRow.holds Try.pinned (OpenSpec.upto cupOrdersSpec)

/-- 'milepostlaw45.CupAny', WHERE WHAT IT READS IS OF BULK AT MOST 1048576: true; the input reads as it did. -/
def cupAnyUptoRow : OpenClaim := { program := "ytofomnllcmgfeaa", sum := "0d8c12522d74505a3a8e83bc60a1e8098925eaede5c4bf6b91a8d549c0856145", func := "milepost/milepostlaw45.CupAny", spec := "cupAny", unfollowed := true, recurses := true, apart := false, narrowed := true }
def CupAnyUptoSaid : Prop := cupAnyUptoRow.holds Try.pinned (OpenSpec.upto cupAnySpec)

/-- 'milepostlaw45.CupBest', WHERE WHAT IT READS IS OF BULK AT MOST 1048576: true; the input reads as it did. -/
def cupBestUptoRow : OpenClaim := { program := "ytofomnllcmgfeaa", sum := "0d8c12522d74505a3a8e83bc60a1e8098925eaede5c4bf6b91a8d549c0856145", func := "milepost/milepostlaw45.CupBest", spec := "cupBest", unfollowed := true, recurses := true, apart := false, narrowed := true }
def CupBestUptoSaid : Prop := cupBestUptoRow.holds Try.pinned (OpenSpec.upto cupBestSpec)

/-- 'milepostlaw46.RingCup', WHERE WHAT IT READS IS OF BULK AT MOST 1048576: true; the input reads as it did. -/
def ringCupUptoRow : OpenClaim := { program := "ytofomnllcmgfeaa", sum := "0d8c12522d74505a3a8e83bc60a1e8098925eaede5c4bf6b91a8d549c0856145", func := "milepost/milepostlaw46.RingCup", spec := "ringCup", unfollowed := true, recurses := true, apart := false, narrowed := true }
def RingCupUptoSaid : Prop := ringCupUptoRow.holds Try.pinned (OpenSpec.upto ringCupSpec)

/-- 'milepostlaw42.DuelScores', WHERE WHAT IT READS IS OF BULK AT MOST 1048576: true; the input reads as it did. -/
def duelScoresUptoRow : OpenClaim := { program := "ytofomnllcmgfeaa", sum := "0d8c12522d74505a3a8e83bc60a1e8098925eaede5c4bf6b91a8d549c0856145", func := "milepost/milepostlaw42.DuelScores", spec := "duelScores", unfollowed := true, recurses := true, apart := false, narrowed := true }
def DuelScoresUptoSaid : Prop := duelScoresUptoRow.holds Try.pinned (OpenSpec.upto duelScoresSpec)

/-- 'milepostlaw42.DuelTurns', WHERE WHAT IT READS IS OF BULK AT MOST 1048576: true; the input reads as it did. -/
def duelTurnsUptoRow : OpenClaim := { program := "ytofomnllcmgfeaa", sum := "0d8c12522d74505a3a8e83bc60a1e8098925eaede5c4bf6b91a8d549c0856145", func := "milepost/milepostlaw42.DuelTurns", spec := "duelTurns", unfollowed := true, recurses := true, apart := false, narrowed := true }
def DuelTurnsUptoSaid : Prop := duelTurnsUptoRow.holds Try.pinned (OpenSpec.upto duelTurnsSpec)

/-- 'milepostlaw42.DuelAll', WHERE WHAT IT READS IS OF BULK AT MOST 1048576: true; the input reads as it did. -/
def duelAllUptoRow : OpenClaim := { program := "ytofomnllcmgfeaa", sum := "0d8c12522d74505a3a8e83bc60a1e8098925eaede5c4bf6b91a8d549c0856145", func := "milepost/milepostlaw42.DuelAll", spec := "duelAll", unfollowed := true, recurses := true, apart := false, narrowed := true }
def DuelAllUptoSaid : Prop := duelAllUptoRow.holds Try.pinned (OpenSpec.upto duelAllSpec)

/-- 'milepostlaw38.UpLevels', WHERE WHAT IT READS IS OF BULK AT MOST 1048576: true; the input reads as it did. -/
def upLevelsUptoRow : OpenClaim := { program := "ytofomnllcmgfeaa", sum := "0d8c12522d74505a3a8e83bc60a1e8098925eaede5c4bf6b91a8d549c0856145", func := "milepost/milepostlaw38.UpLevels", spec := "upLevels", inPlace := ["internal/abi.NoEscape", "internal/bytealg.MakeNoZero"], unfollowed := true, recurses := true, apart := false, narrowed := true }
def UpLevelsUptoSaid : Prop := upLevelsUptoRow.holds Try.pinned (OpenSpec.upto upLevelsSpec)

/-- 'milepostlaw42.DuelOf', WHERE WHAT IT READS IS OF BULK AT MOST 1048576: true; the input reads as it did. -/
def duelOfUptoRow : OpenClaim := { program := "ytofomnllcmgfeaa", sum := "0d8c12522d74505a3a8e83bc60a1e8098925eaede5c4bf6b91a8d549c0856145", func := "milepost/milepostlaw42.DuelOf", spec := "duelOf", inPlace := ["internal/abi.NoEscape", "internal/bytealg.MakeNoZero"], unfollowed := true, recurses := true, apart := false, narrowed := true }
def DuelOfUptoSaid : Prop := duelOfUptoRow.holds Try.pinned (OpenSpec.upto duelOfSpec)

end Rows
end Go.Proofs.Ytofomnllcmgfeaa
