/- 1 texts of the program logic over abstract values, joined: each is proved without any condition beyond its own words. -/
import Derived.Test.YtpcnacknlgmmlaaAvT6
set_option linter.unusedVariables false
set_option linter.unusedSimpArgs false
namespace Go.Av
open Go Go.Proofs Go.Proofs.Ytpcnacknlgmmlaa
def rowN (v : List (List Int)) (i : Nat) : List Int := (v[i]?).getD []
def cellN (v : List (List Int)) (i k : Nat) : Int := ((rowN v i)[k]?).getD 0
def duelAt (v : List (List Int)) (i k : Nat) : Bool :=
  decide ((rowN v k).length = v.length) && (decide (cellN v i k = IntKind.i64.wrap (-cellN v k i)) && (decide (-1 ≤ cellN v i k) && decide (cellN v i k ≤ 1)))
def duelTo (v : List (List Int)) (i : Nat) (m : Nat) : Bool := (List.range m).all (duelAt v i)
def duelRow (v : List (List Int)) (i : Nat) : Bool := (decide ((rowN v i).length = v.length) && decide (cellN v i i = 0)) && duelTo v i (rowN v i).length
def duelB (v : List (List Int)) : Bool := (List.range v.length).all (duelRow v)
end Go.Av
