/- 1 texts of the program logic over abstract values, joined: each is proved without any condition beyond its own words. -/
import Derived.Test.YtpcnacknlgmmlaaAvT1
set_option linter.unusedVariables false
set_option linter.unusedSimpArgs false
namespace Go.Av
open Go Go.Proofs
def isTop (v : List (List Int)) (i : Nat) : Bool := (List.range v.length).all fun k => decide (k = i) || beats v i k
def topsTo (v : List (List Int)) (m : Nat) : List Int := ((List.range m).filter (isTop v)).map Int.ofNat
def tops (v : List (List Int)) : List Int := topsTo v v.length
end Go.Av
