/- 1 texts of the program logic over abstract values, joined: each is proved without any condition beyond its own words. -/
import Derived.Test.YtpcnacknlgmmlaaAvEngine4
import Derived.Test.YtpcnacknlgmmlaaAvTab
set_option linter.unusedVariables false
set_option linter.unusedSimpArgs false
namespace Go.Av
open Go Go.Proofs
def row (v : List (List Int)) (i : Int) : List Int := (v[i.toNat]?).getD []
def beats (v : List (List Int)) (i k : Int) : Bool := decide (0 ≤ i) && decide (i < v.length) && decide (0 ≤ k) && decide (k < (row v i).length) && decide (0 < ((row v i)[k.toNat]?).getD 0)
end Go.Av
