/- 1 texts of the program logic over abstract values, joined: each is proved without any condition beyond its own words. -/
import Derived.Test.YtpcnacknlgmmlaaAvT3
set_option linter.unusedVariables false
set_option linter.unusedSimpArgs false
namespace Go.Av
open Go Go.Proofs Go.Proofs.Ytpcnacknlgmmlaa
def foldTo (v : List (List Int)) (o : List Int) : Nat → Int
  | 0 => -1
  | m + 1 => if m = 0 ∨ beats v ((o[m]?).getD 0) (foldTo v o m) = true then (o[m]?).getD 0 else foldTo v o m
def great (v : List (List Int)) : Bool := ((v.take 30).any fun r => decide (30 < r.length)) || decide (20 < v.length)
end Go.Av
