/- 1 texts of the program logic over abstract values, joined: each is proved without any condition beyond its own words. -/
import Derived.Test.YtpcnacknlgmmlaaAvT2
set_option linter.unusedVariables false
set_option linter.unusedSimpArgs false
namespace Go.Av
open Go Go.Proofs Go.Proofs.Ytpcnacknlgmmlaa
def winsTo (v : List (List Int)) (i : Int) (m : Nat) : Nat := ((List.range m).filter fun (k : Nat) => !decide ((k : Int) = i) && beats v i k).length
end Go.Av
