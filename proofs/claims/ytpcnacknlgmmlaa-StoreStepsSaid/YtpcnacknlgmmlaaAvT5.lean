/- 1 texts of the program logic over abstract values, joined: each is proved without any condition beyond its own words. -/
import Derived.Test.YtpcnacknlgmmlaaAvT4
set_option linter.unusedVariables false
set_option linter.unusedSimpArgs false
namespace Go.Av
open Go Go.Proofs Go.Proofs.Ytpcnacknlgmmlaa
def foldTopsWant (v : List (List Int)) (m : Nat) : List Int := ((List.range m).filter fun (i : Nat) => decide ((winsTo v i v.length : Int) = v.length - 1)).map Int.ofNat
end Go.Av
