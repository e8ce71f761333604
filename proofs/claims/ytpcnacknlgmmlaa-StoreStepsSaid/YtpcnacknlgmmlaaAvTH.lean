/- 1 texts of the program logic over abstract values, joined: each is proved without any condition beyond its own words. -/
import Derived.Test.YtpcnacknlgmmlaaAvTab
import Derived.Test.YtpcnacknlgmmlaaAvEngine4
set_option exponentiation.threshold 1000
set_option linter.unusedVariables false
set_option linter.unusedSimpArgs false
set_option maxRecDepth 100000
set_option maxHeartbeats 4000000
namespace Go.Av
open Go Go.Proofs Go.Proofs.Ytpcnacknlgmmlaa Go.RowKit
attribute [local simp] List.getElem?_cons_zero List.getElem?_cons_succ
/-! ### hashes -/
def bC8 (b : UInt8) : C := .v (.int .u8 (b.toNat : Int))
def hashM (l : List UInt8) : M := .agg (up (l.map bC8))
end Go.Av
