/- 1 texts of the program logic over abstract values, joined: each is proved without any condition beyond its own words. -/
import Derived.Test.YtpcnacknlgmmlaaAvTab
import Derived.Test.YtpcnacknlgmmlaaAvEngine4
set_option exponentiation.threshold 1000
set_option linter.unusedVariables false
set_option linter.unusedSimpArgs false
set_option maxRecDepth 100000
set_option maxHeartbeats 4000000
namespace Go.Av
open Go Go.Proofs Go.Proofs.Ytpcnacknlgmmlaa Go.RowKit
attribute [local simp] List.getElem?_cons_zero List.getElem?_cons_succ
/-! ### words as bytes -/
def b8 (b : UInt8) : C := .v (.int .u8 (b.toNat : Int))
def bytesC (l : List UInt8) : List C := l.map b8
def bsS (l : List UInt8) : ByteArray := ⟨l.toArray⟩
def u64C (n : Nat) : C := .v (.int .u64 (n : Int))
def putN : Nat → Nat → List UInt8
  | _, 0 => []
  | x, n + 1 => putN (x / 256) n ++ [UInt8.ofNat x]
end Go.Av
