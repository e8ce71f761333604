import Derived.Test.YtahcfdbjookojaaAvTP
import Derived.Test.YtahcfdbjookojaaAvT35
set_option linter.unusedVariables false
set_option linter.unusedSimpArgs false
set_option maxRecDepth 100000
set_option maxHeartbeats 4000000
namespace Go.Av
open Go Go.Proofs Go.Proofs.Ytahcfdbjookojaa Go.RowKit
theorem opens_hashes {P : Program} {t e b : TypeId} (ht : P.underlying t = some (.slice e)) (he : P.underlying e = some (.array 32 b)) (hb : P.underlying b = some (.int .u8)) (hc : P.cellsOf b = 1) (hce : P.cellsOf e = 32) :
    Opens P t (fun l : List H32 => [.sl (hsC l) l.length false]) (fun l => l.length ≤ maxLen ∧ ∀ a ∈ l, True) :=
  opens_slice ht (fun a => by rw [hce, List.length_map]; exact a.2) (opens_hash he hb hc hce)
end Go.Av
