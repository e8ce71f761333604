import Derived.Test.YtfdbbkhglohkaaaAvTW
import Derived.Test.YtfdbbkhglohkaaaAv20
set_option linter.unusedVariables false
set_option linter.unusedSimpArgs false
set_option maxRecDepth 100000
set_option maxHeartbeats 4000000
namespace Go.Av
open Go Go.Proofs Go.Proofs.Ytfdbbkhglohkaaa Go.RowKit
/-! ### arguments of the laws -/
def strC (l : List ByteArray) : C := .sl (l.map fun s => .v (.string s)) l.length false
theorem opens_strC {P : Program} {t e : TypeId} (ht : P.underlying t = some (.slice e)) (he : P.underlying e = some .string) (hc : P.cellsOf e = 1) :
    Opens P t (fun l => [strC l]) (fun l => l.length ≤ maxLen ∧ ∀ s ∈ l, s.size ≤ maxLen) :=
  (opens_slice ht (by simp [hc]) (opens_string he)).conv fun l hl => ⟨l, hl, by rw [flat_one]; rfl⟩
theorem opens_u64 {P : Program} {t : TypeId} (ht : P.underlying t = some (.int .u64)) : Opens P t (fun n : Nat => [u64C n]) (fun n => n < 18446744073709551616) :=
  (opens_int ht).conv fun n hn => by
    have h : 0 ≤ n ∧ n ≤ 18446744073709551615 := by simpa [Lit.wf, IntKind.min, IntKind.max, IntKind.signed, IntKind.bits] using hn
    exact ⟨n.toNat, by omega, by simp only [u64C]; rw [show ((n.toNat : Nat) : Int) = n by omega]⟩
end Go.Av
