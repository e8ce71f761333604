/- 1 texts of the program logic over abstract values, joined: each is proved without any condition beyond its own words. -/
import Derived.Test.YtpcnacknlgmmlaaAvT81
set_option exponentiation.threshold 1000
set_option linter.unusedVariables false
set_option linter.unusedSimpArgs false
set_option maxRecDepth 100000
set_option maxHeartbeats 4000000
namespace Go.Av
open Go Go.Proofs Go.Proofs.Ytpcnacknlgmmlaa Go.RowKit
attribute [local simp] List.getElem?_cons_zero List.getElem?_cons_succ
attribute [local simp] Try.underlying40 Try.underlying9 Try.underlying3 Try.underlying4
theorem entS_get (l : List ByteArray) (j : Nat) (e : Ent) (h : (entS l)[j]? = some e) : ∃ hj : j < l.length, e = (l[j], false, [iC (j : Int)]) := by
  unfold entS at h
  rw [numS_get] at h
  have hj : j < l.length := by
    have := (List.getElem?_eq_some_iff.1 (show (numS 0 l)[j]? = some e by rw [numS_get]; exact h)).1
    simpa [numS_len] using this
  refine ⟨hj, ?_⟩
  rw [List.getElem?_eq_getElem hj] at h
  simpa using h.symm
end Go.Av
