import Derived.Test.YtofomnllcmgfeaaAvEngine3
import Derived.Test.YtofomnllcmgfeaaAvTab
set_option linter.unusedVariables false
set_option linter.unusedSimpArgs false
namespace Go.Av
open Go Go.Proofs
attribute [local simp] Try.underlying31 Try.underlying22 Try.underlying3
def row (v : List (List Int)) (i : Int) : List Int := (v[i.toNat]?).getD []
def beats (v : List (List Int)) (i k : Int) : Bool := decide (0 ≤ i) && decide (i < v.length) && decide (0 ≤ k) && decide (k < (row v i).length) && decide (0 < ((row v i)[k.toNat]?).getD 0)
set_option maxRecDepth 100000 in
set_option maxHeartbeats 2000000 in
theorem beats_den (v : List (List Int)) (i k : Int) (ob : List Ob) : Den Try.prog 34 [.c (rowsC v), .c (iC i), .c (iC k)] ob (fun r ob' => r = .c (bC (beats v i k)) ∧ ob' = ob) := by
  refine den_of Try.func34 rfl rfl (by simp [Try.ntmps34]) (fun X hX hO => ?_)
  rw [Try.ntmps34] at hX
  simp only [Try.results34]
  refine awp_seq (awp_region ?_)
  rw [hX]
  simp [iC, rowsC]
  refine awp_seq (awp_region ?_)
  rw [hX]
  have fin : ∀ (fr : List (Nat × M)) (b : Bool), get fr 6 = some (.c (bC b)) → b = beats v i k → thenA (Awp Try.prog X Code.ret (postOf Try.prog [ResultVar.tmp 6] fun r ob' => r = .c (bC (beats v i k)) ∧ ob' = ob)) (postOf Try.prog [ResultVar.tmp 6] fun r ob' => r = .c (bC (beats v i k)) ∧ ob' = ob) Exit.normal ⟨fr, ob⟩ := by
    intro fr b h1 h2
    refine awp_ret ?_
    simp [h1, h2]
  generalize hQ : (thenA _ _ _ : St → Prop) = K at fin
  clear hQ
  by_cases h1 : 0 ≤ i
  · by_cases h2 : i < v.length
    · obtain ⟨r, hr⟩ := getI v i h1 h2
      by_cases h3 : 0 ≤ k
      · by_cases h4 : k < r.length
        · obtain ⟨x, hx⟩ := getI r k h3 h4
          simp [-getElem?_pos, iC, rowsC, h1, h2, h3, h4, hr, intsC, hx]
          exact fin _ (decide (0 < x)) (by simp [bC]) (by simp [-getElem?_pos, beats, row, hr, h1, h2, h3, h4, hx])
        · simp [-getElem?_pos, iC, rowsC, h1, h2, h3, h4, hr, intsC]
          exact fin _ false (by simp [bC]) (by simp [-getElem?_pos, beats, row, hr, h1, h2, h3, h4])
      · simp [-getElem?_pos, iC, rowsC, h1, h2, h3]
        exact fin _ false (by simp [bC]) (by simp [beats, h3])
    · simp [-getElem?_pos, iC, rowsC, h1, h2]
      exact fin _ false (by simp [bC]) (by simp [beats, h2])
  · simp [-getElem?_pos, iC, rowsC, h1]
    exact fin _ false (by simp [bC]) (by simp [beats, h1])
end Go.Av
