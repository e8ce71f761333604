/- 1 texts of the program logic over abstract values, joined: each is proved without any condition beyond its own words. -/
import Derived.Test.YtpcnacknlgmmlaaAvT82
set_option exponentiation.threshold 1000
set_option linter.unusedVariables false
set_option linter.unusedSimpArgs false
set_option maxRecDepth 100000
set_option maxHeartbeats 4000000
namespace Go.Av
open Go Go.Proofs Go.Proofs.Ytpcnacknlgmmlaa Go.RowKit
attribute [local simp] List.getElem?_cons_zero List.getElem?_cons_succ
/-! ### sorted rows -/
theorem sortedL {a b : List (List UInt8)} (hp : a.Perm b) : ∀ (_ : a.Pairwise (· ≤ ·)) (_ : b.Pairwise (· ≤ ·)), a = b := by
  intro h1 h2
  exact hp.eq_of_pairwise (fun x y _ _ hxy hyx => List.le_antisymm hxy hyx) h1 h2
theorem sort_pw (a : List (List UInt8)) : (a.mergeSort fun x y => decide (x ≤ y)).Pairwise (· ≤ ·) := by
  have h := List.pairwise_mergeSort (le := fun x y : List UInt8 => decide (x ≤ y)) (fun x y z hxy hyz => by simp only [decide_eq_true_eq] at *; exact List.le_trans hxy hyz) (fun x y => by simp only [Bool.or_eq_true, decide_eq_true_eq]; exact List.le_total x y) a
  exact h.imp fun h => by simpa using h
theorem sortB_perm {l l' : List ByteArray} (hp : l.Perm l') : sortB l = sortB l' := by
  unfold sortB
  congr 1
  exact sortedL (((List.mergeSort_perm _ _).trans (hp.map bL)).trans (List.mergeSort_perm _ _).symm) (sort_pw _) (sort_pw _)
/-- A row that is sorted already. -/
theorem sortB_of {l s : List ByteArray} (hp : s.Perm l) (hs : (s.map bL).Pairwise (· ≤ ·)) : sortB l = s := by
  rw [← sortB_perm hp, sortB, sortedL (List.mergeSort_perm _ _) (sort_pw _) hs, List.map_map]
  exact List.map_id' _
end Go.Av
