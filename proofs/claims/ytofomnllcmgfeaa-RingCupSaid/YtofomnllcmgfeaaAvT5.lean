import Derived.Test.YtofomnllcmgfeaaAvT4
set_option linter.unusedVariables false
set_option linter.unusedSimpArgs false
namespace Go.Av
open Go Go.Proofs Go.Proofs.Ytofomnllcmgfeaa
attribute [local simp] Try.underlying31 Try.underlying22 Try.underlying3
def foldTopsWant (v : List (List Int)) (m : Nat) : List Int := ((List.range m).filter fun (i : Nat) => decide ((winsTo v i v.length : Int) = v.length - 1)).map Int.ofNat
theorem foldTopsWant_succ (v : List (List Int)) (m : Nat) : foldTopsWant v (m + 1) = foldTopsWant v m ++ if (winsTo v m v.length : Int) = v.length - 1 then [(m : Int)] else [] := by
  unfold foldTopsWant
  rw [List.range_succ, List.filter_append, List.map_append]
  by_cases h : (winsTo v m v.length : Int) = v.length - 1 <;> simp [h]
theorem foldTopsWant_len (v : List (List Int)) (m : Nat) : (foldTopsWant v m).length ≤ m := by
  unfold foldTopsWant
  rw [List.length_map]
  exact Nat.le_trans (List.length_filter_le _ _) (by simp)
theorem wins_all (v : List (List Int)) (i : Nat) (m : Nat) : (winsTo v i m ≤ (if i < m then m - 1 else m)) ∧ ((winsTo v i m = (if i < m then m - 1 else m)) ↔ ∀ k, k < m → k = i ∨ beats v i k = true) := by
  induction m with
  | zero => simp [winsTo]
  | succ m ih =>
    obtain ⟨h1, h2⟩ := ih
    rw [winsTo_succ]
    have hall : (∀ k, k < m + 1 → k = i ∨ beats v i k = true) ↔ (∀ k, k < m → k = i ∨ beats v i k = true) ∧ (m = i ∨ beats v i m = true) :=
      ⟨fun h => ⟨fun k hk => h k (by omega), h m (by omega)⟩, fun ⟨h, h'⟩ k hk => by
        by_cases e : k = m
        · subst e; exact h'
        · exact h k (by omega)⟩
    rw [hall, ← h2]
    by_cases e : m = i
    · subst e
      simp only [Nat.lt_irrefl, if_false] at h1 h2 ⊢
      simp
      exact h1
    · have e' : ¬ (m : Int) = i := by omega
      have el : (i < m + 1) ↔ i < m := by omega
      simp only [e, e', el, decide_false, Bool.not_false, Bool.true_and, false_or]
      cases hb : beats v i m
      · simp only [Bool.false_eq_true, if_false, and_false, iff_false, Nat.add_zero]
        split at h1 <;> rename_i hlt <;> simp only [hlt, if_true, if_false] <;> omega
      · simp only [if_true, and_true]
        split at h1 <;> rename_i hlt <;> simp only [hlt, if_true, if_false] <;> omega
/-- All others are beaten, if and only if as many are beaten as there are others. -/
theorem isTop_wins (v : List (List Int)) (i : Nat) (hi : i < v.length) : isTop v i = decide ((winsTo v i v.length : Int) = v.length - 1) := by
  have h := (wins_all v i v.length).2
  rw [if_pos hi] at h
  rw [Bool.eq_iff_iff, decide_eq_true_eq]
  have e : ((winsTo v i v.length : Int) = v.length - 1) ↔ winsTo v i v.length = v.length - 1 := by omega
  rw [e, h, isTop, List.all_eq_true]
  simp
theorem tops_want (v : List (List Int)) : tops v = foldTopsWant v v.length := by
  unfold tops topsTo foldTopsWant
  congr 1
  refine List.filter_congr fun i hi => ?_
  exact isTop_wins v i (by simpa using hi)
end Go.Av
