/- 1 texts of the program logic over abstract values, joined: each is proved without any condition beyond its own words. -/
import Derived.Test.YtpcnacknlgmmlaaAvT79
import Derived.Test.YtpcnacknlgmmlaaAvT80
set_option exponentiation.threshold 1000
set_option linter.unusedVariables false
set_option linter.unusedSimpArgs false
set_option maxRecDepth 100000
set_option maxHeartbeats 4000000
namespace Go.Av
open Go Go.Proofs Go.Proofs.Ytpcnacknlgmmlaa Go.RowKit
attribute [local simp] List.getElem?_cons_zero List.getElem?_cons_succ
/-! ### store.All of a store that holds something -/
attribute [local simp] Try.underlying40 Try.underlying9 Try.underlying3 Try.underlying4
/-- The texts at these places. -/
def atB (l : List ByteArray) (seen : List Nat) : List ByteArray := seen.map fun j => l.getD j ByteArray.empty
/-- Places told, each once. -/
def Told (n : Nat) (seen : List Nat) : Prop := seen.Nodup ∧ ∀ j ∈ seen, j < n
theorem told_len {n : Nat} {seen : List Nat} (h : Told n seen) : seen.length ≤ n := by
  have h1 : ∀ (n : Nat) (s : List Nat), s.Nodup → (∀ j ∈ s, j < n) → s.length ≤ n := by
    intro n
    induction n with
    | zero =>
      intro s _ hs
      cases s with
      | nil => simp
      | cons a r => exact absurd (hs a (by simp)) (by omega)
    | succ n ih =>
      intro s hd hs
      have h2 := ih (s.erase n) (hd.erase n) (fun j hj => by
        have h3 := (List.Nodup.mem_erase_iff hd).1 hj
        have h4 := hs j h3.2
        omega)
      rw [List.length_erase] at h2
      split at h2 <;> omega
  exact h1 n seen h.1 h.2
theorem told_snoc {n j : Nat} {seen : List Nat} (h : Told n seen) (hj : j < n) (hn : j ∉ seen) : Told n (seen ++ [j]) := by
  refine ⟨List.nodup_append.2 ⟨h.1, by simp, fun a ha b hb hab => ?_⟩, fun a ha => ?_⟩
  · simp at hb; subst hb; subst hab; exact hn ha
  · rcases List.mem_append.1 ha with h1 | h1
    · exact h.2 a h1
    · simp at h1; omega
theorem told_perm {n : Nat} {seen : List Nat} (h : Told n seen) (ha : ∀ j, j < n → j ∈ seen) : seen.Perm (List.range n) :=
  (List.perm_ext_iff_of_nodup h.1 List.nodup_range).2 fun j => ⟨fun hj => List.mem_range.2 (h.2 j hj), fun hj => ha j (List.mem_range.1 hj)⟩
theorem atB_perm {l : List ByteArray} {seen : List Nat} (h : seen.Perm (List.range l.length)) : (atB l seen).Perm l := by
  have h1 : (atB l seen).Perm (atB l (List.range l.length)) := h.map _
  have h2 : atB l (List.range l.length) = l := by
    apply List.ext_getElem?
    intro j
    by_cases hj : j < l.length
    · simp [atB, hj]
    · simp [atB, hj]
  rw [h2] at h1
  exact h1
theorem atB_snoc (l : List ByteArray) (seen : List Nat) (j : Nat) (hj : j < l.length) : atB l (seen ++ [j]) = atB l seen ++ [l[j]] := by
  simp [atB, hj]
theorem told_all {n : Nat} {seen : List Nat} (h : Told n seen) (ha : ∀ j, j < n → j ∈ seen) : seen.length = n := by
  have := (told_perm h ha).length_eq
  simpa using this
end Go.Av
