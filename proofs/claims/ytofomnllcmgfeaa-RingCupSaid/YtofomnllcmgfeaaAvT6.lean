import Derived.Test.YtofomnllcmgfeaaAvT5
set_option linter.unusedVariables false
set_option linter.unusedSimpArgs false
namespace Go.Av
open Go Go.Proofs Go.Proofs.Ytofomnllcmgfeaa
/-- One that beats all others and that nobody beats is left, if it comes. -/
theorem fold_best (v : List (List Int)) (o : List Int) (t : Int) (h0 : 0 ≤ t) (h1 : t < v.length) (ht : isTop v t.toNat = true)
    (ho : ∀ (j : Nat) x, o[j]? = some x → 0 ≤ x ∧ x < v.length ∧ (x = t ∨ beats v x t = false)) (m : Nat) (hm : m ≤ o.length) :
    (t ∈ o.take m → foldTo v o m = t) ∧ (0 < m → 0 ≤ foldTo v o m ∧ foldTo v o m < v.length) := by
  have hb : ∀ x : Int, 0 ≤ x → x < v.length → x ≠ t → beats v t x = true := fun x hx0 hx1 hne => by
    have h := List.all_eq_true.1 ht x.toNat (by simp; omega)
    simp only [Bool.or_eq_true, decide_eq_true_eq] at h
    rcases h with h | h
    · omega
    · have e1 : ((t.toNat : Nat) : Int) = t := by omega
      have e2 : ((x.toNat : Nat) : Int) = x := by omega
      rw [e1, e2] at h
      exact h
  induction m with
  | zero => simp
  | succ m ih =>
    obtain ⟨i1, i2⟩ := ih (by omega)
    obtain ⟨x, hx⟩ := getI o (m : Nat) (by omega) (by omega)
    simp only [Int.toNat_natCast] at hx
    obtain ⟨x0, x1, x2⟩ := ho m x hx
    have e : foldTo v o (m + 1) = if m = 0 ∨ beats v x (foldTo v o m) = true then x else foldTo v o m := by rw [foldTo]; simp [hx]
    rw [e]
    refine ⟨fun hmem => ?_, fun _ => ?_⟩
    · rw [List.take_add_one, hx] at hmem
      simp only [Option.toList_some, List.mem_append, List.mem_singleton] at hmem
      by_cases hxt : x = t
      · subst hxt
        split
        · rfl
        · rename_i hn
          simp only [not_or] at hn
          obtain ⟨n1, n2⟩ := hn
          obtain ⟨j1, j2⟩ := i2 (by omega)
          apply Classical.byContradiction
          intro hne
          exact n2 (hb _ j1 j2 hne)
      · have hin : t ∈ o.take m := by
          rcases hmem with h | h
          · exact h
          · exact absurd h.symm hxt
        have hl := i1 hin
        have hpos : ¬ m = 0 := fun h => by subst h; simp at hin
        rw [hl]
        have hnb : beats v x t = false := by
          rcases x2 with h | h
          · exact absurd h hxt
          · exact h
        simp [hpos, hnb]
    · split
      · exact ⟨x0, x1⟩
      · rename_i hn
        exact i2 (by omega)
theorem tops_get (v : List (List Int)) (n : Nat) (t : Int) (h : (tops v)[n]? = some t) : 0 ≤ t ∧ t < v.length ∧ isTop v t.toNat = true := by
  have hm := List.mem_of_getElem? h
  unfold tops topsTo at hm
  simp only [List.mem_map, List.mem_filter, List.mem_range] at hm
  obtain ⟨a, ⟨ha, hb⟩, rfl⟩ := hm
  refine ⟨by simp, by simp; omega, by simpa using hb⟩
end Go.Av
