/- Heaps in rows, as container/heap keeps them: plain laws. -/
set_option linter.unusedVariables false
set_option linter.unusedSectionVars false
namespace Go.Hp
variable {α : Type} [Inhabited α]

/-- The i-th. -/
def at' (l : List α) (i : Nat) : α := l.getD i default
theorem at'_of {l : List α} {i : Nat} {x : α} (h : l[i]? = some x) : at' l i = x := by simp [at', List.getD, h]
theorem at'_some {l : List α} {i : Nat} (h : i < l.length) : l[i]? = some (at' l i) := by simp [at', List.getD, h]
/-- Two change places. -/
def swp (l : List α) (i j : Nat) : List α := (l.set i (at' l j)).set j (at' l i)
theorem swp_len (l : List α) (i j : Nat) : (swp l i j).length = l.length := by simp [swp]
theorem swp_perm (l : List α) {i j : Nat} (hi : i < l.length) (hj : j < l.length) : (swp l i j).Perm l := by
  have := List.set_set_perm (as := l) hi hj
  unfold swp
  rw [at'_of (List.getElem?_eq_getElem hi), at'_of (List.getElem?_eq_getElem hj)]
  exact this
theorem swp_at (l : List α) {i j k : Nat} (hi : i < l.length) (hj : j < l.length) : at' (swp l i j) k = if k = j then at' l i else if k = i then at' l j else at' l k := by
  unfold swp
  by_cases hk : k < l.length
  · refine at'_of ?_
    rw [List.getElem?_set, List.getElem?_set]
    simp only [List.length_set]
    by_cases h1 : k = j
    · subst h1; simp [hj]
    · by_cases h2 : k = i
      · subst h2; simp [hi, Ne.symm h1, h1]
      · simp [Ne.symm h1, Ne.symm h2, h1, h2, at'_some hk]
  · have h1 : k ≠ j := by omega
    have h2 : k ≠ i := by omega
    have e : ∀ m : List α, m.length = l.length → at' m k = default := fun m hm => by
      simp [at', List.getD, List.getElem?_eq_none (show m.length ≤ k by omega)]
    rw [if_neg h1, if_neg h2, e _ (by simp), e l rfl]

variable (lt : α → α → Bool)
/-- An order of all, by what is less. -/
structure Ord : Prop where
  tr : ∀ a b c, lt b a = false → lt c b = false → lt c a = false
  tot : ∀ a b, lt b a = false ∨ lt a b = false
variable {lt}
theorem Ord.of_lt (O : Ord lt) {a b : α} (h : lt a b = true) : lt b a = false := by
  rcases O.tot a b with h1 | h1
  · exact h1
  · rw [h] at h1; simp at h1
theorem Ord.refl (O : Ord lt) (a : α) : lt a a = false := (O.tot a a).elim id id

def par (i : Nat) : Nat := (i - 1) / 2
variable (lt)
def Heap (l : List α) (n : Nat) : Prop := ∀ i, 0 < i → i < n → lt (at' l i) (at' l (par i)) = false
def InvUp (l : List α) (j : Nat) : Prop := (∀ i, 0 < i → i < l.length → i ≠ j → lt (at' l i) (at' l (par i)) = false) ∧ (∀ i, 0 < i → i < l.length → par i = j → 0 < j → lt (at' l i) (at' l (par j)) = false)
def InvDn (l : List α) (i n : Nat) : Prop := (∀ k, 0 < k → k < n → par k ≠ i → lt (at' l k) (at' l (par k)) = false) ∧ (∀ k, 0 < k → k < n → par k = i → 0 < i → lt (at' l k) (at' l (par i)) = false)
variable {lt}
theorem heap_root (O : Ord lt) {l : List α} {n : Nat} (h : Heap lt l n) : ∀ i, i < n → lt (at' l i) (at' l 0) = false := by
  intro i
  induction i using Nat.strongRecOn with
  | _ i ih =>
    intro hi
    by_cases h0 : i = 0
    · subst h0; exact O.refl _
    · have hp : par i < i := by unfold par; omega
      exact O.tr _ _ _ (ih (par i) hp (by omega)) (h i (by omega) hi)
theorem up_start {l : List α} {x : α} (h : Heap lt l l.length) : InvUp lt (l ++ [x]) l.length := by
  refine ⟨fun i h0 hi hne => ?_, fun i h0 hi hp _ => ?_⟩
  · rw [List.length_append] at hi
    have hi' : i < l.length := by simp at hi; omega
    have e : ∀ k, k < l.length → at' (l ++ [x]) k = at' l k := fun k hk => at'_of (by rw [List.getElem?_append_left hk]; exact at'_some hk)
    rw [e i hi', e _ (by unfold par; omega)]
    exact h i h0 hi'
  · rw [List.length_append] at hi
    simp at hi
    unfold par at hp; omega
theorem up_end {l : List α} {j : Nat} (h : InvUp lt l j) (hj : j < l.length) (hx : par j = j ∨ lt (at' l j) (at' l (par j)) = false) : Heap lt l l.length := by
  intro i h0 hi
  by_cases hij : i = j
  · subst hij
    rcases hx with hx | hx
    · unfold par at hx; omega
    · exact hx
  · exact h.1 i h0 hi hij
theorem up_step (O : Ord lt) {l : List α} {j : Nat} (h : InvUp lt l j) (hj : j < l.length) (hlt : lt (at' l j) (at' l (par j)) = true) : InvUp lt (swp l (par j) j) (par j) ∧ par j < j := by
  have hj0 : 0 < j := by
    by_cases e : j = 0
    · subst e
      rw [show par 0 = 0 from rfl, O.refl] at hlt
      simp at hlt
    · omega
  have hpj : par j < j := by unfold par; omega
  have hpl : par j < l.length := by omega
  refine ⟨⟨fun i h0 hi hne => ?_, fun i h0 hi hp hp0 => ?_⟩, hpj⟩
  · rw [swp_len] at hi
    have hpi : par i < i := by unfold par; omega
    rw [swp_at l hpl hj, swp_at l hpl hj]
    by_cases e1 : i = j
    · subst e1
      rw [if_pos rfl, if_neg (by omega), if_pos rfl]
      exact O.of_lt hlt
    · rw [if_neg e1, if_neg hne]
      by_cases e2 : par i = j
      · rw [if_pos e2]
        exact h.2 i h0 hi e2 hj0
      · rw [if_neg e2]
        by_cases e3 : par i = par j
        · rw [if_pos e3]
          have := h.1 i h0 hi e1
          rw [e3] at this
          exact O.tr _ _ _ (O.of_lt hlt) this
        · rw [if_neg e3]
          exact h.1 i h0 hi e1
  · rw [swp_len] at hi
    have hpp : par (par j) < par j := by unfold par at *; omega
    have hpi : par i < i := by unfold par; omega
    rw [swp_at l hpl hj, swp_at l hpl hj, if_neg (show par (par j) ≠ j by omega), if_neg (show par (par j) ≠ par j by omega)]
    have hq := h.1 (par j) hp0 hpl (by omega)
    by_cases e1 : i = j
    · subst e1
      rw [if_pos rfl]
      exact hq
    · rw [if_neg e1, if_neg (by omega)]
      have := h.1 i h0 hi e1
      rw [hp] at this
      exact O.tr _ _ _ hq this
theorem dn_start {l : List α} {n : Nat} (h : Heap lt l (n + 1)) (hl : l.length = n + 1) : InvDn lt (swp l 0 n) 0 n := by
  refine ⟨fun k h0 hk hp => ?_, fun k _ _ _ h => by omega⟩
  have hpk : par k < k := by unfold par; omega
  rw [swp_at l (by omega) (by omega), swp_at l (by omega) (by omega), if_neg (by omega), if_neg (by omega), if_neg (by omega), if_neg hp]
  exact h k h0 (by omega)
theorem dn_end {l : List α} {i n : Nat} (h : InvDn lt l i n) (hx : ∀ k, 0 < k → k < n → par k = i → lt (at' l k) (at' l i) = false) : Heap lt l n := by
  intro k h0 hk
  by_cases e : par k = i
  · rw [e]; exact hx k h0 hk e
  · exact h.1 k h0 hk e
theorem dn_step (O : Ord lt) {l : List α} {i n j : Nat} (h : InvDn lt l i n) (hn : n ≤ l.length) (hi : i < n) (hj : j < n) (hj0 : 0 < j) (hp : par j = i) (hmin : ∀ k, 0 < k → k < n → par k = i → lt (at' l k) (at' l j) = false) (hlt : lt (at' l j) (at' l i) = true) :
    InvDn lt (swp l i j) j n := by
  have hij : i < j := by rw [← hp]; unfold par; omega
  refine ⟨fun k h0 hk hne => ?_, fun k h0 hk hpk _ => ?_⟩
  · have hpk : par k < k := by unfold par; omega
    rw [swp_at l (by omega) (by omega), swp_at l (by omega) (by omega)]
    rw [if_neg hne]
    by_cases e1 : par k = i
    · rw [if_pos e1]
      by_cases e2 : k = j
      · rw [if_pos e2]; exact O.of_lt hlt
      · rw [if_neg e2, if_neg (by omega)]
        exact hmin k h0 hk e1
    · rw [if_neg e1]
      by_cases e2 : k = j
      · subst e2; exact absurd hp e1
      · rw [if_neg e2]
        by_cases e3 : k = i
        · subst e3
          rw [if_pos rfl]
          exact h.2 j hj0 hj hp h0
        · rw [if_neg e3]
          exact h.1 k h0 hk e1
  · have hpk' : par k < k := by unfold par; omega
    rw [swp_at l (by omega) (by omega), swp_at l (by omega) (by omega), hp, if_neg (by omega), if_neg (by omega), if_neg (by omega), if_pos rfl]
    have := h.1 k h0 hk (by omega)
    rw [hpk] at this
    exact this
end Go.Hp
