/- The order of texts by their bytes; heaps put to use: what comes out of one is sorted. -/
import Derived.Test.YtofomnllcmgfeaaAv31
import GoSem.Op.String
set_option linter.unusedVariables false
set_option linter.unusedSectionVars false
namespace Go.Hp
open Go
/-! ### bytes -/
theorem bl_irr : ∀ a : List UInt8, Op.bytesLess a a = false
  | [] => rfl
  | x :: a => by simp [Op.bytesLess, bl_irr a]
theorem bl_asym : ∀ a b : List UInt8, Op.bytesLess a b = true → Op.bytesLess b a = false
  | _, [], h => by simp [Op.bytesLess] at h
  | [], y :: b, _ => rfl
  | x :: a, y :: b, h => by
    simp only [Op.bytesLess, Bool.or_eq_true, decide_eq_true_eq, Bool.and_eq_true, beq_iff_eq] at h
    simp only [Op.bytesLess, Bool.or_eq_false_iff, decide_eq_false_iff_not, Bool.and_eq_false_iff]
    rcases h with h | ⟨rfl, h⟩
    · exact ⟨fun h' => absurd (UInt8.lt_trans h h') (UInt8.lt_irrefl _), .inl (by simp; intro e; subst e; exact absurd h (UInt8.lt_irrefl _))⟩
    · exact ⟨UInt8.lt_irrefl _, .inr (bl_asym a b h)⟩
theorem bl_eq : ∀ a b : List UInt8, Op.bytesLess a b = false → Op.bytesLess b a = false → a = b
  | [], [], _, _ => rfl
  | [], _ :: _, h, _ => by simp [Op.bytesLess] at h
  | _ :: _, [], _, h => by simp [Op.bytesLess] at h
  | x :: a, y :: b, h, h' => by
    simp only [Op.bytesLess, Bool.or_eq_false_iff, decide_eq_false_iff_not, Bool.and_eq_false_iff, beq_eq_false_iff_ne] at h h'
    have e : x = y := UInt8.le_antisymm (UInt8.not_lt.1 h'.1) (UInt8.not_lt.1 h.1)
    subst e
    rw [bl_eq a b (h.2.resolve_left (by simp)) (h'.2.resolve_left (by simp))]
theorem bl_trans : ∀ a b c : List UInt8, Op.bytesLess a b = true → Op.bytesLess b c = true → Op.bytesLess a c = true
  | _, [], _, h, _ => by simp [Op.bytesLess] at h
  | _, _ :: _, [], _, h => by simp [Op.bytesLess] at h
  | [], _ :: _, _ :: _, _, _ => rfl
  | x :: a, y :: b, z :: c, h, h' => by
    simp only [Op.bytesLess, Bool.or_eq_true, decide_eq_true_eq, Bool.and_eq_true, beq_iff_eq] at h h' ⊢
    rcases h with h | ⟨rfl, h⟩
    · rcases h' with h' | ⟨rfl, _⟩
      · exact .inl (UInt8.lt_trans h h')
      · exact .inl h
    · rcases h' with h' | ⟨rfl, h'⟩
      · exact .inl h'
      · exact .inr ⟨rfl, bl_trans a b c h h'⟩
/-! ### the moves of a heap, as functions -/
variable {α : Type} [Inhabited α] (lt : α → α → Bool)
def upF : Nat → List α → Nat → List α
  | 0, l, _ => l
  | f + 1, l, j => if par j = j then l else if lt (at' l j) (at' l (par j)) = true then upF f (swp l (par j) j) (par j) else l
def pushL (l : List α) (x : α) : List α := upF lt (l.length + 1) (l ++ [x]) l.length
def child (l : List α) (n i : Nat) : Nat := if 2 * i + 1 + 1 < n then (if lt (at' l (2 * i + 1 + 1)) (at' l (2 * i + 1)) = true then 2 * i + 1 + 1 else 2 * i + 1) else 2 * i + 1
def dnF (n : Nat) : Nat → List α → Nat → List α
  | 0, l, _ => l
  | f + 1, l, i => if n ≤ 2 * i + 1 then l else if lt (at' l (child lt l n i)) (at' l i) = true then dnF n f (swp l i (child lt l n i)) (child lt l n i) else l
def popL (l : List α) (n : Nat) : List α := dnF lt n (n + 1) (swp l 0 n) 0
variable {lt}
theorem par_lt {j : Nat} (h : ¬ par j = j) : par j < j := by unfold par at *; omega
theorem upF_len (f : Nat) : ∀ (l : List α) (j : Nat), (upF lt f l j).length = l.length := by
  induction f with
  | zero => intro l j; rfl
  | succ f ih =>
    intro l j
    unfold upF
    split
    · rfl
    · split
      · rw [ih, swp_len]
      · rfl
theorem upF_ok (O : Ord lt) (f : Nat) : ∀ (l : List α) (j : Nat), j < f → j < l.length → InvUp lt l j → Heap lt (upF lt f l j) l.length ∧ (upF lt f l j).Perm l := by
  induction f with
  | zero => intro l j h; omega
  | succ f ih =>
    intro l j hf hj hi
    unfold upF
    split
    · rename_i h
      exact ⟨up_end hi hj (.inl h), .refl _⟩
    · rename_i h
      split
      · rename_i hlt
        obtain ⟨h1, h2⟩ := up_step O hi hj hlt
        obtain ⟨k1, k2⟩ := ih (swp l (par j) j) (par j) (by omega) (by rw [swp_len]; omega) h1
        rw [swp_len] at k1
        exact ⟨k1, k2.trans (swp_perm l (by omega) hj)⟩
      · rename_i hlt
        exact ⟨up_end hi hj (.inr (by simpa using hlt)), .refl _⟩
theorem pushL_ok (O : Ord lt) {l : List α} {x : α} (h : Heap lt l l.length) : Heap lt (pushL lt l x) (l.length + 1) ∧ (pushL lt l x).Perm (l ++ [x]) ∧ (pushL lt l x).length = l.length + 1 := by
  obtain ⟨h1, h2⟩ := upF_ok O (l.length + 1) (l ++ [x]) l.length (by omega) (by simp) (up_start h)
  rw [List.length_append] at h1
  exact ⟨h1, h2, by unfold pushL; rw [upF_len]; simp⟩
theorem child_of (l : List α) (n i : Nat) (h : 2 * i + 1 < n) : child lt l n i < n ∧ 0 < child lt l n i ∧ par (child lt l n i) = i ∧ i < child lt l n i := by
  unfold child par
  split
  · split <;> omega
  · omega
theorem child_min (O : Ord lt) (l : List α) (n i : Nat) : ∀ k, 0 < k → k < n → par k = i → lt (at' l k) (at' l (child lt l n i)) = false := by
  intro k h0 hk hp
  have hk2 : k = 2 * i + 1 ∨ k = 2 * i + 1 + 1 := by unfold par at hp; omega
  unfold child
  split
  · split
    · rename_i h
      rcases hk2 with rfl | rfl
      · exact O.of_lt h
      · exact O.refl _
    · rename_i h
      rcases hk2 with rfl | rfl
      · exact O.refl _
      · simpa using h
  · rcases hk2 with rfl | rfl
    · exact O.refl _
    · omega
theorem dnF_len (n f : Nat) : ∀ (l : List α) (i : Nat), (dnF lt n f l i).length = l.length := by
  induction f with
  | zero => intro l j; rfl
  | succ f ih =>
    intro l j
    unfold dnF
    split
    · rfl
    · split
      · rw [ih, swp_len]
      · rfl
theorem perm_take_swp (l : List α) {n i j : Nat} (hn : n ≤ l.length) (hi : i < n) (hj : j < n) : ((swp l i j).take n).Perm (l.take n) ∧ ∀ k, n ≤ k → at' (swp l i j) k = at' l k := by
  refine ⟨?_, fun k hk => by rw [swp_at l (by omega) (by omega), if_neg (by omega), if_neg (by omega)]⟩
  have e : (swp l i j).take n = swp (l.take n) i j := by
    have ea : ∀ k, k < n → at' (l.take n) k = at' l k := fun k hk => at'_of (by rw [List.getElem?_take_of_lt hk]; exact at'_some (by omega))
    unfold swp
    rw [ea i hi, ea j hj, List.take_set, List.take_set]
  rw [e]
  exact swp_perm _ (by simp; omega) (by simp; omega)
theorem dnF_ok (O : Ord lt) (n f : Nat) : ∀ (l : List α) (i : Nat), n ≤ i + f → n ≤ l.length → (0 < n → i < n) → InvDn lt l i n → Heap lt (dnF lt n f l i) n ∧ ((dnF lt n f l i).take n).Perm (l.take n) ∧ ∀ k, n ≤ k → at' (dnF lt n f l i) k = at' l k := by
  induction f with
  | zero =>
    intro l i h1 h2 h3 h
    have : n = 0 := by omega
    subst this
    exact ⟨fun k _ hk => by omega, .refl _, fun k _ => rfl⟩
  | succ f ih =>
    intro l i h1 h2 h3 h
    unfold dnF
    split
    · rename_i hle
      exact ⟨dn_end h (fun k h0 hk hp => by unfold par at hp; omega), .refl _, fun k _ => rfl⟩
    · rename_i hle
      obtain ⟨c1, c2, c3, c4⟩ := child_of (lt := lt) l n i (by omega)
      split
      · rename_i hlt
        have hs := dn_step O h h2 (by omega) c1 c2 c3 (child_min O l n i) hlt
        obtain ⟨k1, k2, k3⟩ := ih (swp l i (child lt l n i)) (child lt l n i) (by omega) (by rw [swp_len]; exact h2) (fun _ => c1) hs
        obtain ⟨p1, p2⟩ := perm_take_swp l h2 (show i < n by omega) c1
        exact ⟨k1, k2.trans p1, fun k hk => (k3 k hk).trans (p2 k hk)⟩
      · rename_i hlt
        refine ⟨dn_end h (fun k h0 hk hp => ?_), .refl _, fun k _ => rfl⟩
        have := child_min O l n i k h0 hk hp
        exact O.tr _ _ _ (by simpa using hlt) this
theorem popL_len (l : List α) (n : Nat) : (popL lt l n).length = l.length := by unfold popL; rw [dnF_len, swp_len]
theorem popL_ok (O : Ord lt) {l : List α} {n : Nat} (hn : n + 1 ≤ l.length) (h : Heap lt l (n + 1)) :
    Heap lt (popL lt l n) n ∧ at' (popL lt l n) n = at' l 0 ∧ ((popL lt l n).take n ++ [at' l 0]).Perm (l.take (n + 1)) ∧ ∀ x ∈ l.take (n + 1), lt x (at' l 0) = false := by
  have hd : InvDn lt (swp l 0 n) 0 n := by
    refine ⟨fun k h0 hk hp => ?_, fun k _ _ _ h => by omega⟩
    have hpk : par k < k := by unfold par; omega
    rw [swp_at l (by omega) (by omega), swp_at l (by omega) (by omega), if_neg (by omega), if_neg (by omega), if_neg (by omega), if_neg hp]
    exact h k h0 (by omega)
  obtain ⟨h1, h2, h3⟩ := dnF_ok O n (n + 1) (swp l 0 n) 0 (by omega) (by rw [swp_len]; omega) (by omega) hd
  have e0 : at' (popL lt l n) n = at' l 0 := by
    unfold popL
    rw [h3 n (Nat.le_refl _), swp_at l (by omega) (by omega), if_pos rfl]
  have e1 : (swp l 0 n).take (n + 1) = (swp l 0 n).take n ++ [at' l 0] := by
    rw [List.take_add_one, at'_some (by rw [swp_len]; omega), swp_at l (by omega) (by omega), if_pos rfl]
    rfl
  refine ⟨h1, e0, ?_, fun x hx => ?_⟩
  · have hp := (perm_take_swp l hn (show 0 < n + 1 by omega) (show n < n + 1 by omega)).1
    rw [e1] at hp
    exact (h2.append (.refl _)).trans hp
  · obtain ⟨k, hk⟩ := List.getElem?_of_mem hx
    have hlt := (List.getElem?_eq_some_iff.1 hk).1
    rw [List.length_take] at hlt
    rw [List.getElem?_take_of_lt (by omega)] at hk
    rw [← at'_of hk]
    exact heap_root O h k (by omega)
/-! ### what comes out -/
/-- What has come out, and what is still in. -/
structure Out (lt : α → α → Bool) (l0 o l : List α) (n : Nat) : Prop where
  heap : Heap lt l n
  len : n ≤ l.length
  perm : (o ++ l.take n).Perm l0
  sorted : o.Pairwise fun a b => lt b a = false
  low : ∀ a ∈ o, ∀ b ∈ l.take n, lt b a = false
theorem out_start {l : List α} (h : Heap lt l l.length) {l0 : List α} (hp : l.Perm l0) : Out lt l0 [] l l.length := ⟨h, Nat.le_refl _, by simpa using hp, .nil, fun a h => by simp at h⟩
theorem out_step (O : Ord lt) {l0 o l : List α} {n : Nat} (h : Out lt l0 o l (n + 1)) : Out lt l0 (o ++ [at' l 0]) (popL lt l n) n ∧ at' (popL lt l n) n = at' l 0 := by
  obtain ⟨h1, h2, h3, h4⟩ := popL_ok O h.len h.heap
  have hmem : ∀ x ∈ (popL lt l n).take n, x ∈ l.take (n + 1) := fun x hx => h3.subset (List.mem_append_left _ hx)
  have h0 : at' l 0 ∈ l.take (n + 1) := h3.subset (List.mem_append_right _ (by simp))
  refine ⟨⟨h1, by rw [popL_len]; have := h.len; omega, ?_, ?_, ?_⟩, h2⟩
  · rw [List.append_assoc]
    exact ((List.Perm.refl o).append ((List.perm_append_comm).trans h3)).trans h.perm
  · rw [List.pairwise_append]
    exact ⟨h.sorted, List.pairwise_singleton _ _, fun a ha b hb => by simp at hb; subst hb; exact h.low a ha _ h0⟩
  · intro a ha b hb
    rcases List.mem_append.1 ha with ha | ha
    · exact h.low a ha b (hmem b hb)
    · simp at ha; subst ha
      exact h4 b (hmem b hb)
theorem out_end {l0 o l : List α} (h : Out lt l0 o l 0) : o.Perm l0 ∧ o.Pairwise fun a b => lt b a = false := ⟨by simpa using h.perm, h.sorted⟩
theorem sorted_one (hant : ∀ a b, lt a b = false → lt b a = false → a = b) {a b : List α} (ha : a.Pairwise fun x y => lt y x = false) (hb : b.Pairwise fun x y => lt y x = false) (h : a.Perm b) : a = b :=
  h.eq_of_pairwise (fun x y _ _ h1 h2 => hant x y h2 h1) ha hb
end Go.Hp
