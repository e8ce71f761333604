/- Dominating sets: plain laws. -/
set_option linter.unusedVariables false
namespace Go.Rg
def gb (b : List Bool) (i : Nat) : Bool := (b[i]?).getD false
theorem gb_of {b : List Bool} {i : Nat} {x : Bool} (h : b[i]? = some x) : gb b i = x := by simp [gb, h]
theorem gb_set {b : List Bool} {k : Nat} (hk : k < b.length) (i : Nat) : gb (b.set k true) i = if i = k then true else gb b i := by
  unfold gb
  rw [List.getElem?_set]
  by_cases h : k = i
  · subst h; simp [hk]
  · simp [h, Ne.symm h]
variable (q : Nat → Nat → Bool) (n : Nat)
/-- Each that is in is better than each that is not. -/
def Dom (b : Nat → Bool) : Prop := ∀ i k, i < n → k < n → b i = true → b k = false → q i k = true
def Sub (b c : Nat → Bool) : Prop := ∀ k, k < n → b k = true → c k = true
/-- The least dominating set about b0. -/
def IsCl (b0 b : List Bool) : Prop := b.length = n ∧ Sub n (gb b0) (gb b) ∧ Dom q n (gb b) ∧ ∀ c : Nat → Bool, Dom q n c → Sub n (gb b0) c → Sub n (gb b) c
/-- On the way there. -/
def Way (b0 b : List Bool) : Prop := b.length = n ∧ Sub n (gb b0) (gb b) ∧ ∀ c : Nat → Bool, Dom q n c → Sub n (gb b0) c → Sub n (gb b) c
variable {q n}
theorem way_start {b0 : List Bool} (h : b0.length = n) : Way q n b0 b0 := ⟨h, fun _ _ h => h, fun _ _ h => h⟩
theorem way_step {b0 b : List Bool} (h : Way q n b0 b) {i k : Nat} (hi : i < n) (hk : k < n) (h1 : gb b i = true) (h2 : q i k = false) : Way q n b0 (b.set k true) := by
  obtain ⟨h0, hs, hm⟩ := h
  refine ⟨by simp [h0], fun j hj hb => ?_, fun c hc hsc j hj hb => ?_⟩
  · rw [gb_set (by omega)]
    split
    · rfl
    · exact hs j hj hb
  · rw [gb_set (by omega)] at hb
    split at hb
    · rename_i e
      subst e
      have hci := hm c hc hsc i hi h1
      cases hcj : c j with
      | true => rfl
      | false =>
        have := hc i j hi hk hci hcj
        rw [h2] at this; simp at this
    · exact hm c hc hsc j hj hb
theorem way_end {b0 b : List Bool} (h : Way q n b0 b) (hd : Dom q n (gb b)) : IsCl q n b0 b := ⟨h.1, h.2.1, hd, h.2.2⟩
/-- How many are not in. -/
def fal (b : List Bool) : Nat := b.count false
theorem fal_set {b : List Bool} {k : Nat} (hk : k < b.length) (h : gb b k = false) : fal (b.set k true) + 1 = fal b := by
  unfold fal
  have hb : b[k] = false := by
    have := gb_of (List.getElem?_eq_getElem hk)
    rw [← this, h]
  have hpos : 0 < b.count false := List.count_pos_iff.2 (hb ▸ List.getElem_mem hk)
  rw [List.count_set hk, hb]
  simp
  omega
/-- How many are in. -/
def siz (b : List Bool) : Nat := b.count true
def sizTo (b : List Bool) (i : Nat) : Nat := (b.take i).count true
theorem sizTo_succ {b : List Bool} {i : Nat} {x : Bool} (h : b[i]? = some x) : sizTo b (i + 1) = sizTo b i + if x then 1 else 0 := by
  unfold sizTo
  rw [List.take_add_one, h]
  cases x <;> simp
theorem sizTo_all (b : List Bool) : sizTo b b.length = siz b := by unfold sizTo siz; rw [List.take_length]
theorem sizTo_le (b : List Bool) (i : Nat) : sizTo b i ≤ i := by
  unfold sizTo
  exact Nat.le_trans List.count_le_length (by simp; omega)
/-- The places of those that are in. -/
def posF (b : Nat → Bool) (i : Nat) : List Nat := (List.range i).filter b
theorem posF_succ (b : Nat → Bool) (i : Nat) : posF b (i + 1) = posF b i ++ if b i then [i] else [] := by
  unfold posF
  rw [List.range_succ, List.filter_append]
  cases h : b i <;> simp [h]
theorem posF_0 (b : Nat → Bool) : posF b 0 = [] := rfl
theorem posF_len (b : Nat → Bool) (i : Nat) : (posF b i).length ≤ i := Nat.le_trans (List.length_filter_le _ _) (by simp)
theorem posF_congr {b c : Nat → Bool} {i : Nat} (h : ∀ k, k < i → b k = c k) : posF b i = posF c i := by
  unfold posF
  exact List.filter_congr (fun k hk => h k (List.mem_range.1 hk))
theorem siz_pos (b : List Bool) : siz b = (posF (gb b) b.length).length := by
  have h : ∀ i, i ≤ b.length → sizTo b i = (posF (gb b) i).length := by
    intro i
    induction i with
    | zero => intro _; simp [sizTo, posF]
    | succ i ih =>
      intro hi
      have hx : b[i]? = some (b[i]) := List.getElem?_eq_getElem (by omega)
      rw [sizTo_succ hx, posF_succ, List.length_append, ih (by omega), gb_of hx]
      cases b[i] <;> simp
  rw [← sizTo_all]
  exact h _ (Nat.le_refl _)
theorem pos_sub {b c : Nat → Bool} (h : Sub n b c) : (posF b n).length ≤ (posF c n).length ∧ ((posF b n).length = (posF c n).length → ∀ k, k < n → b k = c k) := by
  induction n with
  | zero => exact ⟨by simp [posF], fun _ k hk => by omega⟩
  | succ m ih =>
    obtain ⟨h1, h2⟩ := ih (fun k hk hb => h k (by omega) hb)
    rw [posF_succ, posF_succ, List.length_append, List.length_append]
    have hm := h m (by omega)
    cases hb : b m <;> cases hc : c m
    · simp only [Bool.false_eq_true, if_false, List.length_nil, Nat.add_zero]
      refine ⟨h1, fun e k hk => ?_⟩
      by_cases ek : k = m
      · subst ek; rw [hb, hc]
      · exact h2 e k (by omega)
    · simp only [Bool.false_eq_true, if_false, if_true, List.length_nil, List.length_cons, Nat.add_zero]
      exact ⟨by omega, fun e => by omega⟩
    · rw [hb, hc] at hm; simp at hm
    · simp only [if_true, List.length_cons, List.length_nil]
      refine ⟨by omega, fun e k hk => ?_⟩
      by_cases ek : k = m
      · subst ek; rw [hb, hc]
      · exact h2 (by omega) k (by omega)
/-- The set of one. -/
def one (n i : Nat) : List Bool := (List.replicate n false).set i true
theorem gb_one {n i : Nat} (hi : i < n) (k : Nat) : gb (one n i) k = decide (k = i) := by
  unfold one
  rw [gb_set (by simpa using hi)]
  by_cases h : k = i
  · simp [h]
  · simp [h, gb, List.getElem?_replicate]
    split <;> rfl
theorem sub_one {i : Nat} {c : Nat → Bool} (hi : i < n) (h : c i = true) : Sub n (gb (one n i)) c := fun k hk hb => by
  rw [gb_one hi] at hb
  simp at hb
  rw [hb]; exact h
/-- Nobody is better than who is better than them. -/
def Sound (q : Nat → Nat → Bool) (n : Nat) : Prop := ∀ i k, i < n → k < n → q i k = true → q k i = false
theorem dom_chain (hs : Sound q n) {b c : Nat → Bool} (hb : Dom q n b) (hc : Dom q n c) : Sub n b c ∨ Sub n c b := by
  by_cases h : Sub n b c
  · exact .inl h
  · right
    unfold Sub at h
    obtain ⟨s, hs1, hs2, hs3⟩ : ∃ s, s < n ∧ b s = true ∧ ¬ c s = true := by
      refine Classical.byContradiction fun hh => h fun k hk hb => Classical.byContradiction fun hc => hh ⟨k, hk, hb, hc⟩
    intro t ht1 ht2
    cases hbt : b t with
    | true => rfl
    | false =>
      have h1 := hb s t hs1 ht1 hs2 hbt
      have h2 := hc t s ht1 hs1 ht2 (by simpa using hs3)
      have := hs s t hs1 ht1 h1
      rw [h2] at this; simp at this
/-- The smallest of the least sets about each. -/
def Top (q : Nat → Nat → Bool) (n : Nat) (b : List Bool) : Prop := (∃ i, i < n ∧ IsCl q n (one n i) b) ∧ ∀ i c, i < n → IsCl q n (one n i) c → siz b ≤ siz c
theorem cl_unique {b0 b c : List Bool} (hb : IsCl q n b0 b) (hc : IsCl q n b0 c) : b = c := by
  have h1 := hb.2.2.2 (gb c) hc.2.2.1 hc.2.1
  have h2 := hc.2.2.2 (gb b) hb.2.2.1 hb.2.1
  apply List.ext_getElem (hb.1.trans hc.1.symm)
  intro k hk1 hk2
  have e1 := gb_of (List.getElem?_eq_getElem hk1)
  have e2 := gb_of (List.getElem?_eq_getElem hk2)
  have hkn : k < n := by rw [← hb.1]; exact hk1
  rw [← e1, ← e2]
  cases h : gb b k with
  | true => exact (h1 k hkn h).symm
  | false =>
    cases h' : gb c k with
    | false => rfl
    | true => rw [h2 k hkn h'] at h; exact h.symm
/-- Each dominating set that has one has at least as many. -/
theorem top_least {b : List Bool} (ht : Top q n b) {c : Nat → Bool} (hc : Dom q n c) {i : Nat} (hi : i < n) (h : c i = true) (hex : ∃ d, IsCl q n (one n i) d) : siz b ≤ (posF c n).length := by
  obtain ⟨d, hd⟩ := hex
  have h1 := ht.2 i d hi hd
  have h2 := (pos_sub (hd.2.2.2 c hc (sub_one hi h))).1
  rw [siz_pos, siz_pos, hd.1] at h1
  rw [siz_pos]
  exact Nat.le_trans h1 h2
theorem top_dom {b : List Bool} (ht : Top q n b) : Dom q n (gb b) ∧ b.length = n ∧ ∃ i, i < n ∧ gb b i = true := by
  obtain ⟨i, hi, hcl⟩ := ht.1
  exact ⟨hcl.2.2.1, hcl.1, i, hi, hcl.2.1 i hi (by rw [gb_one hi]; simp)⟩
/-- Of sound verdicts, two least ones are one. -/
theorem least_one (hs : Sound q n) {b c : Nat → Bool} (hb : Dom q n b) (hc : Dom q n c) (h : (posF b n).length = (posF c n).length) : posF b n = posF c n := by
  rcases dom_chain hs hb hc with h1 | h1
  · exact posF_congr ((pos_sub h1).2 h)
  · exact (posF_congr ((pos_sub h1).2 h.symm)).symm
/-! ### sets as numbers -/
def maskOf (l : List Nat) : Nat := (l.map fun i => 2 ^ i).sum
theorem mask_posF (b : Nat → Bool) (n : Nat) : maskOf (posF b n) < 2 ^ n ∧ ∀ j, (maskOf (posF b n)).testBit j = (decide (j < n) && b j) := by
  induction n with
  | zero => exact ⟨by simp [maskOf, posF], fun j => by simp [maskOf, posF]⟩
  | succ m ih =>
    obtain ⟨h1, h2⟩ := ih
    have e : maskOf (posF b (m + 1)) = maskOf (posF b m) + if b m then 2 ^ m else 0 := by
      rw [posF_succ]
      unfold maskOf
      rw [List.map_append, List.sum_append]
      cases b m <;> simp
    rw [e]
    cases hb : b m with
    | false =>
      simp only [Bool.false_eq_true, if_false, Nat.add_zero]
      refine ⟨Nat.lt_of_lt_of_le h1 (Nat.pow_le_pow_right (by omega) (by omega)), fun j => ?_⟩
      rw [h2]
      by_cases ej : j = m
      · subst ej; simp [hb]
      · have : (j < m) = (j < m + 1) := by apply propext; omega
        simp [this]
    | true =>
      simp only [if_true]
      refine ⟨by rw [Nat.pow_succ]; omega, fun j => ?_⟩
      rw [show maskOf (posF b m) + 2 ^ m = 2 ^ m * 1 + maskOf (posF b m) by omega, Nat.testBit_two_pow_mul_add _ h1, h2]
      by_cases ej : j < m
      · simp [ej, show j < m + 1 by omega]
      · rw [if_neg ej]
        by_cases ej2 : j = m
        · subst ej2; simp [hb]
        · have : ¬ j < m + 1 := by omega
          simp only [this, decide_false, Bool.false_and]
          rw [show j - m = (j - m - 1) + 1 by omega, Nat.testBit_succ]
          simp
theorem exists_bit {s n : Nat} (h0 : 0 < s) (h : s < 2 ^ n) : ∃ i, i < n ∧ s.testBit i = true := by
  obtain ⟨i, hi⟩ := Nat.exists_testBit_of_ne_zero (show s ≠ 0 by omega)
  refine ⟨i, ?_, hi⟩
  rcases Nat.lt_or_ge i n with hlt | hge
  · exact hlt
  · rw [Nat.testBit_lt_two_pow (Nat.lt_of_lt_of_le h (Nat.pow_le_pow_right (by omega) hge))] at hi
    simp at hi
end Go.Rg
