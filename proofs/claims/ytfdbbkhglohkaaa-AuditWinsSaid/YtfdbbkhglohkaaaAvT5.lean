import Derived.Test.YtfdbbkhglohkaaaAvT4
set_option linter.unusedVariables false
set_option linter.unusedSimpArgs false
namespace Go.Av
open Go Go.Proofs Go.Proofs.Ytfdbbkhglohkaaa
attribute [local simp] Try.underlying22 Try.underlying23 Try.underlying3
set_option maxRecDepth 100000 in
set_option maxHeartbeats 2000000 in
theorem awake44_den (ob : List Ob) : Den Try.prog 16 [] ob (fun r ob' => r = .c (bC true) ∧ ob' = ob) := by
  have c1 : ∀ ob, Den Try.prog 17 [.c (.v (.slice none 0 0)), .c (.sl [iC 3, iC 1] 2 true)] ob (fun r ob' => r = .c (iC 3) ∧ ob' = ob) := fun ob => (fold_den [] [3, 1] ob (by decide)).le (by exact ⟨leM_c (leC_nil _), leM_c (leC_full _ _ _), trivial⟩)
  have c2 : ∀ ob, Den Try.prog 17 [.c (.sl [.sl [iC 0, iC 1] 2 true, .sl [iC (-1), iC 0] 2 true] 2 true), .c (.sl [iC 1, iC 0] 2 true)] ob (fun r ob' => r = .c (iC 0) ∧ ob' = ob) := fun ob => (fold_den [[0, 1], [-1, 0]] [1, 0] ob (by decide)).le (by exact ⟨leM_c (leC_sls ⟨leC_full _ _ _, leC_full _ _ _, trivial⟩), leM_c (leC_full _ _ _), trivial⟩)
  have c3 : ∀ ob, Den Try.prog 23 [.c (.sl [.sl [iC 0, iC 1] 2 true, .sl [iC (-1), iC 0] 2 true] 2 true)] ob (fun r ob' => r = .c (intsC [0]) ∧ ob' = ob) := fun ob => (tops_den [[0, 1], [-1, 0]] ob (by decide)).le (by exact ⟨leM_c (leC_sls ⟨leC_full _ _ _, leC_full _ _ _, trivial⟩), trivial⟩)
  have c4 : ∀ ob, Den Try.prog 22 [.c (intsC [0]), .c (.sl [iC 0] 1 true)] ob (fun r ob' => r = .c (bC true) ∧ ob' = ob) := fun ob => (same_den [0] [0] ob (by decide)).le (by exact ⟨leM_refl _, leM_c (leC_full _ _ _), trivial⟩)
  simp only [iC] at c1 c2 c3 c4
  refine den_of Try.func16 rfl rfl (by simp [Try.ntmps16]) (fun X hX hO => ?_)
  rw [Try.ntmps16] at hX
  simp only [Try.results16]
  repeat' (first 
    | with_reducible refine awp_scope ?_
    | with_reducible refine awp_seq ?_
    | with_reducible refine awp_block ?_
    | (with_reducible refine awp_label ?_; simp only [thenA, inBlockA, noGotoA])
    | (with_reducible refine awp_skip ?_; simp only [thenA, inBlockA, noGotoA])
    | (with_reducible refine awp_exit ?_; simp only [thenA, inBlockA, noGotoA, if_true, Nat.reduceEqDiff, if_false, ↓reduceIte])
    | (with_reducible refine awp_ret ?_; (try simp only [thenA, inBlockA, noGotoA]); (try simp [-getElem?_pos, -getElem?_neg, iC, bC]))
    | (with_reducible refine awp_reg 20 hX [0, 1, 11, 12, 17, 18] ?_; simp [-getElem?_pos, -getElem?_neg, iC, bC])
    | (with_reducible refine awp_drw 20 hX [0, 1, 11, 12, 17, 18] Tab.mixed (by kernel_rfl) ?_; simp [-getElem?_pos, -getElem?_neg, iC, bC])
    | (refine (c1 _).det ?_; try simp [-getElem?_pos, -getElem?_neg, iC, bC])
    | (refine ⟨_, c1 _, ?_⟩; simp [-getElem?_pos, -getElem?_neg, iC, bC])
    | (refine (c2 _).det ?_; try simp [-getElem?_pos, -getElem?_neg, iC, bC])
    | (refine ⟨_, c2 _, ?_⟩; simp [-getElem?_pos, -getElem?_neg, iC, bC])
    | (refine (c3 _).det ?_; try simp [-getElem?_pos, -getElem?_neg, iC, bC])
    | (refine ⟨_, c3 _, ?_⟩; simp [-getElem?_pos, -getElem?_neg, iC, bC])
    | (refine (c4 _).det ?_; try simp [-getElem?_pos, -getElem?_neg, iC, bC])
    | (refine ⟨_, c4 _, ?_⟩; simp [-getElem?_pos, -getElem?_neg, iC, bC])
    | (with_reducible refine awp_if_b rfl (fun hc => ?_) (fun hc => ?_) <;> (try simp [-getElem?_pos, -getElem?_neg] at hc) <;> (try (exfalso; omega)))
    | (with_reducible refine GuardK_b (fun hc => ?_) (fun hc => ?_) <;> (try simp only [Bool.not_eq_true', Bool.not_eq_false', decide_eq_true_eq, decide_eq_false_iff_not] at hc) <;> (first | (exfalso; omega) | skip) <;> simp [-getElem?_pos, -getElem?_neg, iC, bC, hc])
    | (with_reducible refine DGuard_b _ _ _ _ _ _ _ _ (fun hc => ?_) (fun hc => ?_) <;> (try simp only [Bool.not_eq_true', Bool.not_eq_false', decide_eq_true_eq, decide_eq_false_iff_not] at hc) <;> (first | (exfalso; omega) | skip) <;> simp [-getElem?_pos, -getElem?_neg, iC, bC, hc])
    | (refine hother _ _ rfl ?_; simp only [inBlockA, thenA, noGotoA, Nat.reduceEqDiff, if_false, if_true, ↓reduceIte])
    | (refine hother2 _ _ rfl ?_; simp only [inBlockA, thenA, noGotoA, Nat.reduceEqDiff, if_false, if_true, ↓reduceIte])
    | (refine hother3 _ _ rfl ?_; simp only [inBlockA, thenA, noGotoA, Nat.reduceEqDiff, if_false, if_true, ↓reduceIte])
    | (refine And.intro (by omega) ?_)
    | (with_reducible change postOf _ _ _ _; simp [-getElem?_pos, -getElem?_neg, iC, bC])
    | fail)
def foldTopsWant (v : List (List Int)) (m : Nat) : List Int := ((List.range m).filter fun (i : Nat) => decide ((winsTo v i v.length : Int) = v.length - 1)).map Int.ofNat
theorem foldTopsWant_succ (v : List (List Int)) (m : Nat) : foldTopsWant v (m + 1) = foldTopsWant v m ++ if (winsTo v m v.length : Int) = v.length - 1 then [(m : Int)] else [] := by
  unfold foldTopsWant
  rw [List.range_succ, List.filter_append, List.map_append]
  by_cases h : (winsTo v m v.length : Int) = v.length - 1 <;> simp [h]
theorem foldTopsWant_len (v : List (List Int)) (m : Nat) : (foldTopsWant v m).length ≤ m := by
  unfold foldTopsWant
  rw [List.length_map]
  exact Nat.le_trans (List.length_filter_le _ _) (by simp)
theorem wins_all (v : List (List Int)) (i : Nat) (m : Nat) : (winsTo v i m ≤ (if i < m then m - 1 else m)) ∧ ((winsTo v i m = (if i < m then m - 1 else m)) ↔ ∀ k, k < m → k = i ∨ beats v i k = true) := by
  induction m with
  | zero => simp [winsTo]
  | succ m ih =>
    obtain ⟨h1, h2⟩ := ih
    rw [winsTo_succ]
    have hall : (∀ k, k < m + 1 → k = i ∨ beats v i k = true) ↔ (∀ k, k < m → k = i ∨ beats v i k = true) ∧ (m = i ∨ beats v i m = true) :=
      ⟨fun h => ⟨fun k hk => h k (by omega), h m (by omega)⟩, fun ⟨h, h'⟩ k hk => by
        by_cases e : k = m
        · subst e; exact h'
        · exact h k (by omega)⟩
    rw [hall, ← h2]
    by_cases e : m = i
    · subst e
      simp only [Nat.lt_irrefl, if_false] at h1 h2 ⊢
      simp
      exact h1
    · have e' : ¬ (m : Int) = i := by omega
      have el : (i < m + 1) ↔ i < m := by omega
      simp only [e, e', el, decide_false, Bool.not_false, Bool.true_and, false_or]
      cases hb : beats v i m
      · simp only [Bool.false_eq_true, if_false, and_false, iff_false, Nat.add_zero]
        split at h1 <;> rename_i hlt <;> simp only [hlt, if_true, if_false] <;> omega
      · simp only [if_true, and_true]
        split at h1 <;> rename_i hlt <;> simp only [hlt, if_true, if_false] <;> omega
/-- All others are beaten, if and only if as many are beaten as there are others. -/
theorem isTop_wins (v : List (List Int)) (i : Nat) (hi : i < v.length) : isTop v i = decide ((winsTo v i v.length : Int) = v.length - 1) := by
  have h := (wins_all v i v.length).2
  rw [if_pos hi] at h
  rw [Bool.eq_iff_iff, decide_eq_true_eq]
  have e : ((winsTo v i v.length : Int) = v.length - 1) ↔ winsTo v i v.length = v.length - 1 := by omega
  rw [e, h, isTop, List.all_eq_true]
  simp
theorem tops_want (v : List (List Int)) : tops v = foldTopsWant v v.length := by
  unfold tops topsTo foldTopsWant
  congr 1
  refine List.filter_congr fun i hi => ?_
  exact isTop_wins v i (by simpa using hi)
set_option maxRecDepth 100000 in
set_option maxHeartbeats 2000000 in
theorem foldTops_den (v : List (List Int)) (ob : List Ob) : Den Try.prog 4 [.c (rowsC v)] ob (fun r ob' => r = .c (bC true) ∧ ob' = ob) := by
  refine den_of Try.func4 rfl rfl (by simp [Try.ntmps4]) (fun X hX hO => ?_)
  rw [Try.ntmps4] at hX
  simp only [Try.results4]
  repeat' (first 
    | with_reducible refine awp_scope ?_
    | with_reducible refine awp_seq ?_
    | with_reducible refine awp_block ?_
    | (with_reducible refine awp_label ?_; simp only [thenA, inBlockA, noGotoA])
    | (with_reducible refine awp_skip ?_; simp only [thenA, inBlockA, noGotoA])
    | (with_reducible refine awp_exit ?_; simp only [thenA, inBlockA, noGotoA, if_true, Nat.reduceEqDiff, if_false, ↓reduceIte])
    | (with_reducible refine awp_ret ?_; (try simp only [thenA, inBlockA, noGotoA]); (try simp [-getElem?_pos, -getElem?_neg, rowsC, bC, iC]))
    | (with_reducible refine awp_reg 32 hX [0, 2, 3, 4, 6, 11, 17, 20, 28, 29] ?_; simp [-getElem?_pos, -getElem?_neg, rowsC, bC, iC])
    | (with_reducible refine awp_drw 32 hX [0, 2, 3, 4, 6, 11, 17, 20, 28, 29] Tab.mixed (by kernel_rfl) ?_; simp [-getElem?_pos, -getElem?_neg, rowsC, bC, iC])
    | (refine (great_den _ _).det ?_; try simp [-getElem?_pos, -getElem?_neg, rowsC, bC, iC])
    | (refine ⟨_, great_den _ _, ?_⟩; simp [-getElem?_pos, -getElem?_neg, rowsC, bC, iC])
    | (refine (awake44_den _).det ?_; try simp [-getElem?_pos, -getElem?_neg, rowsC, bC, iC])
    | (refine ⟨_, awake44_den _, ?_⟩; simp [-getElem?_pos, -getElem?_neg, rowsC, bC, iC])
    | (with_reducible refine awp_if_b rfl (fun hc => ?_) (fun hc => ?_) <;> (try simp [-getElem?_pos, -getElem?_neg] at hc) <;> (try (exfalso; omega)))
    | (with_reducible refine GuardK_b (fun hc => ?_) (fun hc => ?_) <;> (try simp only [Bool.not_eq_true', Bool.not_eq_false', decide_eq_true_eq, decide_eq_false_iff_not] at hc) <;> (first | (exfalso; omega) | skip) <;> simp [-getElem?_pos, -getElem?_neg, rowsC, bC, iC, hc])
    | (with_reducible refine DGuard_b _ _ _ _ _ _ _ _ (fun hc => ?_) (fun hc => ?_) <;> (try simp only [Bool.not_eq_true', Bool.not_eq_false', decide_eq_true_eq, decide_eq_false_iff_not] at hc) <;> (first | (exfalso; omega) | skip) <;> simp [-getElem?_pos, -getElem?_neg, rowsC, bC, iC, hc])
    | (refine hother _ _ rfl ?_; simp only [inBlockA, thenA, noGotoA, Nat.reduceEqDiff, if_false, if_true, ↓reduceIte])
    | (refine hother2 _ _ rfl ?_; simp only [inBlockA, thenA, noGotoA, Nat.reduceEqDiff, if_false, if_true, ↓reduceIte])
    | (refine hother3 _ _ rfl ?_; simp only [inBlockA, thenA, noGotoA, Nat.reduceEqDiff, if_false, if_true, ↓reduceIte])
    | (refine And.intro (by omega) ?_)
    | (with_reducible change postOf _ _ _ _; simp [-getElem?_pos, -getElem?_neg, rowsC, bC, iC])
    | fail)
  obtain ⟨hv, hr⟩ := great_no v (by assumption)
  refine awp_nil 3 3 1 (by simp) ?_
  simp
  refine awp_for [0, 3, 4] (fun i (p : Nat × Bool) => ⟨[(0, .c (rowsC v)), (3, .ms ob.length p.1 0 (foldTopsWant v i).length), (4, .c (iC i))], ob ++ [⟨3, 1, p.2, p.1, up ((foldTopsWant v i).map iC), none⟩]⟩) (fun i _ => True) v.length (0, true) trivial (by simp [rowsC, foldTopsWant, iC, up]) ?_
  rintro i ⟨g, b⟩ Q1 hi - next hexit
  have hwi := wrap_in ((i : Int) + 1) (by omega)
  have hwv := wrap_in ((v.length : Int) - 1) (by omega)
  have hl : (foldTopsWant v i).length ≤ i := foldTopsWant_len v i
  have hs := foldTopsWant_succ v i
  repeat' (first 
    | with_reducible refine awp_scope ?_
    | with_reducible refine awp_seq ?_
    | with_reducible refine awp_block ?_
    | (with_reducible refine awp_label ?_; simp only [thenA, inBlockA, noGotoA])
    | (with_reducible refine awp_skip ?_; simp only [thenA, inBlockA, noGotoA])
    | (with_reducible refine awp_exit ?_; simp only [thenA, inBlockA, noGotoA, if_true, Nat.reduceEqDiff, if_false, ↓reduceIte])
    | (with_reducible refine awp_ret ?_; (try simp only [thenA, inBlockA, noGotoA]); (try simp [-getElem?_pos, -getElem?_neg, rowsC, iC, bC, hwi, hwv, roomB]))
    | (with_reducible refine awp_reg 32 hX [0, 2, 3, 4, 6, 11, 17, 20, 28, 29] ?_; simp [-getElem?_pos, -getElem?_neg, rowsC, iC, bC, hwi, hwv, roomB])
    | (with_reducible refine awp_drw 32 hX [0, 2, 3, 4, 6, 11, 17, 20, 28, 29] Tab.mixed (by kernel_rfl) ?_; simp [-getElem?_pos, -getElem?_neg, rowsC, iC, bC, hwi, hwv, roomB])
    | (refine (wins_den _ _ _ (by omega)).det ?_; try simp [-getElem?_pos, -getElem?_neg, rowsC, iC, bC, hwi, hwv, roomB])
    | (refine ⟨_, wins_den _ _ _ (by omega), ?_⟩; simp [-getElem?_pos, -getElem?_neg, rowsC, iC, bC, hwi, hwv, roomB])
    | (with_reducible refine awp_if_b rfl (fun hc => ?_) (fun hc => ?_) <;> (try simp [-getElem?_pos, -getElem?_neg] at hc) <;> (try (exfalso; omega)))
    | (with_reducible refine GuardK_b (fun hc => ?_) (fun hc => ?_) <;> (try simp only [Bool.not_eq_true', Bool.not_eq_false', decide_eq_true_eq, decide_eq_false_iff_not] at hc) <;> (first | (exfalso; omega) | skip) <;> simp [-getElem?_pos, -getElem?_neg, rowsC, iC, bC, hwi, hwv, roomB, hc])
    | (with_reducible refine DGuard_b _ _ _ _ _ _ _ _ (fun hc => ?_) (fun hc => ?_) <;> (try simp only [Bool.not_eq_true', Bool.not_eq_false', decide_eq_true_eq, decide_eq_false_iff_not] at hc) <;> (first | (exfalso; omega) | skip) <;> simp [-getElem?_pos, -getElem?_neg, rowsC, iC, bC, hwi, hwv, roomB, hc])
    | (refine hother _ _ rfl ?_; simp only [inBlockA, thenA, noGotoA, Nat.reduceEqDiff, if_false, if_true, ↓reduceIte])
    | (refine hother2 _ _ rfl ?_; simp only [inBlockA, thenA, noGotoA, Nat.reduceEqDiff, if_false, if_true, ↓reduceIte])
    | (refine hother3 _ _ rfl ?_; simp only [inBlockA, thenA, noGotoA, Nat.reduceEqDiff, if_false, if_true, ↓reduceIte])
    | (refine And.intro (by omega) ?_)
    | (with_reducible change postOf _ _ _ _; simp [-getElem?_pos, -getElem?_neg, rowsC, iC, bC, hwi, hwv, roomB])
    | fail)
  · refine next _ (g + 1, false) (by omega) trivial ?_; simp_all [rowsC, iC]
  · refine next _ (g, b) (by omega) trivial ?_; simp_all [rowsC, iC]
  · refine hexit _ _ rfl ?_
    simp only [inBlockA, thenA, ↓reduceIte]
    refine awp_frz 3 ob [] _ ((foldTopsWant v i).map iC) _ hO rfl rfl rfl (by simp [ltB]) (by simp) ?_
    have e : i = v.length := by omega
    subst e
    have hw : tops v = foldTopsWant v v.length := tops_want v
    repeat' (first 
      | with_reducible refine awp_scope ?_
      | with_reducible refine awp_seq ?_
      | with_reducible refine awp_block ?_
      | (with_reducible refine awp_label ?_; simp only [thenA, inBlockA, noGotoA])
      | (with_reducible refine awp_skip ?_; simp only [thenA, inBlockA, noGotoA])
      | (with_reducible refine awp_exit ?_; simp only [thenA, inBlockA, noGotoA, if_true, Nat.reduceEqDiff, if_false, ↓reduceIte])
      | (with_reducible refine awp_ret ?_; (try simp only [thenA, inBlockA, noGotoA]); (try simp [-getElem?_pos, -getElem?_neg, rowsC, iC, bC, hw]))
      | (with_reducible refine awp_reg 32 hX [0, 2, 3, 4, 6, 11, 17, 20, 28, 29] ?_; simp [-getElem?_pos, -getElem?_neg, rowsC, iC, bC, hw])
      | (with_reducible refine awp_drw 32 hX [0, 2, 3, 4, 6, 11, 17, 20, 28, 29] Tab.mixed (by kernel_rfl) ?_; simp [-getElem?_pos, -getElem?_neg, rowsC, iC, bC, hw])
      | (refine (tops_den _ _ (by omega)).det ?_; try simp [-getElem?_pos, -getElem?_neg, rowsC, iC, bC, hw])
      | (refine ⟨_, tops_den _ _ (by omega), ?_⟩; simp [-getElem?_pos, -getElem?_neg, rowsC, iC, bC, hw])
      | (refine (same_den _ _ _ (by omega)).det ?_; try simp [-getElem?_pos, -getElem?_neg, rowsC, iC, bC, hw])
      | (refine ⟨_, same_den _ _ _ (by omega), ?_⟩; simp [-getElem?_pos, -getElem?_neg, rowsC, iC, bC, hw])
      | (refine (awake44_den _).det ?_; try simp [-getElem?_pos, -getElem?_neg, rowsC, iC, bC, hw])
      | (refine ⟨_, awake44_den _, ?_⟩; simp [-getElem?_pos, -getElem?_neg, rowsC, iC, bC, hw])
      | (with_reducible refine awp_if_b rfl (fun hc => ?_) (fun hc => ?_) <;> (try simp [-getElem?_pos, -getElem?_neg] at hc) <;> (try (exfalso; omega)))
      | (with_reducible refine GuardK_b (fun hc => ?_) (fun hc => ?_) <;> (try simp only [Bool.not_eq_true', Bool.not_eq_false', decide_eq_true_eq, decide_eq_false_iff_not] at hc) <;> (first | (exfalso; omega) | skip) <;> simp [-getElem?_pos, -getElem?_neg, rowsC, iC, bC, hw, hc])
      | (with_reducible refine DGuard_b _ _ _ _ _ _ _ _ (fun hc => ?_) (fun hc => ?_) <;> (try simp only [Bool.not_eq_true', Bool.not_eq_false', decide_eq_true_eq, decide_eq_false_iff_not] at hc) <;> (first | (exfalso; omega) | skip) <;> simp [-getElem?_pos, -getElem?_neg, rowsC, iC, bC, hw, hc])
      | (refine hother _ _ rfl ?_; simp only [inBlockA, thenA, noGotoA, Nat.reduceEqDiff, if_false, if_true, ↓reduceIte])
      | (refine hother2 _ _ rfl ?_; simp only [inBlockA, thenA, noGotoA, Nat.reduceEqDiff, if_false, if_true, ↓reduceIte])
      | (refine hother3 _ _ rfl ?_; simp only [inBlockA, thenA, noGotoA, Nat.reduceEqDiff, if_false, if_true, ↓reduceIte])
      | (refine And.intro (by omega) ?_)
      | (with_reducible change postOf _ _ _ _; simp [-getElem?_pos, -getElem?_neg, rowsC, iC, bC, hw])
      | fail)
end Go.Av
