import Derived.Test.YtfdbbkhglohkaaaAvT5
set_option linter.unusedVariables false
set_option linter.unusedSimpArgs false
namespace Go.Av
open Go Go.Proofs Go.Proofs.Ytfdbbkhglohkaaa
attribute [local simp] Try.underlying22 Try.underlying23 Try.underlying3 Try.underlying24 Try.underlying4
theorem Den.drop {P : Program} {f : FuncId} {args : List M} {ob : List Ob} {Q Q' : M → List Ob → Prop} (h : Den P f args ob Q)
    (hq : ∀ r ob', Q r ob' → ∃ (ext : List Ob) (c : C), r = .c c ∧ ob' = ob ++ ext ∧ Q' (.c c) ob) : Den P f args ob Q' := by
  refine ⟨h.1, fun w E vals h1 h2 h3 => (h.2 w E vals h1 h2 h3).mono ?_⟩
  rintro e w' ⟨v, r, ob', E', rfl, q, hr, hs⟩
  obtain ⟨ext, c, rfl, rfl, hq'⟩ := hq r ob' q
  refine ⟨v, _, ob, _, rfl, hq', ?_, step_give h3 hs⟩
  cases hr with
  | c hc => exact .c (hc.keep fun b hb => ⟨.inl hb, rfl⟩)
set_option maxRecDepth 100000 in
set_option maxHeartbeats 2000000 in
theorem foldFolds_den (v : List (List Int)) (o : List Int) (k0 k1 : Int) (ob : List Ob) : Den Try.prog 3 [.c (rowsC v), .c (intsC o), .agg [.c (iC k0), .c (iC k1)]] ob (fun r ob' => r = .c (bC true) ∧ ob' = ob) := by
  refine Den.drop (Q := fun r ob' => r = .c (bC true) ∧ ∃ e, ob' = ob ++ e) ?_ (fun r ob' ⟨h1, e, h2⟩ => ⟨e, _, h1, h2, rfl, rfl⟩)
  refine den_of Try.func3 rfl rfl (by simp [Try.ntmps3]) (fun X hX hO => ?_)
  rw [Try.ntmps3] at hX
  simp only [Try.results3]
  repeat' (first 
    | with_reducible refine awp_scope ?_
    | with_reducible refine awp_seq ?_
    | with_reducible refine awp_block ?_
    | (with_reducible refine awp_label ?_; simp only [thenA, inBlockA, noGotoA])
    | (with_reducible refine awp_skip ?_; simp only [thenA, inBlockA, noGotoA])
    | (with_reducible refine awp_exit ?_; simp only [thenA, inBlockA, noGotoA, if_true, Nat.reduceEqDiff, if_false, ↓reduceIte])
    | (with_reducible refine awp_ret ?_; (try simp only [thenA, inBlockA, noGotoA]); (try simp [-getElem?_pos, -getElem?_neg, List.getElem?_cons_zero, List.getElem?_cons_succ, rowsC, intsC, bC, iC]))
    | (with_reducible refine awp_reg 40 hX [0, 1, 2, 5, 6, 13, 20, 21, 29, 34, 35, 36] ?_; simp [-getElem?_pos, -getElem?_neg, List.getElem?_cons_zero, List.getElem?_cons_succ, rowsC, intsC, bC, iC])
    | (with_reducible refine awp_drw 40 hX [0, 1, 2, 5, 6, 13, 20, 21, 29, 34, 35, 36] Tab.mixed (by kernel_rfl) ?_; simp [-getElem?_pos, -getElem?_neg, List.getElem?_cons_zero, List.getElem?_cons_succ, rowsC, intsC, bC, iC])
    | (refine (great_den _ _).det ?_; try simp [-getElem?_pos, -getElem?_neg, List.getElem?_cons_zero, List.getElem?_cons_succ, rowsC, intsC, bC, iC])
    | (refine ⟨_, great_den _ _, ?_⟩; simp [-getElem?_pos, -getElem?_neg, List.getElem?_cons_zero, List.getElem?_cons_succ, rowsC, intsC, bC, iC])
    | (refine (awake44_den _).det ?_; try simp [-getElem?_pos, -getElem?_neg, List.getElem?_cons_zero, List.getElem?_cons_succ, rowsC, intsC, bC, iC])
    | (refine ⟨_, awake44_den _, ?_⟩; simp [-getElem?_pos, -getElem?_neg, List.getElem?_cons_zero, List.getElem?_cons_succ, rowsC, intsC, bC, iC])
    | (refine (fold_den _ _ _ (by omega)).det ?_; try simp [-getElem?_pos, -getElem?_neg, List.getElem?_cons_zero, List.getElem?_cons_succ, rowsC, intsC, bC, iC])
    | (refine ⟨_, fold_den _ _ _ (by omega), ?_⟩; simp [-getElem?_pos, -getElem?_neg, List.getElem?_cons_zero, List.getElem?_cons_succ, rowsC, intsC, bC, iC])
    | (refine (fold40_den _ _ _ (by omega)).det ?_; try simp [-getElem?_pos, -getElem?_neg, List.getElem?_cons_zero, List.getElem?_cons_succ, rowsC, intsC, bC, iC])
    | (refine ⟨_, fold40_den _ _ _ (by omega), ?_⟩; simp [-getElem?_pos, -getElem?_neg, List.getElem?_cons_zero, List.getElem?_cons_succ, rowsC, intsC, bC, iC])
    | (refine (beats_den _ _ _ _).det ?_; try simp [-getElem?_pos, -getElem?_neg, List.getElem?_cons_zero, List.getElem?_cons_succ, rowsC, intsC, bC, iC])
    | (refine ⟨_, beats_den _ _ _ _, ?_⟩; simp [-getElem?_pos, -getElem?_neg, List.getElem?_cons_zero, List.getElem?_cons_succ, rowsC, intsC, bC, iC])
    | (refine (beats40_den _ _ _ _).det ?_; try simp [-getElem?_pos, -getElem?_neg, List.getElem?_cons_zero, List.getElem?_cons_succ, rowsC, intsC, bC, iC])
    | (refine ⟨_, beats40_den _ _ _ _, ?_⟩; simp [-getElem?_pos, -getElem?_neg, List.getElem?_cons_zero, List.getElem?_cons_succ, rowsC, intsC, bC, iC])
    | (with_reducible refine awp_if_b rfl (fun hc => ?_) (fun hc => ?_) <;> (try simp [-getElem?_pos, -getElem?_neg] at hc) <;> (try (exfalso; omega)))
    | (with_reducible refine GuardK_b (fun hc => ?_) (fun hc => ?_) <;> (try simp only [Bool.not_eq_true', Bool.not_eq_false', decide_eq_true_eq, decide_eq_false_iff_not] at hc) <;> (first | (exfalso; omega) | skip) <;> simp [-getElem?_pos, -getElem?_neg, List.getElem?_cons_zero, List.getElem?_cons_succ, rowsC, intsC, bC, iC, hc])
    | (with_reducible refine DGuard_b _ _ _ _ _ _ _ _ (fun hc => ?_) (fun hc => ?_) <;> (try simp only [Bool.not_eq_true', Bool.not_eq_false', decide_eq_true_eq, decide_eq_false_iff_not] at hc) <;> (first | (exfalso; omega) | skip) <;> simp [-getElem?_pos, -getElem?_neg, List.getElem?_cons_zero, List.getElem?_cons_succ, rowsC, intsC, bC, iC, hc])
    | (refine hother _ _ rfl ?_; simp only [inBlockA, thenA, noGotoA, Nat.reduceEqDiff, if_false, if_true, ↓reduceIte])
    | (refine hother2 _ _ rfl ?_; simp only [inBlockA, thenA, noGotoA, Nat.reduceEqDiff, if_false, if_true, ↓reduceIte])
    | (refine hother3 _ _ rfl ?_; simp only [inBlockA, thenA, noGotoA, Nat.reduceEqDiff, if_false, if_true, ↓reduceIte])
    | (refine And.intro (by omega) ?_)
    | (with_reducible change postOf _ _ _ _; simp [-getElem?_pos, -getElem?_neg, List.getElem?_cons_zero, List.getElem?_cons_succ, rowsC, intsC, bC, iC])
    | fail)
/-- One that beats all others and that nobody beats is left, if it comes. -/
theorem fold_best (v : List (List Int)) (o : List Int) (t : Int) (h0 : 0 ≤ t) (h1 : t < v.length) (ht : isTop v t.toNat = true)
    (ho : ∀ (j : Nat) x, o[j]? = some x → 0 ≤ x ∧ x < v.length ∧ (x = t ∨ beats v x t = false)) (m : Nat) (hm : m ≤ o.length) :
    (t ∈ o.take m → foldTo v o m = t) ∧ (0 < m → 0 ≤ foldTo v o m ∧ foldTo v o m < v.length) := by
  have hb : ∀ x : Int, 0 ≤ x → x < v.length → x ≠ t → beats v t x = true := fun x hx0 hx1 hne => by
    have h := List.all_eq_true.1 ht x.toNat (by simp; omega)
    simp only [Bool.or_eq_true, decide_eq_true_eq] at h
    rcases h with h | h
    · omega
    · have e1 : ((t.toNat : Nat) : Int) = t := by omega
      have e2 : ((x.toNat : Nat) : Int) = x := by omega
      rw [e1, e2] at h
      exact h
  induction m with
  | zero => simp
  | succ m ih =>
    obtain ⟨i1, i2⟩ := ih (by omega)
    obtain ⟨x, hx⟩ := getI o (m : Nat) (by omega) (by omega)
    simp only [Int.toNat_natCast] at hx
    obtain ⟨x0, x1, x2⟩ := ho m x hx
    have e : foldTo v o (m + 1) = if m = 0 ∨ beats v x (foldTo v o m) = true then x else foldTo v o m := by rw [foldTo]; simp [hx]
    rw [e]
    refine ⟨fun hmem => ?_, fun _ => ?_⟩
    · rw [List.take_add_one, hx] at hmem
      simp only [Option.toList_some, List.mem_append, List.mem_singleton] at hmem
      by_cases hxt : x = t
      · subst hxt
        split
        · rfl
        · rename_i hn
          simp only [not_or] at hn
          obtain ⟨n1, n2⟩ := hn
          obtain ⟨j1, j2⟩ := i2 (by omega)
          apply Classical.byContradiction
          intro hne
          exact n2 (hb _ j1 j2 hne)
      · have hin : t ∈ o.take m := by
          rcases hmem with h | h
          · exact h
          · exact absurd h.symm hxt
        have hl := i1 hin
        have hpos : ¬ m = 0 := fun h => by subst h; simp at hin
        rw [hl]
        have hnb : beats v x t = false := by
          rcases x2 with h | h
          · exact absurd h hxt
          · exact h
        simp [hpos, hnb]
    · split
      · exact ⟨x0, x1⟩
      · rename_i hn
        exact i2 (by omega)
theorem tops_get (v : List (List Int)) (n : Nat) (t : Int) (h : (tops v)[n]? = some t) : 0 ≤ t ∧ t < v.length ∧ isTop v t.toNat = true := by
  have hm := List.mem_of_getElem? h
  unfold tops topsTo at hm
  simp only [List.mem_map, List.mem_filter, List.mem_range] at hm
  obtain ⟨a, ⟨ha, hb⟩, rfl⟩ := hm
  refine ⟨by simp, by simp; omega, by simpa using hb⟩
set_option maxRecDepth 100000 in
set_option maxHeartbeats 4000000 in
theorem foldBest_den (v : List (List Int)) (o : List Int) (ob : List Ob) : Den Try.prog 5 [.c (rowsC v), .c (intsC o)] ob (fun r ob' => r = .c (bC true) ∧ ob' = ob) := by
  refine den_of Try.func5 rfl rfl (by simp [Try.ntmps5]) (fun X hX hO => ?_)
  rw [Try.ntmps5] at hX
  simp only [Try.results5]
  by_cases hg : great v = true
  · repeat' (first 
      | with_reducible refine awp_scope ?_
      | with_reducible refine awp_seq ?_
      | with_reducible refine awp_block ?_
      | (with_reducible refine awp_label ?_; simp only [thenA, inBlockA, noGotoA])
      | (with_reducible refine awp_skip ?_; simp only [thenA, inBlockA, noGotoA])
      | (with_reducible refine awp_exit ?_; simp only [thenA, inBlockA, noGotoA, if_true, Nat.reduceEqDiff, if_false, ↓reduceIte])
      | (with_reducible refine awp_ret ?_; (try simp only [thenA, inBlockA, noGotoA]); (try simp [-getElem?_pos, -getElem?_neg, List.getElem?_cons_zero, List.getElem?_cons_succ, rowsC, intsC, bC, iC, hg]))
      | (with_reducible refine awp_reg 86 hX [0, 1, 4, 5, 6, 7, 8, 9, 16, 23, 28, 33, 40, 47, 48, 53, 54, 55, 56, 57, 58, 60, 62, 63, 64, 65, 70, 75, 84] ?_; simp [-getElem?_pos, -getElem?_neg, List.getElem?_cons_zero, List.getElem?_cons_succ, rowsC, intsC, bC, iC, hg])
      | (with_reducible refine awp_drw 86 hX [0, 1, 4, 5, 6, 7, 8, 9, 16, 23, 28, 33, 40, 47, 48, 53, 54, 55, 56, 57, 58, 60, 62, 63, 64, 65, 70, 75, 84] Tab.mixed (by kernel_rfl) ?_; simp [-getElem?_pos, -getElem?_neg, List.getElem?_cons_zero, List.getElem?_cons_succ, rowsC, intsC, bC, iC, hg])
      | (refine (great_den _ _).det ?_; try simp [-getElem?_pos, -getElem?_neg, List.getElem?_cons_zero, List.getElem?_cons_succ, rowsC, intsC, bC, iC, hg])
      | (refine ⟨_, great_den _ _, ?_⟩; simp [-getElem?_pos, -getElem?_neg, List.getElem?_cons_zero, List.getElem?_cons_succ, rowsC, intsC, bC, iC, hg])
      | (refine (awake44_den _).det ?_; try simp [-getElem?_pos, -getElem?_neg, List.getElem?_cons_zero, List.getElem?_cons_succ, rowsC, intsC, bC, iC, hg])
      | (refine ⟨_, awake44_den _, ?_⟩; simp [-getElem?_pos, -getElem?_neg, List.getElem?_cons_zero, List.getElem?_cons_succ, rowsC, intsC, bC, iC, hg])
      | (with_reducible refine awp_if_b rfl (fun hc => ?_) (fun hc => ?_) <;> (try simp [-getElem?_pos, -getElem?_neg] at hc) <;> (try (exfalso; omega)))
      | (with_reducible refine GuardK_b (fun hc => ?_) (fun hc => ?_) <;> (try simp only [Bool.not_eq_true', Bool.not_eq_false', decide_eq_true_eq, decide_eq_false_iff_not] at hc) <;> (first | (exfalso; omega) | skip) <;> simp [-getElem?_pos, -getElem?_neg, List.getElem?_cons_zero, List.getElem?_cons_succ, rowsC, intsC, bC, iC, hg, hc])
      | (with_reducible refine DGuard_b _ _ _ _ _ _ _ _ (fun hc => ?_) (fun hc => ?_) <;> (try simp only [Bool.not_eq_true', Bool.not_eq_false', decide_eq_true_eq, decide_eq_false_iff_not] at hc) <;> (first | (exfalso; omega) | skip) <;> simp [-getElem?_pos, -getElem?_neg, List.getElem?_cons_zero, List.getElem?_cons_succ, rowsC, intsC, bC, iC, hg, hc])
      | (refine hother _ _ rfl ?_; simp only [inBlockA, thenA, noGotoA, Nat.reduceEqDiff, if_false, if_true, ↓reduceIte])
      | (refine hother2 _ _ rfl ?_; simp only [inBlockA, thenA, noGotoA, Nat.reduceEqDiff, if_false, if_true, ↓reduceIte])
      | (refine hother3 _ _ rfl ?_; simp only [inBlockA, thenA, noGotoA, Nat.reduceEqDiff, if_false, if_true, ↓reduceIte])
      | (refine And.intro (by omega) ?_)
      | (with_reducible change postOf _ _ _ _; simp [-getElem?_pos, -getElem?_neg, List.getElem?_cons_zero, List.getElem?_cons_succ, rowsC, intsC, bC, iC, hg])
      | fail)
  by_cases hol : 100 < o.length
  · repeat' (first 
      | with_reducible refine awp_scope ?_
      | with_reducible refine awp_seq ?_
      | with_reducible refine awp_block ?_
      | (with_reducible refine awp_label ?_; simp only [thenA, inBlockA, noGotoA])
      | (with_reducible refine awp_skip ?_; simp only [thenA, inBlockA, noGotoA])
      | (with_reducible refine awp_exit ?_; simp only [thenA, inBlockA, noGotoA, if_true, Nat.reduceEqDiff, if_false, ↓reduceIte])
      | (with_reducible refine awp_ret ?_; (try simp only [thenA, inBlockA, noGotoA]); (try simp [-getElem?_pos, -getElem?_neg, List.getElem?_cons_zero, List.getElem?_cons_succ, rowsC, intsC, bC, iC, hg, hol]))
      | (with_reducible refine awp_reg 86 hX [0, 1, 4, 5, 6, 7, 8, 9, 16, 23, 28, 33, 40, 47, 48, 53, 54, 55, 56, 57, 58, 60, 62, 63, 64, 65, 70, 75, 84] ?_; simp [-getElem?_pos, -getElem?_neg, List.getElem?_cons_zero, List.getElem?_cons_succ, rowsC, intsC, bC, iC, hg, hol])
      | (with_reducible refine awp_drw 86 hX [0, 1, 4, 5, 6, 7, 8, 9, 16, 23, 28, 33, 40, 47, 48, 53, 54, 55, 56, 57, 58, 60, 62, 63, 64, 65, 70, 75, 84] Tab.mixed (by kernel_rfl) ?_; simp [-getElem?_pos, -getElem?_neg, List.getElem?_cons_zero, List.getElem?_cons_succ, rowsC, intsC, bC, iC, hg, hol])
      | (refine (great_den _ _).det ?_; try simp [-getElem?_pos, -getElem?_neg, List.getElem?_cons_zero, List.getElem?_cons_succ, rowsC, intsC, bC, iC, hg, hol])
      | (refine ⟨_, great_den _ _, ?_⟩; simp [-getElem?_pos, -getElem?_neg, List.getElem?_cons_zero, List.getElem?_cons_succ, rowsC, intsC, bC, iC, hg, hol])
      | (refine (awake44_den _).det ?_; try simp [-getElem?_pos, -getElem?_neg, List.getElem?_cons_zero, List.getElem?_cons_succ, rowsC, intsC, bC, iC, hg, hol])
      | (refine ⟨_, awake44_den _, ?_⟩; simp [-getElem?_pos, -getElem?_neg, List.getElem?_cons_zero, List.getElem?_cons_succ, rowsC, intsC, bC, iC, hg, hol])
      | (with_reducible refine awp_if_b rfl (fun hc => ?_) (fun hc => ?_) <;> (try simp [-getElem?_pos, -getElem?_neg] at hc) <;> (try (exfalso; omega)))
      | (with_reducible refine GuardK_b (fun hc => ?_) (fun hc => ?_) <;> (try simp only [Bool.not_eq_true', Bool.not_eq_false', decide_eq_true_eq, decide_eq_false_iff_not] at hc) <;> (first | (exfalso; omega) | skip) <;> simp [-getElem?_pos, -getElem?_neg, List.getElem?_cons_zero, List.getElem?_cons_succ, rowsC, intsC, bC, iC, hg, hol, hc])
      | (with_reducible refine DGuard_b _ _ _ _ _ _ _ _ (fun hc => ?_) (fun hc => ?_) <;> (try simp only [Bool.not_eq_true', Bool.not_eq_false', decide_eq_true_eq, decide_eq_false_iff_not] at hc) <;> (first | (exfalso; omega) | skip) <;> simp [-getElem?_pos, -getElem?_neg, List.getElem?_cons_zero, List.getElem?_cons_succ, rowsC, intsC, bC, iC, hg, hol, hc])
      | (refine hother _ _ rfl ?_; simp only [inBlockA, thenA, noGotoA, Nat.reduceEqDiff, if_false, if_true, ↓reduceIte])
      | (refine hother2 _ _ rfl ?_; simp only [inBlockA, thenA, noGotoA, Nat.reduceEqDiff, if_false, if_true, ↓reduceIte])
      | (refine hother3 _ _ rfl ?_; simp only [inBlockA, thenA, noGotoA, Nat.reduceEqDiff, if_false, if_true, ↓reduceIte])
      | (refine And.intro (by omega) ?_)
      | (with_reducible change postOf _ _ _ _; simp [-getElem?_pos, -getElem?_neg, List.getElem?_cons_zero, List.getElem?_cons_succ, rowsC, intsC, bC, iC, hg, hol])
      | fail)
  obtain ⟨hv, hr⟩ := great_no v (by simpa using hg)
  have htl : (tops v).length ≤ v.length := topsTo_len v _
  repeat' (first 
    | with_reducible refine awp_scope ?_
    | with_reducible refine awp_seq ?_
    | with_reducible refine awp_block ?_
    | (with_reducible refine awp_label ?_; simp only [thenA, inBlockA, noGotoA])
    | (with_reducible refine awp_skip ?_; simp only [thenA, inBlockA, noGotoA])
    | (with_reducible refine awp_exit ?_; simp only [thenA, inBlockA, noGotoA, if_true, Nat.reduceEqDiff, if_false, ↓reduceIte])
    | (with_reducible refine awp_ret ?_; (try simp only [thenA, inBlockA, noGotoA]); (try simp [-getElem?_pos, -getElem?_neg, List.getElem?_cons_zero, List.getElem?_cons_succ, rowsC, intsC, bC, iC, hg, hol]))
    | (with_reducible refine awp_reg 86 hX [0, 1, 4, 5, 6, 7, 8, 9, 16, 23, 28, 33, 40, 47, 48, 53, 54, 55, 56, 57, 58, 60, 62, 63, 64, 65, 70, 75, 84] ?_; simp [-getElem?_pos, -getElem?_neg, List.getElem?_cons_zero, List.getElem?_cons_succ, rowsC, intsC, bC, iC, hg, hol])
    | (with_reducible refine awp_drw 86 hX [0, 1, 4, 5, 6, 7, 8, 9, 16, 23, 28, 33, 40, 47, 48, 53, 54, 55, 56, 57, 58, 60, 62, 63, 64, 65, 70, 75, 84] Tab.mixed (by kernel_rfl) ?_; simp [-getElem?_pos, -getElem?_neg, List.getElem?_cons_zero, List.getElem?_cons_succ, rowsC, intsC, bC, iC, hg, hol])
    | (refine (great_den _ _).det ?_; try simp [-getElem?_pos, -getElem?_neg, List.getElem?_cons_zero, List.getElem?_cons_succ, rowsC, intsC, bC, iC, hg, hol])
    | (refine ⟨_, great_den _ _, ?_⟩; simp [-getElem?_pos, -getElem?_neg, List.getElem?_cons_zero, List.getElem?_cons_succ, rowsC, intsC, bC, iC, hg, hol])
    | (refine (awake44_den _).det ?_; try simp [-getElem?_pos, -getElem?_neg, List.getElem?_cons_zero, List.getElem?_cons_succ, rowsC, intsC, bC, iC, hg, hol])
    | (refine ⟨_, awake44_den _, ?_⟩; simp [-getElem?_pos, -getElem?_neg, List.getElem?_cons_zero, List.getElem?_cons_succ, rowsC, intsC, bC, iC, hg, hol])
    | (refine (tops_den _ _ (by omega)).det ?_; try simp [-getElem?_pos, -getElem?_neg, List.getElem?_cons_zero, List.getElem?_cons_succ, rowsC, intsC, bC, iC, hg, hol])
    | (refine ⟨_, tops_den _ _ (by omega), ?_⟩; simp [-getElem?_pos, -getElem?_neg, List.getElem?_cons_zero, List.getElem?_cons_succ, rowsC, intsC, bC, iC, hg, hol])
    | (with_reducible refine awp_if_b rfl (fun hc => ?_) (fun hc => ?_) <;> (try simp [-getElem?_pos, -getElem?_neg] at hc) <;> (try (exfalso; omega)))
    | (with_reducible refine GuardK_b (fun hc => ?_) (fun hc => ?_) <;> (try simp only [Bool.not_eq_true', Bool.not_eq_false', decide_eq_true_eq, decide_eq_false_iff_not] at hc) <;> (first | (exfalso; omega) | skip) <;> simp [-getElem?_pos, -getElem?_neg, List.getElem?_cons_zero, List.getElem?_cons_succ, rowsC, intsC, bC, iC, hg, hol, hc])
    | (with_reducible refine DGuard_b _ _ _ _ _ _ _ _ (fun hc => ?_) (fun hc => ?_) <;> (try simp only [Bool.not_eq_true', Bool.not_eq_false', decide_eq_true_eq, decide_eq_false_iff_not] at hc) <;> (first | (exfalso; omega) | skip) <;> simp [-getElem?_pos, -getElem?_neg, List.getElem?_cons_zero, List.getElem?_cons_succ, rowsC, intsC, bC, iC, hg, hol, hc])
    | (refine hother _ _ rfl ?_; simp only [inBlockA, thenA, noGotoA, Nat.reduceEqDiff, if_false, if_true, ↓reduceIte])
    | (refine hother2 _ _ rfl ?_; simp only [inBlockA, thenA, noGotoA, Nat.reduceEqDiff, if_false, if_true, ↓reduceIte])
    | (refine hother3 _ _ rfl ?_; simp only [inBlockA, thenA, noGotoA, Nat.reduceEqDiff, if_false, if_true, ↓reduceIte])
    | (refine And.intro (by omega) ?_)
    | (with_reducible change postOf _ _ _ _; simp [-getElem?_pos, -getElem?_neg, List.getElem?_cons_zero, List.getElem?_cons_succ, rowsC, intsC, bC, iC, hg, hol])
    | fail)
  refine awp_for [0, 1, 5, 6] (fun n (_ : Unit) => ⟨[(0, .c (rowsC v)), (1, .c (intsC o)), (5, .c (intsC (tops v))), (6, .c (iC n))], ob⟩) (fun _ _ => True) (tops v).length () trivial (by simp [rowsC, intsC, iC]) ?_
  rintro n - Q1 hn - next hother
  have hwn := wrap_in ((n : Int) + 1) (by omega)
  by_cases hlt : n < (tops v).length
  · obtain ⟨t, ht⟩ := getI (tops v) (n : Nat) (by omega) (by omega)
    simp only [Int.toNat_natCast] at ht
    obtain ⟨t0, t1, t2⟩ := tops_get v n t ht
    repeat' (first 
      | with_reducible refine awp_scope ?_
      | with_reducible refine awp_seq ?_
      | with_reducible refine awp_block ?_
      | (with_reducible refine awp_label ?_; simp only [thenA, inBlockA, noGotoA])
      | (with_reducible refine awp_skip ?_; simp only [thenA, inBlockA, noGotoA])
      | (with_reducible refine awp_exit ?_; simp only [thenA, inBlockA, noGotoA, if_true, Nat.reduceEqDiff, if_false, ↓reduceIte])
      | (with_reducible refine awp_ret ?_; (try simp only [thenA, inBlockA, noGotoA]); (try simp [-getElem?_pos, -getElem?_neg, List.getElem?_cons_zero, List.getElem?_cons_succ, rowsC, intsC, bC, iC, hlt, ht]))
      | (with_reducible refine awp_reg 86 hX [0, 1, 4, 5, 6, 7, 8, 9, 16, 23, 28, 33, 40, 47, 48, 53, 54, 55, 56, 57, 58, 60, 62, 63, 64, 65, 70, 75, 84] ?_; simp [-getElem?_pos, -getElem?_neg, List.getElem?_cons_zero, List.getElem?_cons_succ, rowsC, intsC, bC, iC, hlt, ht])
      | (with_reducible refine awp_drw 86 hX [0, 1, 4, 5, 6, 7, 8, 9, 16, 23, 28, 33, 40, 47, 48, 53, 54, 55, 56, 57, 58, 60, 62, 63, 64, 65, 70, 75, 84] Tab.mixed (by kernel_rfl) ?_; simp [-getElem?_pos, -getElem?_neg, List.getElem?_cons_zero, List.getElem?_cons_succ, rowsC, intsC, bC, iC, hlt, ht])
      | (with_reducible refine awp_if_b rfl (fun hc => ?_) (fun hc => ?_) <;> (try simp [-getElem?_pos, -getElem?_neg] at hc) <;> (try (exfalso; omega)))
      | (with_reducible refine GuardK_b (fun hc => ?_) (fun hc => ?_) <;> (try simp only [Bool.not_eq_true', Bool.not_eq_false', decide_eq_true_eq, decide_eq_false_iff_not] at hc) <;> (first | (exfalso; omega) | skip) <;> simp [-getElem?_pos, -getElem?_neg, List.getElem?_cons_zero, List.getElem?_cons_succ, rowsC, intsC, bC, iC, hlt, ht, hc])
      | (with_reducible refine DGuard_b _ _ _ _ _ _ _ _ (fun hc => ?_) (fun hc => ?_) <;> (try simp only [Bool.not_eq_true', Bool.not_eq_false', decide_eq_true_eq, decide_eq_false_iff_not] at hc) <;> (first | (exfalso; omega) | skip) <;> simp [-getElem?_pos, -getElem?_neg, List.getElem?_cons_zero, List.getElem?_cons_succ, rowsC, intsC, bC, iC, hlt, ht, hc])
      | (refine hother _ _ rfl ?_; simp only [inBlockA, thenA, noGotoA, Nat.reduceEqDiff, if_false, if_true, ↓reduceIte])
      | (refine hother2 _ _ rfl ?_; simp only [inBlockA, thenA, noGotoA, Nat.reduceEqDiff, if_false, if_true, ↓reduceIte])
      | (refine hother3 _ _ rfl ?_; simp only [inBlockA, thenA, noGotoA, Nat.reduceEqDiff, if_false, if_true, ↓reduceIte])
      | (refine And.intro (by omega) ?_)
      | (with_reducible change postOf _ _ _ _; simp [-getElem?_pos, -getElem?_neg, List.getElem?_cons_zero, List.getElem?_cons_succ, rowsC, intsC, bC, iC, hlt, ht])
      | fail)
    refine awp_for [0, 1, 5, 6, 7, 8, 9] (fun i (_ : Unit) => ⟨[(0, .c (rowsC v)), (1, .c (intsC o)), (5, .c (intsC (tops v))), (6, .c (iC n)), (7, .c (iC t)), (8, .c (bC (decide (t ∈ o.take i)))), (9, .c (iC i))], ob⟩)
      (fun i _ => ∀ (j : Nat) x, j < i → o[j]? = some x → 0 ≤ x ∧ x < v.length ∧ (x = t ∨ beats v x t = false)) o.length () (by intro j x hj; omega) (by simp [rowsC, intsC, iC, bC]) ?_
    rintro i - Q2 hi hH next2 hother2
    have hwi := wrap_in ((i : Int) + 1) (by omega)
    by_cases hil : i < o.length
    · obtain ⟨x, hx⟩ := getI o (i : Nat) (by omega) (by omega)
      simp only [Int.toNat_natCast] at hx
      have hmem : decide (t ∈ o.take (i + 1)) = (decide (t ∈ o.take i) || decide (x = t)) := by
        rw [List.take_add_one, hx]
        simp [eq_comm]
      generalize hb : decide (t ∈ o.take i) = b at hmem
      have nxt : (0 ≤ x ∧ x < v.length ∧ (x = t ∨ beats v x t = false)) → ∀ (j : Nat) y, j < i + 1 → o[j]? = some y → 0 ≤ y ∧ y < v.length ∧ (y = t ∨ beats v y t = false) := fun h j y hj hy => by
        by_cases e : j = i
        · subst e
          rw [hx] at hy
          obtain rfl := Option.some.inj hy
          exact h
        · exact hH j y (by omega) hy
      repeat' (first 
        | with_reducible refine awp_scope ?_
        | with_reducible refine awp_seq ?_
        | with_reducible refine awp_block ?_
        | (with_reducible refine awp_label ?_; simp only [thenA, inBlockA, noGotoA])
        | (with_reducible refine awp_skip ?_; simp only [thenA, inBlockA, noGotoA])
        | (with_reducible refine awp_exit ?_; simp only [thenA, inBlockA, noGotoA, if_true, Nat.reduceEqDiff, if_false, ↓reduceIte])
        | (with_reducible refine awp_ret ?_; (try simp only [thenA, inBlockA, noGotoA]); (try simp [-getElem?_pos, -getElem?_neg, List.getElem?_cons_zero, List.getElem?_cons_succ, rowsC, intsC, bC, iC, hil, hx, hwi]))
        | (with_reducible refine awp_reg 86 hX [0, 1, 4, 5, 6, 7, 8, 9, 16, 23, 28, 33, 40, 47, 48, 53, 54, 55, 56, 57, 58, 60, 62, 63, 64, 65, 70, 75, 84] ?_; simp [-getElem?_pos, -getElem?_neg, List.getElem?_cons_zero, List.getElem?_cons_succ, rowsC, intsC, bC, iC, hil, hx, hwi])
        | (with_reducible refine awp_drw 86 hX [0, 1, 4, 5, 6, 7, 8, 9, 16, 23, 28, 33, 40, 47, 48, 53, 54, 55, 56, 57, 58, 60, 62, 63, 64, 65, 70, 75, 84] Tab.mixed (by kernel_rfl) ?_; simp [-getElem?_pos, -getElem?_neg, List.getElem?_cons_zero, List.getElem?_cons_succ, rowsC, intsC, bC, iC, hil, hx, hwi])
        | (refine (awake44_den _).det ?_; try simp [-getElem?_pos, -getElem?_neg, List.getElem?_cons_zero, List.getElem?_cons_succ, rowsC, intsC, bC, iC, hil, hx, hwi])
        | (refine ⟨_, awake44_den _, ?_⟩; simp [-getElem?_pos, -getElem?_neg, List.getElem?_cons_zero, List.getElem?_cons_succ, rowsC, intsC, bC, iC, hil, hx, hwi])
        | (refine (beats_den _ _ _ _).det ?_; try simp [-getElem?_pos, -getElem?_neg, List.getElem?_cons_zero, List.getElem?_cons_succ, rowsC, intsC, bC, iC, hil, hx, hwi])
        | (refine ⟨_, beats_den _ _ _ _, ?_⟩; simp [-getElem?_pos, -getElem?_neg, List.getElem?_cons_zero, List.getElem?_cons_succ, rowsC, intsC, bC, iC, hil, hx, hwi])
        | (with_reducible refine awp_if_b rfl (fun hc => ?_) (fun hc => ?_) <;> (try simp [-getElem?_pos, -getElem?_neg] at hc) <;> (try (exfalso; omega)))
        | (with_reducible refine GuardK_b (fun hc => ?_) (fun hc => ?_) <;> (try simp only [Bool.not_eq_true', Bool.not_eq_false', decide_eq_true_eq, decide_eq_false_iff_not] at hc) <;> (first | (exfalso; omega) | skip) <;> simp [-getElem?_pos, -getElem?_neg, List.getElem?_cons_zero, List.getElem?_cons_succ, rowsC, intsC, bC, iC, hil, hx, hwi, hc])
        | (with_reducible refine DGuard_b _ _ _ _ _ _ _ _ (fun hc => ?_) (fun hc => ?_) <;> (try simp only [Bool.not_eq_true', Bool.not_eq_false', decide_eq_true_eq, decide_eq_false_iff_not] at hc) <;> (first | (exfalso; omega) | skip) <;> simp [-getElem?_pos, -getElem?_neg, List.getElem?_cons_zero, List.getElem?_cons_succ, rowsC, intsC, bC, iC, hil, hx, hwi, hc])
        | (refine hother _ _ rfl ?_; simp only [inBlockA, thenA, noGotoA, Nat.reduceEqDiff, if_false, if_true, ↓reduceIte])
        | (refine hother2 _ _ rfl ?_; simp only [inBlockA, thenA, noGotoA, Nat.reduceEqDiff, if_false, if_true, ↓reduceIte])
        | (refine hother3 _ _ rfl ?_; simp only [inBlockA, thenA, noGotoA, Nat.reduceEqDiff, if_false, if_true, ↓reduceIte])
        | (refine And.intro (by omega) ?_)
        | (with_reducible change postOf _ _ _ _; simp [-getElem?_pos, -getElem?_neg, List.getElem?_cons_zero, List.getElem?_cons_succ, rowsC, intsC, bC, iC, hil, hx, hwi])
        | fail)
      all_goals
        refine next2 _ () (by omega) (nxt ⟨by omega, by omega, ?_⟩) ?_
        · first | exact .inl (by assumption) | exact .inr (by assumption) | exact .inl rfl
        · clear next next2 hother hother2
          simp_all [rowsC, intsC, iC, bC]
    · have e : i = o.length := by omega
      subst e
      have hfb := fun h => (fold_best v o t t0 t1 t2 (fun j x hj => hH j x (List.getElem?_eq_some_iff.1 hj).1 hj) o.length (Nat.le_refl _)).1 h
      rw [List.take_length] at hfb
      repeat' (first 
        | with_reducible refine awp_scope ?_
        | with_reducible refine awp_seq ?_
        | with_reducible refine awp_block ?_
        | (with_reducible refine awp_label ?_; simp only [thenA, inBlockA, noGotoA])
        | (with_reducible refine awp_skip ?_; simp only [thenA, inBlockA, noGotoA])
        | (with_reducible refine awp_exit ?_; simp only [thenA, inBlockA, noGotoA, if_true, Nat.reduceEqDiff, if_false, ↓reduceIte])
        | (with_reducible refine awp_ret ?_; (try simp only [thenA, inBlockA, noGotoA]); (try simp [-getElem?_pos, -getElem?_neg, List.getElem?_cons_zero, List.getElem?_cons_succ, rowsC, intsC, bC, iC, hwn]))
        | (with_reducible refine awp_reg 86 hX [0, 1, 4, 5, 6, 7, 8, 9, 16, 23, 28, 33, 40, 47, 48, 53, 54, 55, 56, 57, 58, 60, 62, 63, 64, 65, 70, 75, 84] ?_; simp [-getElem?_pos, -getElem?_neg, List.getElem?_cons_zero, List.getElem?_cons_succ, rowsC, intsC, bC, iC, hwn])
        | (with_reducible refine awp_drw 86 hX [0, 1, 4, 5, 6, 7, 8, 9, 16, 23, 28, 33, 40, 47, 48, 53, 54, 55, 56, 57, 58, 60, 62, 63, 64, 65, 70, 75, 84] Tab.mixed (by kernel_rfl) ?_; simp [-getElem?_pos, -getElem?_neg, List.getElem?_cons_zero, List.getElem?_cons_succ, rowsC, intsC, bC, iC, hwn])
        | (refine (awake44_den _).det ?_; try simp [-getElem?_pos, -getElem?_neg, List.getElem?_cons_zero, List.getElem?_cons_succ, rowsC, intsC, bC, iC, hwn])
        | (refine ⟨_, awake44_den _, ?_⟩; simp [-getElem?_pos, -getElem?_neg, List.getElem?_cons_zero, List.getElem?_cons_succ, rowsC, intsC, bC, iC, hwn])
        | (refine (fold_den _ _ _ (by omega)).det ?_; try simp [-getElem?_pos, -getElem?_neg, List.getElem?_cons_zero, List.getElem?_cons_succ, rowsC, intsC, bC, iC, hwn])
        | (refine ⟨_, fold_den _ _ _ (by omega), ?_⟩; simp [-getElem?_pos, -getElem?_neg, List.getElem?_cons_zero, List.getElem?_cons_succ, rowsC, intsC, bC, iC, hwn])
        | (with_reducible refine awp_if_b rfl (fun hc => ?_) (fun hc => ?_) <;> (try simp [-getElem?_pos, -getElem?_neg] at hc) <;> (try (exfalso; omega)))
        | (with_reducible refine GuardK_b (fun hc => ?_) (fun hc => ?_) <;> (try simp only [Bool.not_eq_true', Bool.not_eq_false', decide_eq_true_eq, decide_eq_false_iff_not] at hc) <;> (first | (exfalso; omega) | skip) <;> simp [-getElem?_pos, -getElem?_neg, List.getElem?_cons_zero, List.getElem?_cons_succ, rowsC, intsC, bC, iC, hwn, hc])
        | (with_reducible refine DGuard_b _ _ _ _ _ _ _ _ (fun hc => ?_) (fun hc => ?_) <;> (try simp only [Bool.not_eq_true', Bool.not_eq_false', decide_eq_true_eq, decide_eq_false_iff_not] at hc) <;> (first | (exfalso; omega) | skip) <;> simp [-getElem?_pos, -getElem?_neg, List.getElem?_cons_zero, List.getElem?_cons_succ, rowsC, intsC, bC, iC, hwn, hc])
        | (refine hother _ _ rfl ?_; simp only [inBlockA, thenA, noGotoA, Nat.reduceEqDiff, if_false, if_true, ↓reduceIte])
        | (refine hother2 _ _ rfl ?_; simp only [inBlockA, thenA, noGotoA, Nat.reduceEqDiff, if_false, if_true, ↓reduceIte])
        | (refine hother3 _ _ rfl ?_; simp only [inBlockA, thenA, noGotoA, Nat.reduceEqDiff, if_false, if_true, ↓reduceIte])
        | (refine And.intro (by omega) ?_)
        | (with_reducible change postOf _ _ _ _; simp [-getElem?_pos, -getElem?_neg, List.getElem?_cons_zero, List.getElem?_cons_succ, rowsC, intsC, bC, iC, hwn])
        | fail)
      · simp_all
      · exact next _ () (by omega) trivial (by simp [rowsC, intsC, iC])
      · exact next _ () (by omega) trivial (by simp [rowsC, intsC, iC])
  · repeat' (first 
      | with_reducible refine awp_scope ?_
      | with_reducible refine awp_seq ?_
      | with_reducible refine awp_block ?_
      | (with_reducible refine awp_label ?_; simp only [thenA, inBlockA, noGotoA])
      | (with_reducible refine awp_skip ?_; simp only [thenA, inBlockA, noGotoA])
      | (with_reducible refine awp_exit ?_; simp only [thenA, inBlockA, noGotoA, if_true, Nat.reduceEqDiff, if_false, ↓reduceIte])
      | (with_reducible refine awp_ret ?_; (try simp only [thenA, inBlockA, noGotoA]); (try simp [-getElem?_pos, -getElem?_neg, List.getElem?_cons_zero, List.getElem?_cons_succ, rowsC, intsC, bC, iC, hlt]))
      | (with_reducible refine awp_reg 86 hX [0, 1, 4, 5, 6, 7, 8, 9, 16, 23, 28, 33, 40, 47, 48, 53, 54, 55, 56, 57, 58, 60, 62, 63, 64, 65, 70, 75, 84] ?_; simp [-getElem?_pos, -getElem?_neg, List.getElem?_cons_zero, List.getElem?_cons_succ, rowsC, intsC, bC, iC, hlt])
      | (with_reducible refine awp_drw 86 hX [0, 1, 4, 5, 6, 7, 8, 9, 16, 23, 28, 33, 40, 47, 48, 53, 54, 55, 56, 57, 58, 60, 62, 63, 64, 65, 70, 75, 84] Tab.mixed (by kernel_rfl) ?_; simp [-getElem?_pos, -getElem?_neg, List.getElem?_cons_zero, List.getElem?_cons_succ, rowsC, intsC, bC, iC, hlt])
      | (refine (awake44_den _).det ?_; try simp [-getElem?_pos, -getElem?_neg, List.getElem?_cons_zero, List.getElem?_cons_succ, rowsC, intsC, bC, iC, hlt])
      | (refine ⟨_, awake44_den _, ?_⟩; simp [-getElem?_pos, -getElem?_neg, List.getElem?_cons_zero, List.getElem?_cons_succ, rowsC, intsC, bC, iC, hlt])
      | (with_reducible refine awp_if_b rfl (fun hc => ?_) (fun hc => ?_) <;> (try simp [-getElem?_pos, -getElem?_neg] at hc) <;> (try (exfalso; omega)))
      | (with_reducible refine GuardK_b (fun hc => ?_) (fun hc => ?_) <;> (try simp only [Bool.not_eq_true', Bool.not_eq_false', decide_eq_true_eq, decide_eq_false_iff_not] at hc) <;> (first | (exfalso; omega) | skip) <;> simp [-getElem?_pos, -getElem?_neg, List.getElem?_cons_zero, List.getElem?_cons_succ, rowsC, intsC, bC, iC, hlt, hc])
      | (with_reducible refine DGuard_b _ _ _ _ _ _ _ _ (fun hc => ?_) (fun hc => ?_) <;> (try simp only [Bool.not_eq_true', Bool.not_eq_false', decide_eq_true_eq, decide_eq_false_iff_not] at hc) <;> (first | (exfalso; omega) | skip) <;> simp [-getElem?_pos, -getElem?_neg, List.getElem?_cons_zero, List.getElem?_cons_succ, rowsC, intsC, bC, iC, hlt, hc])
      | (refine hother _ _ rfl ?_; simp only [inBlockA, thenA, noGotoA, Nat.reduceEqDiff, if_false, if_true, ↓reduceIte])
      | (refine hother2 _ _ rfl ?_; simp only [inBlockA, thenA, noGotoA, Nat.reduceEqDiff, if_false, if_true, ↓reduceIte])
      | (refine hother3 _ _ rfl ?_; simp only [inBlockA, thenA, noGotoA, Nat.reduceEqDiff, if_false, if_true, ↓reduceIte])
      | (refine And.intro (by omega) ?_)
      | (with_reducible change postOf _ _ _ _; simp [-getElem?_pos, -getElem?_neg, List.getElem?_cons_zero, List.getElem?_cons_succ, rowsC, intsC, bC, iC, hlt])
      | fail)
end Go.Av
