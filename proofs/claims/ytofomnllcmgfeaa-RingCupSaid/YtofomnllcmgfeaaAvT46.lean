import Derived.Test.YtofomnllcmgfeaaAvT45
set_option linter.unusedVariables false
set_option linter.unusedSimpArgs false
set_option maxRecDepth 100000
set_option maxHeartbeats 4000000
namespace Go.Av
open Go Go.Proofs Go.Proofs.Ytofomnllcmgfeaa Go.RowKit
/-! ### container/heap over the row -/
open Go.Hp
abbrev hM : M := .mi 92 0 0 0
theorem par_i (j : Nat) (h : j ≤ 1000000) : IntKind.i64.wrap ((j : Int) - 1) = (j : Int) - 1 ∧ IntKind.i64.wrap (((j : Int) - 1).tdiv 2) = (par j : Int) := by
  refine ⟨wrap_in _ (by omega), ?_⟩
  by_cases h0 : j = 0
  · subst h0; rfl
  · have e : ((j : Int) - 1) = ((j - 1 : Nat) : Int) := by omega
    rw [e]
    have : (((j - 1 : Nat) : Int)).tdiv 2 = ((par j : Nat) : Int) := rfl
    rw [this]
    exact wrap_in _ (by unfold par; omega)
set_option maxHeartbeats 4000000 in
theorem up_den (gb : Ob) (l : List Run) (g n j f : Nat) (hj : j < n) (hn : n ≤ l.length) (hf : j < f) (hN : l.length ≤ 1000000) :
    Den Try.prog 79 [hM, .c (iC j)] [boxO n g, gb, rowO l g] (fun r ob' => r = .tup [] ∧ ob' = [boxO n g, gb, rowO (upF rlt f l j) g]) := by
  generalize hR : upF rlt f l j = R
  refine den_of Try.func79 rfl rfl (by simp [Try.ntmps79]) (fun X hX hO => ?_)
  rw [Try.ntmps79] at hX
  simp only [Try.results79]
  repeat' (first 
   | (with_reducible first | refine awp_scope ?_ | refine awp_seq ?_ | refine awp_block ?_)
   | ((with_reducible first | refine awp_label ?_ | refine awp_skip ?_); try simp only [thenA, inBlockA, noGotoA])
   | (with_reducible refine awp_exit ?_; simp only [thenA, inBlockA, noGotoA, if_true, Nat.reduceEqDiff, if_false, ↓reduceIte])
   | (with_reducible refine awp_ret ?_; (try simp only [thenA, inBlockA, noGotoA]); (try simp [-List.reduceReplicate, Nat.add_one_le_iff, -getElem?_pos, -getElem?_neg, List.getElem?_cons_zero, List.getElem?_cons_succ]))
   | ((with_reducible first | refine awp_reg 23 hX [0, 1, 4, 17] ?_ | change postOf _ _ _ _ _); simp [-List.reduceReplicate, Nat.add_one_le_iff, -getElem?_pos, -getElem?_neg, List.getElem?_cons_zero, List.getElem?_cons_succ])
   | (with_reducible refine awp_if_b rfl (fun hc => ?_) (fun hc => ?_) <;> (try simp [-getElem?_pos, -getElem?_neg] at hc) <;> (try (exfalso; omega)))
   | ((with_reducible first | refine GuardK_b (fun hc => ?_) (fun hc => ?_)) <;> (try simp only [Bool.not_eq_true', Bool.not_eq_false', decide_eq_true_eq, decide_eq_false_iff_not] at hc) <;> (first | (exfalso; omega) | skip) <;> simp [-List.reduceReplicate, Nat.add_one_le_iff, -getElem?_pos, -getElem?_neg, List.getElem?_cons_zero, List.getElem?_cons_succ, hc])
   | ((with_reducible first | refine hother _ _ rfl ?_); simp only [inBlockA, thenA, noGotoA, Nat.reduceEqDiff, if_false, if_true, ↓reduceIte])
   | (with_reducible refine And.intro (by omega) ?_)
   | fail)
  refine awp_whileU [0, 1] (fun (p : Nat × List Run × Nat) => [(1, .c (iC p.2.2))]) (fun (p : Nat × List Run × Nat) => [boxO n g, gb, rowO p.2.1 g]) (fun (p : Nat × List Run × Nat) => p.2.2 < p.1 ∧ p.2.2 < n ∧ p.2.1.length = l.length ∧ upF rlt p.1 p.2.1 p.2.2 = R) (fun p => p.1) (f, l, j) ⟨hf, hj, rfl, hR⟩ (by simp [keep, iC]) (by simp) ?_
  rintro ⟨f', l', j'⟩ Q1 ⟨h1, h2, h3, h4⟩ next hother
  conv => arg 5; arg 1; simp only [List.cons_append, List.nil_append, keep, get, Nat.reduceEqDiff, if_true, if_false, ↓reduceIte]
  simp only at h1 h2 h3 h4 next ⊢
  obtain ⟨f', rfl⟩ : ∃ q, f' = q + 1 := ⟨f' - 1, by omega⟩
  obtain ⟨w1, w2⟩ := par_i j' (by omega)
  unfold upF at h4
  by_cases c1 : par j' = j'
  · rw [if_pos c1] at h4
    subst h4
    repeat' (first 
     | (with_reducible first | refine awp_scope ?_ | refine awp_seq ?_ | refine awp_block ?_)
     | ((with_reducible first | refine awp_label ?_ | refine awp_skip ?_); try simp only [thenA, inBlockA, noGotoA])
     | (with_reducible refine awp_exit ?_; simp only [thenA, inBlockA, noGotoA, if_true, Nat.reduceEqDiff, if_false, ↓reduceIte])
     | (with_reducible refine awp_ret ?_; (try simp only [thenA, inBlockA, noGotoA]); (try simp [-List.reduceReplicate, Nat.add_one_le_iff, -getElem?_pos, -getElem?_neg, List.getElem?_cons_zero, List.getElem?_cons_succ, iC, w1, w2, c1]))
     | ((with_reducible first | refine awp_reg 23 hX [0, 1, 4, 17] ?_ | change postOf _ _ _ _ _); simp [-List.reduceReplicate, Nat.add_one_le_iff, -getElem?_pos, -getElem?_neg, List.getElem?_cons_zero, List.getElem?_cons_succ, iC, w1, w2, c1])
     | (with_reducible refine awp_if_b rfl (fun hc => ?_) (fun hc => ?_) <;> (try simp [-getElem?_pos, -getElem?_neg] at hc) <;> (try (exfalso; omega)))
     | ((with_reducible first | refine GuardK_b (fun hc => ?_) (fun hc => ?_)) <;> (try simp only [Bool.not_eq_true', Bool.not_eq_false', decide_eq_true_eq, decide_eq_false_iff_not] at hc) <;> (first | (exfalso; omega) | skip) <;> simp [-List.reduceReplicate, Nat.add_one_le_iff, -getElem?_pos, -getElem?_neg, List.getElem?_cons_zero, List.getElem?_cons_succ, iC, w1, w2, c1, hc])
     | ((with_reducible first | refine hother _ _ rfl ?_); simp only [inBlockA, thenA, noGotoA, Nat.reduceEqDiff, if_false, if_true, ↓reduceIte])
     | (with_reducible refine And.intro (by omega) ?_)
     | fail)
  · rw [if_neg c1] at h4
    have hpl := par_lt c1
    have p1 := less_den (boxO n g) gb l' g n j' (par j') h2 (by omega) (by omega)
    have p2 := swap_den (boxO n g) gb l' g n (par j') j' (by omega) h2 (by omega)
    cases c2 : rlt (at' l' j') (at' l' (par j'))
    · rw [c2] at h4 p1
      simp only [Bool.false_eq_true, if_false] at h4
      subst h4
      have hbox : boxO n g = ⟨94, 1, false, 0, [.ms 2 g 0 n], none⟩ := rfl
      rw [hbox] at p1 ⊢
      generalize rowO l' g = ro at *
      repeat' (first 
       | (with_reducible first | refine awp_scope ?_ | refine awp_seq ?_ | refine awp_block ?_)
       | ((with_reducible first | refine awp_label ?_ | refine awp_skip ?_); try simp only [thenA, inBlockA, noGotoA])
       | (with_reducible refine awp_exit ?_; simp only [thenA, inBlockA, noGotoA, if_true, Nat.reduceEqDiff, if_false, ↓reduceIte])
       | (with_reducible refine awp_ret ?_; (try simp only [thenA, inBlockA, noGotoA]); (try simp [-List.reduceReplicate, Nat.add_one_le_iff, -getElem?_pos, -getElem?_neg, List.getElem?_cons_zero, List.getElem?_cons_succ, iC, bC, w1, w2, c1]))
       | ((with_reducible first | refine awp_reg 23 hX [0, 1, 4, 17] ?_ | change postOf _ _ _ _ _); simp [-List.reduceReplicate, Nat.add_one_le_iff, -getElem?_pos, -getElem?_neg, List.getElem?_cons_zero, List.getElem?_cons_succ, iC, bC, w1, w2, c1])
       | ((first | (refine (p1).det ?_)); try simp [-List.reduceReplicate, Nat.add_one_le_iff, -getElem?_pos, -getElem?_neg, List.getElem?_cons_zero, List.getElem?_cons_succ, iC, bC, w1, w2, c1])
       | (with_reducible refine awp_if_b rfl (fun hc => ?_) (fun hc => ?_) <;> (try simp [-getElem?_pos, -getElem?_neg] at hc) <;> (try (exfalso; omega)))
       | ((with_reducible first | refine GuardK_b (fun hc => ?_) (fun hc => ?_)) <;> (try simp only [Bool.not_eq_true', Bool.not_eq_false', decide_eq_true_eq, decide_eq_false_iff_not] at hc) <;> (first | (exfalso; omega) | skip) <;> simp [-List.reduceReplicate, Nat.add_one_le_iff, -getElem?_pos, -getElem?_neg, List.getElem?_cons_zero, List.getElem?_cons_succ, iC, bC, w1, w2, c1, hc])
       | ((with_reducible first | refine hother _ _ rfl ?_); simp only [inBlockA, thenA, noGotoA, Nat.reduceEqDiff, if_false, if_true, ↓reduceIte])
       | (with_reducible refine And.intro (by omega) ?_)
       | fail)
      rfl
    · rw [c2] at h4 p1
      simp only [if_true] at h4
      have nx : par j' < f' ∧ par j' < n ∧ (swp l' (par j') j').length = l.length ∧ upF rlt f' (swp l' (par j') j') (par j') = R := ⟨by omega, by omega, by rw [swp_len]; exact h3, h4⟩
      have hbox : boxO n g = ⟨94, 1, false, 0, [.ms 2 g 0 n], none⟩ := rfl
      have hnext := fun fr' ob' => next fr' ob' (f', swp l' (par j') j', par j')
      clear next
      rw [hbox] at p1 p2 hnext ⊢
      simp only at hnext
      generalize rowO l' g = ro at *
      generalize rowO (swp l' (par j') j') g = ro2 at *
      repeat' (first 
       | (with_reducible first | refine awp_scope ?_ | refine awp_seq ?_ | refine awp_block ?_)
       | ((with_reducible first | refine awp_label ?_ | refine awp_skip ?_); try simp only [thenA, inBlockA, noGotoA])
       | (with_reducible refine awp_exit ?_; simp only [thenA, inBlockA, noGotoA, if_true, Nat.reduceEqDiff, if_false, ↓reduceIte])
       | (with_reducible refine awp_ret ?_; (try simp only [thenA, inBlockA, noGotoA]); (try simp [-List.reduceReplicate, Nat.add_one_le_iff, -getElem?_pos, -getElem?_neg, List.getElem?_cons_zero, List.getElem?_cons_succ, iC, bC, w1, w2, c1]))
       | ((with_reducible first | refine awp_reg 23 hX [0, 1, 4, 17] ?_ | change postOf _ _ _ _ _); simp [-List.reduceReplicate, Nat.add_one_le_iff, -getElem?_pos, -getElem?_neg, List.getElem?_cons_zero, List.getElem?_cons_succ, iC, bC, w1, w2, c1])
       | ((first | (refine (p1).det ?_) | (refine (p2).det ?_)); try simp [-List.reduceReplicate, Nat.add_one_le_iff, -getElem?_pos, -getElem?_neg, List.getElem?_cons_zero, List.getElem?_cons_succ, iC, bC, w1, w2, c1])
       | (with_reducible refine awp_if_b rfl (fun hc => ?_) (fun hc => ?_) <;> (try simp [-getElem?_pos, -getElem?_neg] at hc) <;> (try (exfalso; omega)))
       | ((with_reducible first | refine GuardK_b (fun hc => ?_) (fun hc => ?_)) <;> (try simp only [Bool.not_eq_true', Bool.not_eq_false', decide_eq_true_eq, decide_eq_false_iff_not] at hc) <;> (first | (exfalso; omega) | skip) <;> simp [-List.reduceReplicate, Nat.add_one_le_iff, -getElem?_pos, -getElem?_neg, List.getElem?_cons_zero, List.getElem?_cons_succ, iC, bC, w1, w2, c1, hc])
       | ((with_reducible first | refine hother _ _ rfl ?_); simp only [inBlockA, thenA, noGotoA, Nat.reduceEqDiff, if_false, if_true, ↓reduceIte])
       | (with_reducible refine And.intro (by omega) ?_)
       | fail)
      exact hnext _ _ (by omega) nx (by simp [keep, iC]) rfl
set_option maxHeartbeats 8000000 in
theorem down_den (gb : Ob) (l : List Run) (g m n f : Nat) (hnm : n ≤ m) (hm : m ≤ l.length) (hf : n ≤ f) (hN : l.length ≤ 100000) :
    Den Try.prog 80 [hM, .c (iC 0), .c (iC n)] [boxO m g, gb, rowO l g] (fun r ob' => ∃ b, r = .c (bC b) ∧ ob' = [boxO m g, gb, rowO (dnF rlt n f l 0) g]) := by
  generalize hR : dnF rlt n f l 0 = R
  generalize hQ : (fun (r : M) (ob' : List Ob) => ∃ b, r = .c (bC b) ∧ ob' = [boxO m g, gb, rowO R g]) = Q
  have hQ2 : ∀ b, Q (.c (bC b)) [boxO m g, gb, rowO R g] := fun b => by subst hQ; exact ⟨b, rfl, rfl⟩
  clear hQ
  refine den_of Try.func80 rfl rfl (by simp [Try.ntmps80]) (fun X hX hO => ?_)
  rw [Try.ntmps80] at hX
  simp only [Try.results80]
  repeat' (first 
   | (with_reducible first | refine awp_scope ?_ | refine awp_seq ?_ | refine awp_block ?_)
   | ((with_reducible first | refine awp_label ?_ | refine awp_skip ?_); try simp only [thenA, inBlockA, noGotoA])
   | (with_reducible refine awp_exit ?_; simp only [thenA, inBlockA, noGotoA, if_true, Nat.reduceEqDiff, if_false, ↓reduceIte])
   | (with_reducible refine awp_ret ?_; (try simp only [thenA, inBlockA, noGotoA]); (try simp [-List.reduceReplicate, Nat.add_one_le_iff, -getElem?_pos, -getElem?_neg, List.getElem?_cons_zero, List.getElem?_cons_succ, iC]))
   | ((with_reducible first | refine awp_reg 48 hX [0, 1, 2, 6, 7, 8, 9, 10, 21, 33, 39] ?_ | change postOf _ _ _ _ _); simp [-List.reduceReplicate, Nat.add_one_le_iff, -getElem?_pos, -getElem?_neg, List.getElem?_cons_zero, List.getElem?_cons_succ, iC])
   | (with_reducible refine awp_if_b rfl (fun hc => ?_) (fun hc => ?_) <;> (try simp [-getElem?_pos, -getElem?_neg] at hc) <;> (try (exfalso; omega)))
   | ((with_reducible first | refine GuardK_b (fun hc => ?_) (fun hc => ?_)) <;> (try simp only [Bool.not_eq_true', Bool.not_eq_false', decide_eq_true_eq, decide_eq_false_iff_not] at hc) <;> (first | (exfalso; omega) | skip) <;> simp [-List.reduceReplicate, Nat.add_one_le_iff, -getElem?_pos, -getElem?_neg, List.getElem?_cons_zero, List.getElem?_cons_succ, iC, hc])
   | ((with_reducible first | refine hother _ _ rfl ?_); simp only [inBlockA, thenA, noGotoA, Nat.reduceEqDiff, if_false, if_true, ↓reduceIte])
   | (with_reducible refine And.intro (by omega) ?_)
   | fail)
  refine awp_whileU [0, 1, 2, 7] (fun (p : Nat × List Run × Nat) => [(7, .c (iC p.2.2))]) (fun (p : Nat × List Run × Nat) => [boxO m g, gb, rowO p.2.1 g]) (fun (p : Nat × List Run × Nat) => n ≤ p.2.2 + p.1 ∧ ((0 < n → p.2.2 < n) ∧ p.2.2 ≤ n) ∧ p.2.1.length = l.length ∧ dnF rlt n p.1 p.2.1 p.2.2 = R) (fun p => p.1) (f, l, 0) ⟨by omega, ⟨fun h => h, Nat.zero_le _⟩, rfl, hR⟩ (by simp [keep, iC]) (by simp) ?_
  rintro ⟨f', l', i⟩ Q1 ⟨h1, ⟨h2, h5⟩, h3, h4⟩ next hother
  conv => arg 5; arg 1; simp only [List.cons_append, List.nil_append, keep, get, Nat.reduceEqDiff, if_true, if_false, ↓reduceIte]
  simp only at h1 h2 h3 h4 h5 next ⊢
  have hi : i ≤ 100000 := by omega
  have w1 := wrap_in (2 * (i : Int)) (by omega)
  have w2 := wrap_in (2 * (i : Int) + 1) (by omega)
  have w3 := wrap_in (2 * (i : Int) + 1 + 1) (by omega)
  by_cases c1 : n ≤ 2 * i + 1
  · have hRl : R = l' := by
      cases f' with
      | zero => exact h4.symm
      | succ f' => unfold dnF at h4; rw [if_pos c1] at h4; exact h4.symm
    subst hRl
    have c1' : (n : Int) ≤ 2 * (i : Int) + 1 := by omega
    repeat' (first 
     | (with_reducible first | refine awp_scope ?_ | refine awp_seq ?_ | refine awp_block ?_)
     | ((with_reducible first | refine awp_label ?_ | refine awp_skip ?_); try simp only [thenA, inBlockA, noGotoA])
     | (with_reducible refine awp_exit ?_; simp only [thenA, inBlockA, noGotoA, if_true, Nat.reduceEqDiff, if_false, ↓reduceIte])
     | (with_reducible refine awp_ret ?_; (try simp only [thenA, inBlockA, noGotoA]); (try simp [-List.reduceReplicate, Nat.add_one_le_iff, -getElem?_pos, -getElem?_neg, List.getElem?_cons_zero, List.getElem?_cons_succ, iC, bC, w1, w2, c1']))
     | ((with_reducible first | refine awp_reg 48 hX [0, 1, 2, 6, 7, 8, 9, 10, 21, 33, 39] ?_ | change postOf _ _ _ _ _); simp [-List.reduceReplicate, Nat.add_one_le_iff, -getElem?_pos, -getElem?_neg, List.getElem?_cons_zero, List.getElem?_cons_succ, iC, bC, w1, w2, c1'])
     | (with_reducible refine awp_if_b rfl (fun hc => ?_) (fun hc => ?_) <;> (try simp [-getElem?_pos, -getElem?_neg] at hc) <;> (try (exfalso; omega)))
     | ((with_reducible first | refine GuardK_b (fun hc => ?_) (fun hc => ?_)) <;> (try simp only [Bool.not_eq_true', Bool.not_eq_false', decide_eq_true_eq, decide_eq_false_iff_not] at hc) <;> (first | (exfalso; omega) | skip) <;> simp [-List.reduceReplicate, Nat.add_one_le_iff, -getElem?_pos, -getElem?_neg, List.getElem?_cons_zero, List.getElem?_cons_succ, iC, bC, w1, w2, c1', hc])
     | ((with_reducible first | refine hother _ _ rfl ?_); simp only [inBlockA, thenA, noGotoA, Nat.reduceEqDiff, if_false, if_true, ↓reduceIte])
     | (with_reducible refine And.intro (by omega) ?_)
     | fail)
    exact hQ2 _
  · obtain ⟨f', rfl⟩ : ∃ q, f' = q + 1 := ⟨f' - 1, by omega⟩
    unfold dnF at h4
    rw [if_neg c1] at h4
    obtain ⟨k1, k2, k3, k4⟩ := child_of (lt := rlt) l' n i (by omega)
    have c1' : ¬ (n : Int) ≤ 2 * (i : Int) + 1 := by omega
    have c2' : ¬ 2 * (i : Int) + 1 < 0 := by omega
    have hch : child rlt l' n i = if 2 * i + 1 + 1 < n then (if rlt (at' l' (2 * i + 1 + 1)) (at' l' (2 * i + 1)) = true then 2 * i + 1 + 1 else 2 * i + 1) else 2 * i + 1 := rfl
    have q2 := swap_den (boxO m g) gb l' g m i (child rlt l' n i) (by omega) (by omega) (by omega)
    have q1 := less_den (boxO m g) gb l' g m (child rlt l' n i) i (by omega) (by omega) (by omega)
    have hbox : boxO m g = ⟨94, 1, false, 0, [.ms 2 g 0 m], none⟩ := rfl
    have hnx : rlt (at' l' (child rlt l' n i)) (at' l' i) = true → n ≤ child rlt l' n i + f' ∧ ((0 < n → child rlt l' n i < n) ∧ child rlt l' n i ≤ n) ∧ (swp l' i (child rlt l' n i)).length = l.length ∧ dnF rlt n f' (swp l' i (child rlt l' n i)) (child rlt l' n i) = R := fun h => by
      rw [if_pos h] at h4
      exact ⟨by omega, ⟨fun _ => k1, by omega⟩, by rw [swp_len]; exact h3, h4⟩
    have hno : rlt (at' l' (child rlt l' n i)) (at' l' i) = false → l' = R := fun h => by
      rw [if_neg (by rw [h]; simp)] at h4; exact h4
    clear h4
    have hnext := fun fr' ob' => next fr' ob' (f', swp l' i (child rlt l' n i), child rlt l' n i)
    clear next
    by_cases c3 : 2 * i + 1 + 1 < n
    · have c3' : 2 * (i : Int) + 1 + 1 < n := by omega
      have q0 := less_den (boxO m g) gb l' g m (2 * i + 1 + 1) (2 * i + 1) (by omega) (by omega) (by omega)
      rw [if_pos c3] at hch
      cases c4 : rlt (at' l' (2 * i + 1 + 1)) (at' l' (2 * i + 1))
      · rw [c4] at q0 hch
        simp only [Bool.false_eq_true, if_false] at hch
        rw [hch] at q1 q2 hnx hno hnext k1
        push_cast at q0 q1 q2
        cases c5 : rlt (at' l' (2 * i + 1)) (at' l' i)
        · rw [c5] at q1
          have e := hno c5
          subst e
          rw [hbox] at q0 q1 hQ2 ⊢
          generalize rowO l' g = ro at *
          repeat' (first 
           | (with_reducible first | refine awp_scope ?_ | refine awp_seq ?_ | refine awp_block ?_)
           | ((with_reducible first | refine awp_label ?_ | refine awp_skip ?_); try simp only [thenA, inBlockA, noGotoA])
           | (with_reducible refine awp_exit ?_; simp only [thenA, inBlockA, noGotoA, if_true, Nat.reduceEqDiff, if_false, ↓reduceIte])
           | (with_reducible refine awp_ret ?_; (try simp only [thenA, inBlockA, noGotoA]); (try simp [-List.reduceReplicate, Nat.add_one_le_iff, -getElem?_pos, -getElem?_neg, List.getElem?_cons_zero, List.getElem?_cons_succ, iC, bC, w1, w2, w3, c1', c2', c3']))
           | ((with_reducible first | refine awp_reg 48 hX [0, 1, 2, 6, 7, 8, 9, 10, 21, 33, 39] ?_ | change postOf _ _ _ _ _); simp [-List.reduceReplicate, Nat.add_one_le_iff, -getElem?_pos, -getElem?_neg, List.getElem?_cons_zero, List.getElem?_cons_succ, iC, bC, w1, w2, w3, c1', c2', c3'])
           | ((first | (refine (q0).det ?_) | (refine (q1).det ?_)); try simp [-List.reduceReplicate, Nat.add_one_le_iff, -getElem?_pos, -getElem?_neg, List.getElem?_cons_zero, List.getElem?_cons_succ, iC, bC, w1, w2, w3, c1', c2', c3'])
           | (with_reducible refine awp_if_b rfl (fun hc => ?_) (fun hc => ?_) <;> (try simp [-getElem?_pos, -getElem?_neg] at hc) <;> (try (exfalso; omega)))
           | ((with_reducible first | refine GuardK_b (fun hc => ?_) (fun hc => ?_)) <;> (try simp only [Bool.not_eq_true', Bool.not_eq_false', decide_eq_true_eq, decide_eq_false_iff_not] at hc) <;> (first | (exfalso; omega) | skip) <;> simp [-List.reduceReplicate, Nat.add_one_le_iff, -getElem?_pos, -getElem?_neg, List.getElem?_cons_zero, List.getElem?_cons_succ, iC, bC, w1, w2, w3, c1', c2', c3', hc])
           | ((with_reducible first | refine hother _ _ rfl ?_); simp only [inBlockA, thenA, noGotoA, Nat.reduceEqDiff, if_false, if_true, ↓reduceIte])
           | (with_reducible refine And.intro (by omega) ?_)
           | fail)
          exact hQ2 _
        · rw [c5] at q1
          have nx := hnx c5
          rw [hbox] at q0 q1 q2 hnext ⊢
          simp only at hnext
          generalize rowO l' g = ro at *
          generalize rowO (swp l' i (2 * i + 1)) g = ro2 at *
          repeat' (first 
           | (with_reducible first | refine awp_scope ?_ | refine awp_seq ?_ | refine awp_block ?_)
           | ((with_reducible first | refine awp_label ?_ | refine awp_skip ?_); try simp only [thenA, inBlockA, noGotoA])
           | (with_reducible refine awp_exit ?_; simp only [thenA, inBlockA, noGotoA, if_true, Nat.reduceEqDiff, if_false, ↓reduceIte])
           | (with_reducible refine awp_ret ?_; (try simp only [thenA, inBlockA, noGotoA]); (try simp [-List.reduceReplicate, Nat.add_one_le_iff, -getElem?_pos, -getElem?_neg, List.getElem?_cons_zero, List.getElem?_cons_succ, iC, bC, w1, w2, w3, c1', c2', c3']))
           | ((with_reducible first | refine awp_reg 48 hX [0, 1, 2, 6, 7, 8, 9, 10, 21, 33, 39] ?_ | change postOf _ _ _ _ _); simp [-List.reduceReplicate, Nat.add_one_le_iff, -getElem?_pos, -getElem?_neg, List.getElem?_cons_zero, List.getElem?_cons_succ, iC, bC, w1, w2, w3, c1', c2', c3'])
           | ((first | (refine (q0).det ?_) | (refine (q1).det ?_) | (refine (q2).det ?_)); try simp [-List.reduceReplicate, Nat.add_one_le_iff, -getElem?_pos, -getElem?_neg, List.getElem?_cons_zero, List.getElem?_cons_succ, iC, bC, w1, w2, w3, c1', c2', c3'])
           | (with_reducible refine awp_if_b rfl (fun hc => ?_) (fun hc => ?_) <;> (try simp [-getElem?_pos, -getElem?_neg] at hc) <;> (try (exfalso; omega)))
           | ((with_reducible first | refine GuardK_b (fun hc => ?_) (fun hc => ?_)) <;> (try simp only [Bool.not_eq_true', Bool.not_eq_false', decide_eq_true_eq, decide_eq_false_iff_not] at hc) <;> (first | (exfalso; omega) | skip) <;> simp [-List.reduceReplicate, Nat.add_one_le_iff, -getElem?_pos, -getElem?_neg, List.getElem?_cons_zero, List.getElem?_cons_succ, iC, bC, w1, w2, w3, c1', c2', c3', hc])
           | ((with_reducible first | refine hother _ _ rfl ?_); simp only [inBlockA, thenA, noGotoA, Nat.reduceEqDiff, if_false, if_true, ↓reduceIte])
           | (with_reducible refine And.intro (by omega) ?_)
           | fail)
          exact hnext _ _ (by omega) nx (by simp [keep, iC]) rfl
      · rw [c4] at q0 hch
        simp only [if_true] at hch
        rw [hch] at q1 q2 hnx hno hnext k1
        push_cast at q0 q1 q2
        cases c5 : rlt (at' l' (2 * i + 1 + 1)) (at' l' i)
        · rw [c5] at q1
          have e := hno c5
          subst e
          rw [hbox] at q0 q1 hQ2 ⊢
          generalize rowO l' g = ro at *
          repeat' (first 
           | (with_reducible first | refine awp_scope ?_ | refine awp_seq ?_ | refine awp_block ?_)
           | ((with_reducible first | refine awp_label ?_ | refine awp_skip ?_); try simp only [thenA, inBlockA, noGotoA])
           | (with_reducible refine awp_exit ?_; simp only [thenA, inBlockA, noGotoA, if_true, Nat.reduceEqDiff, if_false, ↓reduceIte])
           | (with_reducible refine awp_ret ?_; (try simp only [thenA, inBlockA, noGotoA]); (try simp [-List.reduceReplicate, Nat.add_one_le_iff, -getElem?_pos, -getElem?_neg, List.getElem?_cons_zero, List.getElem?_cons_succ, iC, bC, w1, w2, w3, c1', c2', c3']))
           | ((with_reducible first | refine awp_reg 48 hX [0, 1, 2, 6, 7, 8, 9, 10, 21, 33, 39] ?_ | change postOf _ _ _ _ _); simp [-List.reduceReplicate, Nat.add_one_le_iff, -getElem?_pos, -getElem?_neg, List.getElem?_cons_zero, List.getElem?_cons_succ, iC, bC, w1, w2, w3, c1', c2', c3'])
           | ((first | (refine (q0).det ?_) | (refine (q1).det ?_)); try simp [-List.reduceReplicate, Nat.add_one_le_iff, -getElem?_pos, -getElem?_neg, List.getElem?_cons_zero, List.getElem?_cons_succ, iC, bC, w1, w2, w3, c1', c2', c3'])
           | (with_reducible refine awp_if_b rfl (fun hc => ?_) (fun hc => ?_) <;> (try simp [-getElem?_pos, -getElem?_neg] at hc) <;> (try (exfalso; omega)))
           | ((with_reducible first | refine GuardK_b (fun hc => ?_) (fun hc => ?_)) <;> (try simp only [Bool.not_eq_true', Bool.not_eq_false', decide_eq_true_eq, decide_eq_false_iff_not] at hc) <;> (first | (exfalso; omega) | skip) <;> simp [-List.reduceReplicate, Nat.add_one_le_iff, -getElem?_pos, -getElem?_neg, List.getElem?_cons_zero, List.getElem?_cons_succ, iC, bC, w1, w2, w3, c1', c2', c3', hc])
           | ((with_reducible first | refine hother _ _ rfl ?_); simp only [inBlockA, thenA, noGotoA, Nat.reduceEqDiff, if_false, if_true, ↓reduceIte])
           | (with_reducible refine And.intro (by omega) ?_)
           | fail)
          exact hQ2 _
        · rw [c5] at q1
          have nx := hnx c5
          rw [hbox] at q0 q1 q2 hnext ⊢
          simp only at hnext
          generalize rowO l' g = ro at *
          generalize rowO (swp l' i (2 * i + 1 + 1)) g = ro2 at *
          repeat' (first 
           | (with_reducible first | refine awp_scope ?_ | refine awp_seq ?_ | refine awp_block ?_)
           | ((with_reducible first | refine awp_label ?_ | refine awp_skip ?_); try simp only [thenA, inBlockA, noGotoA])
           | (with_reducible refine awp_exit ?_; simp only [thenA, inBlockA, noGotoA, if_true, Nat.reduceEqDiff, if_false, ↓reduceIte])
           | (with_reducible refine awp_ret ?_; (try simp only [thenA, inBlockA, noGotoA]); (try simp [-List.reduceReplicate, Nat.add_one_le_iff, -getElem?_pos, -getElem?_neg, List.getElem?_cons_zero, List.getElem?_cons_succ, iC, bC, w1, w2, w3, c1', c2', c3']))
           | ((with_reducible first | refine awp_reg 48 hX [0, 1, 2, 6, 7, 8, 9, 10, 21, 33, 39] ?_ | change postOf _ _ _ _ _); simp [-List.reduceReplicate, Nat.add_one_le_iff, -getElem?_pos, -getElem?_neg, List.getElem?_cons_zero, List.getElem?_cons_succ, iC, bC, w1, w2, w3, c1', c2', c3'])
           | ((first | (refine (q0).det ?_) | (refine (q1).det ?_) | (refine (q2).det ?_)); try simp [-List.reduceReplicate, Nat.add_one_le_iff, -getElem?_pos, -getElem?_neg, List.getElem?_cons_zero, List.getElem?_cons_succ, iC, bC, w1, w2, w3, c1', c2', c3'])
           | (with_reducible refine awp_if_b rfl (fun hc => ?_) (fun hc => ?_) <;> (try simp [-getElem?_pos, -getElem?_neg] at hc) <;> (try (exfalso; omega)))
           | ((with_reducible first | refine GuardK_b (fun hc => ?_) (fun hc => ?_)) <;> (try simp only [Bool.not_eq_true', Bool.not_eq_false', decide_eq_true_eq, decide_eq_false_iff_not] at hc) <;> (first | (exfalso; omega) | skip) <;> simp [-List.reduceReplicate, Nat.add_one_le_iff, -getElem?_pos, -getElem?_neg, List.getElem?_cons_zero, List.getElem?_cons_succ, iC, bC, w1, w2, w3, c1', c2', c3', hc])
           | ((with_reducible first | refine hother _ _ rfl ?_); simp only [inBlockA, thenA, noGotoA, Nat.reduceEqDiff, if_false, if_true, ↓reduceIte])
           | (with_reducible refine And.intro (by omega) ?_)
           | fail)
          exact hnext _ _ (by omega) nx (by simp [keep, iC]) rfl
    · have c3' : ¬ 2 * (i : Int) + 1 + 1 < n := by omega
      rw [if_neg c3] at hch
      rw [hch] at q1 q2 hnx hno hnext k1
      push_cast at q1 q2
      cases c5 : rlt (at' l' (2 * i + 1)) (at' l' i)
      · rw [c5] at q1
        have e := hno c5
        subst e
        rw [hbox] at q1 hQ2 ⊢
        generalize rowO l' g = ro at *
        repeat' (first 
         | (with_reducible first | refine awp_scope ?_ | refine awp_seq ?_ | refine awp_block ?_)
         | ((with_reducible first | refine awp_label ?_ | refine awp_skip ?_); try simp only [thenA, inBlockA, noGotoA])
         | (with_reducible refine awp_exit ?_; simp only [thenA, inBlockA, noGotoA, if_true, Nat.reduceEqDiff, if_false, ↓reduceIte])
         | (with_reducible refine awp_ret ?_; (try simp only [thenA, inBlockA, noGotoA]); (try simp [-List.reduceReplicate, Nat.add_one_le_iff, -getElem?_pos, -getElem?_neg, List.getElem?_cons_zero, List.getElem?_cons_succ, iC, bC, w1, w2, w3, c1', c2', c3']))
         | ((with_reducible first | refine awp_reg 48 hX [0, 1, 2, 6, 7, 8, 9, 10, 21, 33, 39] ?_ | change postOf _ _ _ _ _); simp [-List.reduceReplicate, Nat.add_one_le_iff, -getElem?_pos, -getElem?_neg, List.getElem?_cons_zero, List.getElem?_cons_succ, iC, bC, w1, w2, w3, c1', c2', c3'])
         | ((first | (refine (q1).det ?_)); try simp [-List.reduceReplicate, Nat.add_one_le_iff, -getElem?_pos, -getElem?_neg, List.getElem?_cons_zero, List.getElem?_cons_succ, iC, bC, w1, w2, w3, c1', c2', c3'])
         | (with_reducible refine awp_if_b rfl (fun hc => ?_) (fun hc => ?_) <;> (try simp [-getElem?_pos, -getElem?_neg] at hc) <;> (try (exfalso; omega)))
         | ((with_reducible first | refine GuardK_b (fun hc => ?_) (fun hc => ?_)) <;> (try simp only [Bool.not_eq_true', Bool.not_eq_false', decide_eq_true_eq, decide_eq_false_iff_not] at hc) <;> (first | (exfalso; omega) | skip) <;> simp [-List.reduceReplicate, Nat.add_one_le_iff, -getElem?_pos, -getElem?_neg, List.getElem?_cons_zero, List.getElem?_cons_succ, iC, bC, w1, w2, w3, c1', c2', c3', hc])
         | ((with_reducible first | refine hother _ _ rfl ?_); simp only [inBlockA, thenA, noGotoA, Nat.reduceEqDiff, if_false, if_true, ↓reduceIte])
         | (with_reducible refine And.intro (by omega) ?_)
         | fail)
        exact hQ2 _
      · rw [c5] at q1
        have nx := hnx c5
        rw [hbox] at q1 q2 hnext ⊢
        simp only at hnext
        generalize rowO l' g = ro at *
        generalize rowO (swp l' i (2 * i + 1)) g = ro2 at *
        repeat' (first 
         | (with_reducible first | refine awp_scope ?_ | refine awp_seq ?_ | refine awp_block ?_)
         | ((with_reducible first | refine awp_label ?_ | refine awp_skip ?_); try simp only [thenA, inBlockA, noGotoA])
         | (with_reducible refine awp_exit ?_; simp only [thenA, inBlockA, noGotoA, if_true, Nat.reduceEqDiff, if_false, ↓reduceIte])
         | (with_reducible refine awp_ret ?_; (try simp only [thenA, inBlockA, noGotoA]); (try simp [-List.reduceReplicate, Nat.add_one_le_iff, -getElem?_pos, -getElem?_neg, List.getElem?_cons_zero, List.getElem?_cons_succ, iC, bC, w1, w2, w3, c1', c2', c3']))
         | ((with_reducible first | refine awp_reg 48 hX [0, 1, 2, 6, 7, 8, 9, 10, 21, 33, 39] ?_ | change postOf _ _ _ _ _); simp [-List.reduceReplicate, Nat.add_one_le_iff, -getElem?_pos, -getElem?_neg, List.getElem?_cons_zero, List.getElem?_cons_succ, iC, bC, w1, w2, w3, c1', c2', c3'])
         | ((first | (refine (q1).det ?_) | (refine (q2).det ?_)); try simp [-List.reduceReplicate, Nat.add_one_le_iff, -getElem?_pos, -getElem?_neg, List.getElem?_cons_zero, List.getElem?_cons_succ, iC, bC, w1, w2, w3, c1', c2', c3'])
         | (with_reducible refine awp_if_b rfl (fun hc => ?_) (fun hc => ?_) <;> (try simp [-getElem?_pos, -getElem?_neg] at hc) <;> (try (exfalso; omega)))
         | ((with_reducible first | refine GuardK_b (fun hc => ?_) (fun hc => ?_)) <;> (try simp only [Bool.not_eq_true', Bool.not_eq_false', decide_eq_true_eq, decide_eq_false_iff_not] at hc) <;> (first | (exfalso; omega) | skip) <;> simp [-List.reduceReplicate, Nat.add_one_le_iff, -getElem?_pos, -getElem?_neg, List.getElem?_cons_zero, List.getElem?_cons_succ, iC, bC, w1, w2, w3, c1', c2', c3', hc])
         | ((with_reducible first | refine hother _ _ rfl ?_); simp only [inBlockA, thenA, noGotoA, Nat.reduceEqDiff, if_false, if_true, ↓reduceIte])
         | (with_reducible refine And.intro (by omega) ?_)
         | fail)
        exact hnext _ _ (by omega) nx (by simp [keep, iC]) rfl
theorem rowLen_den (b gb : Ob) (cs : List C) (g n : Nat) : Den Try.prog 62 [.ms 2 g 0 n] [b, gb, ⟨97, 3, false, g, up cs, none⟩] (fun r ob' => r = .c (iC n) ∧ ob' = [b, gb, ⟨97, 3, false, g, up cs, none⟩]) := by
  refine den_of Try.func62 rfl rfl (by simp [Try.ntmps62]) (fun X hX hO => ?_)
  rw [Try.ntmps62] at hX
  simp only [Try.results62]
  repeat' (first 
   | (with_reducible first | refine awp_scope ?_ | refine awp_seq ?_ | refine awp_block ?_)
   | ((with_reducible first | refine awp_label ?_ | refine awp_skip ?_); try simp only [thenA, inBlockA, noGotoA])
   | (with_reducible refine awp_exit ?_; simp only [thenA, inBlockA, noGotoA, if_true, Nat.reduceEqDiff, if_false, ↓reduceIte])
   | (with_reducible refine awp_ret ?_; (try simp only [thenA, inBlockA, noGotoA]); (try simp [-List.reduceReplicate, Nat.add_one_le_iff, -getElem?_pos, -getElem?_neg, List.getElem?_cons_zero, List.getElem?_cons_succ, iC]))
   | ((with_reducible first | refine awp_reg 5 hX [0, 2] ?_ | change postOf _ _ _ _ _); simp [-List.reduceReplicate, Nat.add_one_le_iff, -getElem?_pos, -getElem?_neg, List.getElem?_cons_zero, List.getElem?_cons_succ, iC])
   | (with_reducible refine awp_if_b rfl (fun hc => ?_) (fun hc => ?_) <;> (try simp [-getElem?_pos, -getElem?_neg] at hc) <;> (try (exfalso; omega)))
   | ((with_reducible first | refine GuardK_b (fun hc => ?_) (fun hc => ?_)) <;> (try simp only [Bool.not_eq_true', Bool.not_eq_false', decide_eq_true_eq, decide_eq_false_iff_not] at hc) <;> (first | (exfalso; omega) | skip) <;> simp [-List.reduceReplicate, Nat.add_one_le_iff, -getElem?_pos, -getElem?_neg, List.getElem?_cons_zero, List.getElem?_cons_succ, iC, hc])
   | (with_reducible refine And.intro (by omega) ?_)
   | fail)
set_option maxHeartbeats 4000000 in
theorem hpush0_den (x : Run) : Den Try.prog 61 [hM, .c (.ifc 97 true (runrC x))] [boxE] (fun r ob' => r = .tup [] ∧ ob' = [boxO 1 0, garO x, rowO (pushL rlt [] x) 0]) := by
  have p1 := push0_den x
  have p2 := up_den (garO x) [x] 0 1 0 1 (by omega) (by simp) (by omega) (by simp)
  have e : pushL rlt [] x = upF rlt 1 [x] 0 := rfl
  rw [e]
  have hbox : ∀ n g, boxO n g = ⟨94, 1, false, 0, [.ms 2 g 0 n], none⟩ := fun _ _ => rfl
  have hl : rowO [x] 0 = ⟨97, 3, false, 0, up (rowC [x]), none⟩ := rfl
  have hw0 := wrap_in 0 (by omega)
  simp only [hbox] at *
  generalize rowO (upF rlt 1 [x] 0) 0 = ro2 at *
  generalize garO x = gb at *
  rw [hl] at p1 p2
  generalize rowC [x] = cs at *
  have p0 := rowLen_den ⟨94, 1, false, 0, [.ms 2 0 0 1], none⟩ gb cs 0 1
  refine den_of Try.func61 rfl rfl (by simp [Try.ntmps61]) (fun X hX hO => ?_)
  rw [Try.ntmps61] at hX
  simp only [Try.results61]
  repeat' (first 
   | (with_reducible first | refine awp_scope ?_ | refine awp_seq ?_ | refine awp_block ?_)
   | ((with_reducible first | refine awp_label ?_ | refine awp_skip ?_); try simp only [thenA, inBlockA, noGotoA])
   | (with_reducible refine awp_exit ?_; simp only [thenA, inBlockA, noGotoA, if_true, Nat.reduceEqDiff, if_false, ↓reduceIte])
   | (with_reducible refine awp_ret ?_; (try simp only [thenA, inBlockA, noGotoA]); (try simp [-List.reduceReplicate, Nat.add_one_le_iff, -getElem?_pos, -getElem?_neg, List.getElem?_cons_zero, List.getElem?_cons_succ, iC, bC, hw0]))
   | ((with_reducible first | refine awp_reg 12 hX [0] ?_ | change postOf _ _ _ _ _); simp [-List.reduceReplicate, Nat.add_one_le_iff, -getElem?_pos, -getElem?_neg, List.getElem?_cons_zero, List.getElem?_cons_succ, iC, bC, hw0])
   | ((first | (refine (p1).det ?_) | (refine (p0).det ?_) | (refine (p2).det ?_)); try simp [-List.reduceReplicate, Nat.add_one_le_iff, -getElem?_pos, -getElem?_neg, List.getElem?_cons_zero, List.getElem?_cons_succ, iC, bC, hw0])
   | (with_reducible refine awp_if_b rfl (fun hc => ?_) (fun hc => ?_) <;> (try simp [-getElem?_pos, -getElem?_neg] at hc) <;> (try (exfalso; omega)))
   | ((with_reducible first | refine GuardK_b (fun hc => ?_) (fun hc => ?_)) <;> (try simp only [Bool.not_eq_true', Bool.not_eq_false', decide_eq_true_eq, decide_eq_false_iff_not] at hc) <;> (first | (exfalso; omega) | skip) <;> simp [-List.reduceReplicate, Nat.add_one_le_iff, -getElem?_pos, -getElem?_neg, List.getElem?_cons_zero, List.getElem?_cons_succ, iC, bC, hw0, hc])
   | (with_reducible refine And.intro (by omega) ?_)
   | fail)
theorem hpush_den (gb : Ob) (hgb : gb.cs.all (ltB 3) = true) (l : List Run) (g : Nat) (x : Run) (hN : l.length ≤ 100000) : Den Try.prog 61 [hM, .c (.ifc 97 true (runrC x))] [boxO l.length g, gb, rowO l g] (fun r ob' => r = .tup [] ∧ ob' = [boxO (l.length + 1) (g + 1), gb, rowO (pushL rlt l x) (g + 1)]) := by
  have p1 := push_den gb hgb l g x (by omega)
  have p2 := up_den gb (l ++ [x]) (g + 1) (l.length + 1) l.length (l.length + 1) (by omega) (by simp) (by omega) (by simp; omega)
  have e : pushL rlt l x = upF rlt (l.length + 1) (l ++ [x]) l.length := rfl
  rw [e]
  have hbox : ∀ n g, boxO n g = ⟨94, 1, false, 0, [.ms 2 g 0 n], none⟩ := fun _ _ => rfl
  have hl : rowO (l ++ [x]) (g + 1) = ⟨97, 3, false, g + 1, up (rowC (l ++ [x])), none⟩ := rfl
  have hw0 := wrap_in (l.length : Int) (by omega)
  simp only [hbox] at *
  generalize rowO (upF rlt (l.length + 1) (l ++ [x]) l.length) (g + 1) = ro2 at *
  rw [hl] at p1 p2
  generalize rowC (l ++ [x]) = cs at *
  generalize rowO l g = ro at *
  generalize l.length = n at *
  have p0 := rowLen_den ⟨94, 1, false, 0, [.ms 2 (g + 1) 0 (n + 1)], none⟩ gb cs (g + 1) (n + 1)
  refine den_of Try.func61 rfl rfl (by simp [Try.ntmps61]) (fun X hX hO => ?_)
  rw [Try.ntmps61] at hX
  simp only [Try.results61]
  repeat' (first 
   | (with_reducible first | refine awp_scope ?_ | refine awp_seq ?_ | refine awp_block ?_)
   | ((with_reducible first | refine awp_label ?_ | refine awp_skip ?_); try simp only [thenA, inBlockA, noGotoA])
   | (with_reducible refine awp_exit ?_; simp only [thenA, inBlockA, noGotoA, if_true, Nat.reduceEqDiff, if_false, ↓reduceIte])
   | (with_reducible refine awp_ret ?_; (try simp only [thenA, inBlockA, noGotoA]); (try simp [-List.reduceReplicate, Nat.add_one_le_iff, -getElem?_pos, -getElem?_neg, List.getElem?_cons_zero, List.getElem?_cons_succ, iC, bC, hw0]))
   | ((with_reducible first | refine awp_reg 12 hX [0] ?_ | change postOf _ _ _ _ _); simp [-List.reduceReplicate, Nat.add_one_le_iff, -getElem?_pos, -getElem?_neg, List.getElem?_cons_zero, List.getElem?_cons_succ, iC, bC, hw0])
   | ((first | (refine (p1).det ?_) | (refine (p0).det ?_) | (refine (p2).det ?_)); try simp [-List.reduceReplicate, Nat.add_one_le_iff, -getElem?_pos, -getElem?_neg, List.getElem?_cons_zero, List.getElem?_cons_succ, iC, bC, hw0])
   | (with_reducible refine awp_if_b rfl (fun hc => ?_) (fun hc => ?_) <;> (try simp [-getElem?_pos, -getElem?_neg] at hc) <;> (try (exfalso; omega)))
   | ((with_reducible first | refine GuardK_b (fun hc => ?_) (fun hc => ?_)) <;> (try simp only [Bool.not_eq_true', Bool.not_eq_false', decide_eq_true_eq, decide_eq_false_iff_not] at hc) <;> (first | (exfalso; omega) | skip) <;> simp [-List.reduceReplicate, Nat.add_one_le_iff, -getElem?_pos, -getElem?_neg, List.getElem?_cons_zero, List.getElem?_cons_succ, iC, bC, hw0, hc])
   | (with_reducible refine And.intro (by omega) ?_)
   | fail)
set_option maxHeartbeats 4000000 in
theorem hpop_den (gb : Ob) (hgb : gb.cs.all (ltB 3) = true) (l : List Run) (g n : Nat) (hn : n + 1 ≤ l.length) (hN : l.length ≤ 100000) :
    Den Try.prog 63 [hM] [boxO (n + 1) g, gb, rowO l g] (fun r ob' => r = .c (.ifc 97 true (runrC (at' (popL rlt l n) n))) ∧ ob' = [boxP n g, gb, rowO (popL rlt l n) g]) := by
  have p1 := swap_den (boxO (n + 1) g) gb l g (n + 1) 0 n (by omega) (by omega) (by omega)
  have p2 := down_den gb (swp l 0 n) g (n + 1) n (n + 1) (by omega) (by rw [swp_len]; omega) (by omega) (by rw [swp_len]; omega)
  have p3 := pop_den gb hgb (popL rlt l n) g n (by rw [popL_len]; omega) (by rw [popL_len]; omega)
  have e : popL rlt l n = dnF rlt n (n + 1) (swp l 0 n) 0 := rfl
  rw [← e] at p2
  have hbox : ∀ n g, boxO n g = ⟨94, 1, false, 0, [.ms 2 g 0 n], none⟩ := fun _ _ => rfl
  have hl : rowO l g = ⟨97, 3, false, g, up (rowC l), none⟩ := rfl
  have hw0 := wrap_in (n : Int) (by omega)
  simp only [hbox] at *
  generalize runrC (at' (popL rlt l n) n) = rc at *
  generalize boxP n g = bp at *
  generalize popL rlt l n = l2 at *
  generalize swp l 0 n = l1 at *
  generalize rowO l2 g = ro2 at *
  generalize rowO l1 g = ro1 at *
  rw [hl] at p1 ⊢
  generalize rowC l = cs at *
  have p0 := rowLen_den ⟨94, 1, false, 0, [.ms 2 g 0 (n + 1)], none⟩ gb cs g (n + 1)
  refine den_of Try.func63 rfl rfl (by simp [Try.ntmps63]) (fun X hX hO => ?_)
  rw [Try.ntmps63] at hX
  simp only [Try.results63]
  repeat' (first 
   | (with_reducible first | refine awp_scope ?_ | refine awp_seq ?_ | refine awp_block ?_)
   | ((with_reducible first | refine awp_label ?_ | refine awp_skip ?_); try simp only [thenA, inBlockA, noGotoA])
   | (with_reducible refine awp_exit ?_; simp only [thenA, inBlockA, noGotoA, if_true, Nat.reduceEqDiff, if_false, ↓reduceIte])
   | (with_reducible refine awp_ret ?_; (try simp only [thenA, inBlockA, noGotoA]); (try simp [-List.reduceReplicate, Nat.add_one_le_iff, -getElem?_pos, -getElem?_neg, List.getElem?_cons_zero, List.getElem?_cons_succ, iC, bC, hw0]))
   | ((with_reducible first | refine awp_reg 15 hX [0, 2, 3] ?_ | change postOf _ _ _ _ _); simp [-List.reduceReplicate, Nat.add_one_le_iff, -getElem?_pos, -getElem?_neg, List.getElem?_cons_zero, List.getElem?_cons_succ, iC, bC, hw0])
   | ((first | (refine (p0).det ?_) | (refine (p1).det ?_)); try simp [-List.reduceReplicate, Nat.add_one_le_iff, -getElem?_pos, -getElem?_neg, List.getElem?_cons_zero, List.getElem?_cons_succ, iC, bC, hw0])
   | (with_reducible refine awp_if_b rfl (fun hc => ?_) (fun hc => ?_) <;> (try simp [-getElem?_pos, -getElem?_neg] at hc) <;> (try (exfalso; omega)))
   | ((with_reducible first | refine GuardK_b (fun hc => ?_) (fun hc => ?_)) <;> (try simp only [Bool.not_eq_true', Bool.not_eq_false', decide_eq_true_eq, decide_eq_false_iff_not] at hc) <;> (first | (exfalso; omega) | skip) <;> simp [-List.reduceReplicate, Nat.add_one_le_iff, -getElem?_pos, -getElem?_neg, List.getElem?_cons_zero, List.getElem?_cons_succ, iC, bC, hw0, hc])
   | (with_reducible refine And.intro (by omega) ?_)
   | fail)
  refine p2.mono ?_
  rintro _ _ ⟨b, rfl, rfl⟩
  repeat' (first 
   | (with_reducible first | refine awp_scope ?_ | refine awp_seq ?_ | refine awp_block ?_)
   | ((with_reducible first | refine awp_label ?_ | refine awp_skip ?_); try simp only [thenA, inBlockA, noGotoA])
   | (with_reducible refine awp_exit ?_; simp only [thenA, inBlockA, noGotoA, if_true, Nat.reduceEqDiff, if_false, ↓reduceIte])
   | (with_reducible refine awp_ret ?_; (try simp only [thenA, inBlockA, noGotoA]); (try simp [-List.reduceReplicate, Nat.add_one_le_iff, -getElem?_pos, -getElem?_neg, List.getElem?_cons_zero, List.getElem?_cons_succ, iC, bC]))
   | ((with_reducible first | refine awp_reg 15 hX [0, 2, 3] ?_ | change postOf _ _ _ _ _); simp [-List.reduceReplicate, Nat.add_one_le_iff, -getElem?_pos, -getElem?_neg, List.getElem?_cons_zero, List.getElem?_cons_succ, iC, bC])
   | ((first | (refine (p3).det ?_)); try simp [-List.reduceReplicate, Nat.add_one_le_iff, -getElem?_pos, -getElem?_neg, List.getElem?_cons_zero, List.getElem?_cons_succ, iC, bC])
   | (with_reducible refine awp_if_b rfl (fun hc => ?_) (fun hc => ?_) <;> (try simp [-getElem?_pos, -getElem?_neg] at hc) <;> (try (exfalso; omega)))
   | ((with_reducible first | refine GuardK_b (fun hc => ?_) (fun hc => ?_)) <;> (try simp only [Bool.not_eq_true', Bool.not_eq_false', decide_eq_true_eq, decide_eq_false_iff_not] at hc) <;> (first | (exfalso; omega) | skip) <;> simp [-List.reduceReplicate, Nat.add_one_le_iff, -getElem?_pos, -getElem?_neg, List.getElem?_cons_zero, List.getElem?_cons_succ, iC, bC, hc])
   | (with_reducible refine And.intro (by omega) ?_)
   | fail)
end Go.Av
