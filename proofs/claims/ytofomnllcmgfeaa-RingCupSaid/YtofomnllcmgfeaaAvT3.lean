import Derived.Test.YtofomnllcmgfeaaAvT2
set_option linter.unusedVariables false
set_option linter.unusedSimpArgs false
namespace Go.Av
open Go Go.Proofs Go.Proofs.Ytofomnllcmgfeaa
attribute [local simp] Try.underlying31 Try.underlying22 Try.underlying3
set_option maxRecDepth 100000 in
set_option maxHeartbeats 2000000 in
theorem beats40_den (v : List (List Int)) (i k : Int) (ob : List Ob) : Den Try.prog 57 [.c (rowsC v), .c (iC i), .c (iC k)] ob (fun r ob' => r = .c (bC (beats v i k)) ∧ ob' = ob) := by
  refine den_of Try.func57 rfl rfl (by simp [Try.ntmps57]) (fun X hX hO => ?_)
  rw [Try.ntmps57] at hX
  simp only [Try.results57]
  refine awp_seq (awp_region ?_)
  rw [hX]
  simp [iC, rowsC]
  refine awp_seq (awp_region ?_)
  rw [hX]
  have fin : ∀ (fr : List (Nat × M)) (b : Bool), get fr 6 = some (.c (bC b)) → b = beats v i k → thenA (Awp Try.prog X Code.ret (postOf Try.prog [ResultVar.tmp 6] fun r ob' => r = .c (bC (beats v i k)) ∧ ob' = ob)) (postOf Try.prog [ResultVar.tmp 6] fun r ob' => r = .c (bC (beats v i k)) ∧ ob' = ob) Exit.normal ⟨fr, ob⟩ := by
    intro fr b h1 h2
    refine awp_ret ?_
    simp [h1, h2]
  generalize hQ : (thenA _ _ _ : St → Prop) = K at fin
  clear hQ
  by_cases h1 : 0 ≤ i
  · by_cases h2 : i < v.length
    · obtain ⟨r, hr⟩ := getI v i h1 h2
      by_cases h3 : 0 ≤ k
      · by_cases h4 : k < r.length
        · obtain ⟨x, hx⟩ := getI r k h3 h4
          simp [-getElem?_pos, iC, rowsC, h1, h2, h3, h4, hr, intsC, hx]
          exact fin _ (decide (0 < x)) (by simp [bC]) (by simp [-getElem?_pos, beats, row, hr, h1, h2, h3, h4, hx])
        · simp [-getElem?_pos, iC, rowsC, h1, h2, h3, h4, hr, intsC]
          exact fin _ false (by simp [bC]) (by simp [-getElem?_pos, beats, row, hr, h1, h2, h3, h4])
      · simp [-getElem?_pos, iC, rowsC, h1, h2, h3]
        exact fin _ false (by simp [bC]) (by simp [beats, h3])
    · simp [-getElem?_pos, iC, rowsC, h1, h2]
      exact fin _ false (by simp [bC]) (by simp [beats, h2])
  · simp [-getElem?_pos, iC, rowsC, h1]
    exact fin _ false (by simp [bC]) (by simp [beats, h1])
def winsTo (v : List (List Int)) (i : Int) (m : Nat) : Nat := ((List.range m).filter fun (k : Nat) => !decide ((k : Int) = i) && beats v i k).length
theorem winsTo_succ (v : List (List Int)) (i : Int) (m : Nat) : winsTo v i (m + 1) = winsTo v i m + if (!decide ((m : Int) = i) && beats v i m) = true then 1 else 0 := by
  unfold winsTo
  rw [List.range_succ, List.filter_append, List.length_append]
  congr 1
  simp only [List.filter_cons, List.filter_nil]
  split <;> rfl
theorem winsTo_le (v : List (List Int)) (i : Int) (m : Nat) : winsTo v i m ≤ m := by
  unfold winsTo
  exact Nat.le_trans (List.length_filter_le _ _) (by simp)
set_option maxRecDepth 100000 in
set_option maxHeartbeats 2000000 in
theorem wins_den (v : List (List Int)) (i : Int) (ob : List Ob) (hn : v.length ≤ 1000000) : Den Try.prog 29 [.c (rowsC v), .c (iC i)] ob (fun r ob' => r = .c (iC (winsTo v i v.length)) ∧ ob' = ob) := by
  refine den_of Try.func29 rfl rfl (by simp [Try.ntmps29]) (fun X hX hO => ?_)
  rw [Try.ntmps29] at hX
  simp only [Try.results29]
  repeat' (first 
   | (with_reducible first | refine awp_scope ?_ | refine awp_seq ?_ | refine awp_block ?_)
   | ((with_reducible first | refine awp_label ?_ | refine awp_skip ?_); try simp only [thenA, inBlockA, noGotoA])
   | (with_reducible refine awp_exit ?_; simp only [thenA, inBlockA, noGotoA, if_true, Nat.reduceEqDiff, if_false, ↓reduceIte])
   | (with_reducible refine awp_ret ?_; (try simp only [thenA, inBlockA, noGotoA]); (try simp [-List.reduceReplicate, Nat.add_one_le_iff, -getElem?_pos, -getElem?_neg, List.getElem?_cons_zero, List.getElem?_cons_succ, rowsC, iC]))
   | ((with_reducible first | refine awp_reg 25 hX [0, 1, 4, 5, 6, 10, 21] ?_ | change postOf _ _ _ _ _); simp [-List.reduceReplicate, Nat.add_one_le_iff, -getElem?_pos, -getElem?_neg, List.getElem?_cons_zero, List.getElem?_cons_succ, rowsC, iC])
   | (with_reducible refine awp_if_b rfl (fun hc => ?_) (fun hc => ?_) <;> (try simp [-getElem?_pos, -getElem?_neg] at hc) <;> (try (exfalso; omega)))
   | ((with_reducible first | refine GuardK_b (fun hc => ?_) (fun hc => ?_)) <;> (try simp only [Bool.not_eq_true', Bool.not_eq_false', decide_eq_true_eq, decide_eq_false_iff_not] at hc) <;> (first | (exfalso; omega) | skip) <;> simp [-List.reduceReplicate, Nat.add_one_le_iff, -getElem?_pos, -getElem?_neg, List.getElem?_cons_zero, List.getElem?_cons_succ, rowsC, iC, hc])
   | ((with_reducible first | refine hother _ _ rfl ?_); simp only [inBlockA, thenA, noGotoA, Nat.reduceEqDiff, if_false, if_true, ↓reduceIte])
   | (with_reducible refine And.intro (by omega) ?_)
   | fail)
  refine awp_for [0, 1, 5, 6] (fun k (_ : Unit) => ⟨[(0, .c (rowsC v)), (1, .c (iC i)), (5, .c (iC (winsTo v i k))), (6, .c (iC k))], ob⟩) (fun _ _ => True) v.length () trivial (by simp [rowsC, iC, winsTo]) ?_
  intro k _ Q1 hk _ next hother
  have hw := winsTo_le v i k
  have hwk := wrap_succ k (by omega)
  have hww := wrap_succ (winsTo v i k) (by omega)
  have hs := winsTo_succ v i k
  repeat' (first 
   | (with_reducible first | refine awp_scope ?_ | refine awp_seq ?_ | refine awp_block ?_)
   | ((with_reducible first | refine awp_label ?_ | refine awp_skip ?_); try simp only [thenA, inBlockA, noGotoA])
   | (with_reducible refine awp_exit ?_; simp only [thenA, inBlockA, noGotoA, if_true, Nat.reduceEqDiff, if_false, ↓reduceIte])
   | (with_reducible refine awp_ret ?_; (try simp only [thenA, inBlockA, noGotoA]); (try simp [-List.reduceReplicate, Nat.add_one_le_iff, -getElem?_pos, -getElem?_neg, List.getElem?_cons_zero, List.getElem?_cons_succ, rowsC, iC, bC, hwk, hww]))
   | ((with_reducible first | refine awp_reg 25 hX [0, 1, 4, 5, 6, 10, 21] ?_ | change postOf _ _ _ _ _); simp [-List.reduceReplicate, Nat.add_one_le_iff, -getElem?_pos, -getElem?_neg, List.getElem?_cons_zero, List.getElem?_cons_succ, rowsC, iC, bC, hwk, hww])
   | ((first | ((with_reducible refine Den.at_ (f := 57) ?_); refine (beats40_den _ _ _ _).det ?_)); try simp [-List.reduceReplicate, Nat.add_one_le_iff, -getElem?_pos, -getElem?_neg, List.getElem?_cons_zero, List.getElem?_cons_succ, rowsC, iC, bC, hwk, hww])
   | (with_reducible refine awp_if_b rfl (fun hc => ?_) (fun hc => ?_) <;> (try simp [-getElem?_pos, -getElem?_neg] at hc) <;> (try (exfalso; omega)))
   | ((with_reducible first | refine GuardK_b (fun hc => ?_) (fun hc => ?_)) <;> (try simp only [Bool.not_eq_true', Bool.not_eq_false', decide_eq_true_eq, decide_eq_false_iff_not] at hc) <;> (first | (exfalso; omega) | skip) <;> simp [-List.reduceReplicate, Nat.add_one_le_iff, -getElem?_pos, -getElem?_neg, List.getElem?_cons_zero, List.getElem?_cons_succ, rowsC, iC, bC, hwk, hww, hc])
   | ((with_reducible first | refine hother _ _ rfl ?_); simp only [inBlockA, thenA, noGotoA, Nat.reduceEqDiff, if_false, if_true, ↓reduceIte])
   | (with_reducible refine And.intro (by omega) ?_)
   | fail)
  · exact next _ () (by omega) trivial (by simp_all [rowsC, iC])
  · exact next _ () (by omega) trivial (by simp_all [rowsC, iC])
  · exact next _ () (by omega) trivial (by simp_all [rowsC, iC])
  · have : k = v.length := by omega
    subst this
    repeat' (first 
     | (with_reducible first | refine awp_scope ?_ | refine awp_seq ?_ | refine awp_block ?_)
     | ((with_reducible first | refine awp_label ?_ | refine awp_skip ?_); try simp only [thenA, inBlockA, noGotoA])
     | (with_reducible refine awp_exit ?_; simp only [thenA, inBlockA, noGotoA, if_true, Nat.reduceEqDiff, if_false, ↓reduceIte])
     | (with_reducible refine awp_ret ?_; (try simp only [thenA, inBlockA, noGotoA]); (try simp [-List.reduceReplicate, Nat.add_one_le_iff, -getElem?_pos, -getElem?_neg, List.getElem?_cons_zero, List.getElem?_cons_succ]))
     | ((with_reducible first | refine awp_reg 25 hX [0, 1, 4, 5, 6, 10, 21] ?_ | change postOf _ _ _ _ _); simp [-List.reduceReplicate, Nat.add_one_le_iff, -getElem?_pos, -getElem?_neg, List.getElem?_cons_zero, List.getElem?_cons_succ])
     | (with_reducible refine awp_if_b rfl (fun hc => ?_) (fun hc => ?_) <;> (try simp [-getElem?_pos, -getElem?_neg] at hc) <;> (try (exfalso; omega)))
     | ((with_reducible first | refine GuardK_b (fun hc => ?_) (fun hc => ?_)) <;> (try simp only [Bool.not_eq_true', Bool.not_eq_false', decide_eq_true_eq, decide_eq_false_iff_not] at hc) <;> (first | (exfalso; omega) | skip) <;> simp [-List.reduceReplicate, Nat.add_one_le_iff, -getElem?_pos, -getElem?_neg, List.getElem?_cons_zero, List.getElem?_cons_succ, hc])
     | ((with_reducible first | refine hother _ _ rfl ?_); simp only [inBlockA, thenA, noGotoA, Nat.reduceEqDiff, if_false, if_true, ↓reduceIte])
     | (with_reducible refine And.intro (by omega) ?_)
     | fail)
    rfl
set_option maxRecDepth 100000 in
set_option maxHeartbeats 2000000 in
theorem same_den (a b : List Int) (ob : List Ob) (hn : a.length ≤ 1000000) : Den Try.prog 17 [.c (intsC a), .c (intsC b)] ob (fun r ob' => r = .c (bC (decide (a = b))) ∧ ob' = ob) := by
  refine den_of Try.func17 rfl rfl (by simp [Try.ntmps17]) (fun X hX hO => ?_)
  rw [Try.ntmps17] at hX
  simp only [Try.results17]
  repeat' (first 
   | (with_reducible first | refine awp_scope ?_ | refine awp_seq ?_ | refine awp_block ?_)
   | ((with_reducible first | refine awp_label ?_ | refine awp_skip ?_); try simp only [thenA, inBlockA, noGotoA])
   | (with_reducible refine awp_exit ?_; simp only [thenA, inBlockA, noGotoA, if_true, Nat.reduceEqDiff, if_false, ↓reduceIte])
   | (with_reducible refine awp_ret ?_; (try simp only [thenA, inBlockA, noGotoA]); (try simp [-List.reduceReplicate, Nat.add_one_le_iff, -getElem?_pos, -getElem?_neg, List.getElem?_cons_zero, List.getElem?_cons_succ, intsC, iC, bC]))
   | ((with_reducible first | refine awp_reg 26 hX [0, 1, 4, 5, 10, 14, 25] ?_ | refine awp_drw 26 hX [0, 1, 4, 5, 10, 14, 25] Tab.mixed (by kernel_rfl) ?_ | refine DEv_cut _ _ _ _ _ _ _ _ _ _ _ _ (by kernel_rfl) ?_ | change postOf _ _ _ _ _); simp [-List.reduceReplicate, Nat.add_one_le_iff, -getElem?_pos, -getElem?_neg, List.getElem?_cons_zero, List.getElem?_cons_succ, intsC, iC, bC])
   | (with_reducible refine awp_if_b rfl (fun hc => ?_) (fun hc => ?_) <;> (try simp [-getElem?_pos, -getElem?_neg] at hc) <;> (try (exfalso; omega)))
   | ((with_reducible first | refine GuardK_b (fun hc => ?_) (fun hc => ?_) | refine DGuard_b _ _ _ _ _ _ _ _ _ _ (fun hc => ?_) (fun hc => ?_)) <;> (try simp only [Bool.not_eq_true', Bool.not_eq_false', decide_eq_true_eq, decide_eq_false_iff_not] at hc) <;> (first | (exfalso; omega) | skip) <;> simp [-List.reduceReplicate, Nat.add_one_le_iff, -getElem?_pos, -getElem?_neg, List.getElem?_cons_zero, List.getElem?_cons_succ, intsC, iC, bC, hc])
   | ((with_reducible first | refine hother _ _ rfl ?_); simp only [inBlockA, thenA, noGotoA, Nat.reduceEqDiff, if_false, if_true, ↓reduceIte])
   | (with_reducible refine And.intro (by omega) ?_)
   | fail)
  · intro e
    subst e
    simp at *
  refine awp_for [0, 1, 5] (fun k (_ : Unit) => ⟨[(0, .c (intsC a)), (1, .c (intsC b)), (5, .c (iC k))], ob⟩) (fun k _ => ∀ j : Nat, j < k → a[j]? = b[j]?) a.length () (by intro j hj; omega) (by simp [intsC, iC]) ?_
  intro k _ Q1 hk hH next hother
  have hwk := wrap_succ k (by omega)
  by_cases hlt : k < a.length
  · obtain ⟨x, hx⟩ := getI a k (by omega) (by omega)
    obtain ⟨y, hy⟩ := getI b k (by omega) (by omega)
    simp at hx hy
    repeat' (first 
     | (with_reducible first | refine awp_scope ?_ | refine awp_seq ?_ | refine awp_block ?_)
     | ((with_reducible first | refine awp_label ?_ | refine awp_skip ?_); try simp only [thenA, inBlockA, noGotoA])
     | (with_reducible refine awp_exit ?_; simp only [thenA, inBlockA, noGotoA, if_true, Nat.reduceEqDiff, if_false, ↓reduceIte])
     | (with_reducible refine awp_ret ?_; (try simp only [thenA, inBlockA, noGotoA]); (try simp [-List.reduceReplicate, Nat.add_one_le_iff, -getElem?_pos, -getElem?_neg, List.getElem?_cons_zero, List.getElem?_cons_succ, intsC, iC, bC, hwk, hlt, hx, hy, (show k < b.length by omega)]))
     | ((with_reducible first | refine awp_reg 26 hX [0, 1, 4, 5, 10, 14, 25] ?_ | refine awp_drw 26 hX [0, 1, 4, 5, 10, 14, 25] Tab.mixed (by kernel_rfl) ?_ | refine DEv_cut _ _ _ _ _ _ _ _ _ _ _ _ (by kernel_rfl) ?_ | change postOf _ _ _ _ _); simp [-List.reduceReplicate, Nat.add_one_le_iff, -getElem?_pos, -getElem?_neg, List.getElem?_cons_zero, List.getElem?_cons_succ, intsC, iC, bC, hwk, hlt, hx, hy, (show k < b.length by omega)])
     | (with_reducible refine awp_if_b rfl (fun hc => ?_) (fun hc => ?_) <;> (try simp [-getElem?_pos, -getElem?_neg] at hc) <;> (try (exfalso; omega)))
     | ((with_reducible first | refine GuardK_b (fun hc => ?_) (fun hc => ?_) | refine DGuard_b _ _ _ _ _ _ _ _ _ _ (fun hc => ?_) (fun hc => ?_)) <;> (try simp only [Bool.not_eq_true', Bool.not_eq_false', decide_eq_true_eq, decide_eq_false_iff_not] at hc) <;> (first | (exfalso; omega) | skip) <;> simp [-List.reduceReplicate, Nat.add_one_le_iff, -getElem?_pos, -getElem?_neg, List.getElem?_cons_zero, List.getElem?_cons_succ, intsC, iC, bC, hwk, hlt, hx, hy, (show k < b.length by omega), hc])
     | ((with_reducible first | refine hother _ _ rfl ?_); simp only [inBlockA, thenA, noGotoA, Nat.reduceEqDiff, if_false, if_true, ↓reduceIte])
     | (with_reducible refine And.intro (by omega) ?_)
     | fail)
    · have hne : ¬ a = b := fun e => by
        subst e
        rw [hx] at hy
        exact ‹¬ x = y› (Option.some.inj hy)
      simp [hne]
    · refine next _ () hlt (fun j hj => ?_) (by simp [intsC, iC])
      by_cases e : j = k
      · subst e; rw [hx, hy]; simpa using ‹x = y›
      · exact hH j (by omega)
  · repeat' (first 
     | (with_reducible first | refine awp_scope ?_ | refine awp_seq ?_ | refine awp_block ?_)
     | ((with_reducible first | refine awp_label ?_ | refine awp_skip ?_); try simp only [thenA, inBlockA, noGotoA])
     | (with_reducible refine awp_exit ?_; simp only [thenA, inBlockA, noGotoA, if_true, Nat.reduceEqDiff, if_false, ↓reduceIte])
     | (with_reducible refine awp_ret ?_; (try simp only [thenA, inBlockA, noGotoA]); (try simp [-List.reduceReplicate, Nat.add_one_le_iff, -getElem?_pos, -getElem?_neg, List.getElem?_cons_zero, List.getElem?_cons_succ, intsC, iC, bC, hwk, hlt]))
     | ((with_reducible first | refine awp_reg 26 hX [0, 1, 4, 5, 10, 14, 25] ?_ | refine awp_drw 26 hX [0, 1, 4, 5, 10, 14, 25] Tab.mixed (by kernel_rfl) ?_ | refine DEv_cut _ _ _ _ _ _ _ _ _ _ _ _ (by kernel_rfl) ?_ | change postOf _ _ _ _ _); simp [-List.reduceReplicate, Nat.add_one_le_iff, -getElem?_pos, -getElem?_neg, List.getElem?_cons_zero, List.getElem?_cons_succ, intsC, iC, bC, hwk, hlt])
     | (with_reducible refine awp_if_b rfl (fun hc => ?_) (fun hc => ?_) <;> (try simp [-getElem?_pos, -getElem?_neg] at hc) <;> (try (exfalso; omega)))
     | ((with_reducible first | refine GuardK_b (fun hc => ?_) (fun hc => ?_) | refine DGuard_b _ _ _ _ _ _ _ _ _ _ (fun hc => ?_) (fun hc => ?_)) <;> (try simp only [Bool.not_eq_true', Bool.not_eq_false', decide_eq_true_eq, decide_eq_false_iff_not] at hc) <;> (first | (exfalso; omega) | skip) <;> simp [-List.reduceReplicate, Nat.add_one_le_iff, -getElem?_pos, -getElem?_neg, List.getElem?_cons_zero, List.getElem?_cons_succ, intsC, iC, bC, hwk, hlt, hc])
     | ((with_reducible first | refine hother _ _ rfl ?_); simp only [inBlockA, thenA, noGotoA, Nat.reduceEqDiff, if_false, if_true, ↓reduceIte])
     | (with_reducible refine And.intro (by omega) ?_)
     | fail)
    apply List.ext_getElem?
    intro j
    by_cases hj : j < k
    · exact hH j hj
    · rw [List.getElem?_eq_none (by omega), List.getElem?_eq_none (by omega)]
end Go.Av
