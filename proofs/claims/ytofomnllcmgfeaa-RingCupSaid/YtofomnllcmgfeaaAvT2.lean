import Derived.Test.YtofomnllcmgfeaaAvT1
set_option linter.unusedVariables false
set_option linter.unusedSimpArgs false
namespace Go.Av
open Go Go.Proofs
def isTop (v : List (List Int)) (i : Nat) : Bool := (List.range v.length).all fun k => decide (k = i) || beats v i k
def topsTo (v : List (List Int)) (m : Nat) : List Int := ((List.range m).filter (isTop v)).map Int.ofNat
def tops (v : List (List Int)) : List Int := topsTo v v.length
theorem topsTo_succ (v : List (List Int)) (m : Nat) : topsTo v (m + 1) = topsTo v m ++ if isTop v m then [(m : Int)] else [] := by
  unfold topsTo
  rw [List.range_succ, List.filter_append, List.map_append]
  cases h : isTop v m <;> simp [h]
theorem topsTo_len (v : List (List Int)) (m : Nat) : (topsTo v m).length ≤ m := by
  unfold topsTo
  rw [List.length_map]
  exact Nat.le_trans (List.length_filter_le _ _) (by simp)
set_option maxRecDepth 100000 in
set_option maxHeartbeats 2000000 in
theorem tops_own (v : List (List Int)) (ob : List Ob) (hn : v.length ≤ 1000000) : Den Try.prog 33 [.c (rowsC v)] ob (fun r ob' => ∃ g o, r = .ms ob.length g 0 (tops v).length ∧ ob' = ob ++ [o] ∧ o.gen = g ∧ o.cs = up ((tops v).map iC)) := by
  refine den_of Try.func33 rfl rfl (by simp [Try.ntmps33]) (fun X hX hO => ?_)
  rw [Try.ntmps33] at hX
  simp only [Try.results33]
  generalize hQ : (fun (r : M) (ob' : List Ob) => ∃ g o, r = .ms ob.length g 0 (tops v).length ∧ ob' = ob ++ [o] ∧ o.gen = g ∧ o.cs = up ((tops v).map iC)) = Q
  repeat' (first 
   | (with_reducible first | refine awp_scope ?_ | refine awp_seq ?_ | refine awp_block ?_)
   | ((with_reducible first | refine awp_label ?_ | refine awp_skip ?_); try simp only [thenA, inBlockA, noGotoA])
   | (with_reducible refine awp_exit ?_; simp only [thenA, inBlockA, noGotoA, if_true, Nat.reduceEqDiff, if_false, ↓reduceIte])
   | (with_reducible refine awp_ret ?_; (try simp only [thenA, inBlockA, noGotoA]); (try simp [-List.reduceReplicate, Nat.add_one_le_iff, -getElem?_pos, -getElem?_neg, List.getElem?_cons_zero, List.getElem?_cons_succ, rowsC, iC]))
   | ((with_reducible first | refine awp_reg 33 hX [0, 2, 3, 4, 5, 7, 8, 9, 12, 13, 14, 25] ?_ | change postOf _ _ _ _ _); simp [-List.reduceReplicate, Nat.add_one_le_iff, -getElem?_pos, -getElem?_neg, List.getElem?_cons_zero, List.getElem?_cons_succ, rowsC, iC])
   | (with_reducible refine awp_if_b rfl (fun hc => ?_) (fun hc => ?_) <;> (try simp [-getElem?_pos, -getElem?_neg] at hc) <;> (try (exfalso; omega)))
   | ((with_reducible first | refine GuardK_b (fun hc => ?_) (fun hc => ?_)) <;> (try simp only [Bool.not_eq_true', Bool.not_eq_false', decide_eq_true_eq, decide_eq_false_iff_not] at hc) <;> (first | (exfalso; omega) | skip) <;> simp [-List.reduceReplicate, Nat.add_one_le_iff, -getElem?_pos, -getElem?_neg, List.getElem?_cons_zero, List.getElem?_cons_succ, rowsC, iC, hc])
   | ((with_reducible first | refine hother _ _ rfl ?_); simp only [inBlockA, thenA, noGotoA, Nat.reduceEqDiff, if_false, if_true, ↓reduceIte])
   | (with_reducible refine And.intro (by omega) ?_)
   | fail)
  refine awp_nil 3 3 1 (by simp) ?_
  simp
  refine awp_loop_g [0, 3, 7, 8] (fun m s => ∃ (i g : Nat) (b : Bool), i ≤ v.length ∧ m = v.length - i ∧ s = ⟨[(0, .c (rowsC v)), (3, .ms ob.length g 0 (topsTo v i).length), (7, .c (iC v.length)), (8, .c (iC i))], ob ++ [⟨3, 1, b, g, up ((topsTo v i).map iC), none⟩]⟩) v.length ?_ ?_
  · exact ⟨0, 0, true, by omega, by omega, by simp [rowsC, topsTo, iC, up]⟩
  · rintro m s Q1 ⟨i, g, b, hi, rfl, rfl⟩ hnext hexit
    have hwi := wrap_succ i (by omega)
    have hl : (topsTo v i).length ≤ i := topsTo_len v i
    have next : ∀ (s' : St) (g' : Nat) (b' : Bool), i < v.length → keep s'.fr [0, 3, 7, 8] = [(0, .c (rowsC v)), (3, .ms ob.length g' 0 (topsTo v (i + 1)).length), (7, .c (iC v.length)), (8, .c (iC (i + 1 : Nat)))] → s'.ob = ob ++ [⟨3, 1, b', g', up ((topsTo v (i + 1)).map iC), none⟩] → Q1 .normal s' := by
      intro s' g' b' h1 h2 h3
      exact hnext s' ⟨v.length - (i + 1), by omega, i + 1, g', b', by omega, rfl, by rw [h2, h3]⟩
    clear hnext
    repeat' (first 
     | (with_reducible first | refine awp_scope ?_ | refine awp_seq ?_ | refine awp_block ?_)
     | ((with_reducible first | refine awp_label ?_ | refine awp_skip ?_); try simp only [thenA, inBlockA, noGotoA])
     | (with_reducible refine awp_exit ?_; simp only [thenA, inBlockA, noGotoA, if_true, Nat.reduceEqDiff, if_false, ↓reduceIte])
     | (with_reducible refine awp_ret ?_; (try simp only [thenA, inBlockA, noGotoA]); (try simp [-List.reduceReplicate, Nat.add_one_le_iff, -getElem?_pos, -getElem?_neg, List.getElem?_cons_zero, List.getElem?_cons_succ, rowsC, iC]))
     | ((with_reducible first | refine awp_reg 33 hX [0, 2, 3, 4, 5, 7, 8, 9, 12, 13, 14, 25] ?_ | change postOf _ _ _ _ _); simp [-List.reduceReplicate, Nat.add_one_le_iff, -getElem?_pos, -getElem?_neg, List.getElem?_cons_zero, List.getElem?_cons_succ, rowsC, iC])
     | (with_reducible refine awp_if_b rfl (fun hc => ?_) (fun hc => ?_) <;> (try simp [-getElem?_pos, -getElem?_neg] at hc) <;> (try (exfalso; omega)))
     | ((with_reducible first | refine GuardK_b (fun hc => ?_) (fun hc => ?_)) <;> (try simp only [Bool.not_eq_true', Bool.not_eq_false', decide_eq_true_eq, decide_eq_false_iff_not] at hc) <;> (first | (exfalso; omega) | skip) <;> simp [-List.reduceReplicate, Nat.add_one_le_iff, -getElem?_pos, -getElem?_neg, List.getElem?_cons_zero, List.getElem?_cons_succ, rowsC, iC, hc])
     | ((with_reducible first | refine hother _ _ rfl ?_); simp only [inBlockA, thenA, noGotoA, Nat.reduceEqDiff, if_false, if_true, ↓reduceIte])
     | (with_reducible refine And.intro (by omega) ?_)
     | fail)
    · refine awp_loop_g [0, 3, 4, 7, 8, 12, 13] (fun m s => ∃ k : Nat, k ≤ v.length ∧ m = v.length - k ∧ (∀ j, j < k → j = i ∨ beats v i j = true) ∧ s = ⟨[(0, .c (rowsC v)), (3, .ms ob.length g 0 (topsTo v i).length), (4, .c (iC i)), (7, .c (iC v.length)), (8, .c (iC i)), (12, .c (iC v.length)), (13, .c (iC k))], ob ++ [⟨3, 1, b, g, up ((topsTo v i).map iC), none⟩]⟩) v.length ?_ ?_
      · exact ⟨0, by omega, by omega, fun j hj => by omega, by simp [rowsC, iC]⟩
      · rintro m s Q2 ⟨k, hk, rfl, hall, rfl⟩ hnext2 hexit2
        have hwk := wrap_succ k (by omega)
        have next2 : ∀ s' : St, k < v.length → (k = i ∨ beats v i k = true) → keep s'.fr [0, 3, 4, 7, 8, 12, 13] = [(0, .c (rowsC v)), (3, .ms ob.length g 0 (topsTo v i).length), (4, .c (iC i)), (7, .c (iC v.length)), (8, .c (iC i)), (12, .c (iC v.length)), (13, .c (iC (k + 1 : Nat)))] → s'.ob = ob ++ [⟨3, 1, b, g, up ((topsTo v i).map iC), none⟩] → Q2 .normal s' := by
          intro s' h1 h2 h3 h4
          refine hnext2 s' ⟨v.length - (k + 1), by omega, k + 1, by omega, rfl, fun j hj => ?_, by rw [h3, h4]⟩
          by_cases e : j = k
          · subst e; exact h2
          · exact hall j (by omega)
        clear hnext2
        repeat' (first 
         | (with_reducible first | refine awp_scope ?_ | refine awp_seq ?_ | refine awp_block ?_)
         | ((with_reducible first | refine awp_label ?_ | refine awp_skip ?_); try simp only [thenA, inBlockA, noGotoA])
         | (with_reducible refine awp_exit ?_; simp only [thenA, inBlockA, noGotoA, if_true, Nat.reduceEqDiff, if_false, ↓reduceIte])
         | (with_reducible refine awp_ret ?_; (try simp only [thenA, inBlockA, noGotoA]); (try simp [-List.reduceReplicate, Nat.add_one_le_iff, -getElem?_pos, -getElem?_neg, List.getElem?_cons_zero, List.getElem?_cons_succ, rowsC, iC, bC, hwk]))
         | ((with_reducible first | refine awp_reg 33 hX [0, 2, 3, 4, 5, 7, 8, 9, 12, 13, 14, 25] ?_ | change postOf _ _ _ _ _); simp [-List.reduceReplicate, Nat.add_one_le_iff, -getElem?_pos, -getElem?_neg, List.getElem?_cons_zero, List.getElem?_cons_succ, rowsC, iC, bC, hwk])
         | ((first | ((with_reducible refine Den.at_ (f := 34) ?_); refine (beats_den _ _ _ _).det ?_)); try simp [-List.reduceReplicate, Nat.add_one_le_iff, -getElem?_pos, -getElem?_neg, List.getElem?_cons_zero, List.getElem?_cons_succ, rowsC, iC, bC, hwk])
         | (with_reducible refine awp_if_b rfl (fun hc => ?_) (fun hc => ?_) <;> (try simp [-getElem?_pos, -getElem?_neg] at hc) <;> (try (exfalso; omega)))
         | ((with_reducible first | refine GuardK_b (fun hc => ?_) (fun hc => ?_)) <;> (try simp only [Bool.not_eq_true', Bool.not_eq_false', decide_eq_true_eq, decide_eq_false_iff_not] at hc) <;> (first | (exfalso; omega) | skip) <;> simp [-List.reduceReplicate, Nat.add_one_le_iff, -getElem?_pos, -getElem?_neg, List.getElem?_cons_zero, List.getElem?_cons_succ, rowsC, iC, bC, hwk, hc])
         | ((with_reducible first | refine hother _ _ rfl ?_); simp only [inBlockA, thenA, noGotoA, Nat.reduceEqDiff, if_false, if_true, ↓reduceIte])
         | (with_reducible refine And.intro (by omega) ?_)
         | fail)
        · refine hexit2 _ _ rfl ?_
          simp only [inBlockA, thenA, Nat.reduceEqDiff, if_false, if_true]
          repeat' (first 
           | (with_reducible first | refine awp_scope ?_ | refine awp_seq ?_ | refine awp_block ?_)
           | ((with_reducible first | refine awp_label ?_ | refine awp_skip ?_); try simp only [thenA, inBlockA, noGotoA])
           | (with_reducible refine awp_exit ?_; simp only [thenA, inBlockA, noGotoA, if_true, Nat.reduceEqDiff, if_false, ↓reduceIte])
           | (with_reducible refine awp_ret ?_; (try simp only [thenA, inBlockA, noGotoA]); (try simp [-List.reduceReplicate, Nat.add_one_le_iff, -getElem?_pos, -getElem?_neg, List.getElem?_cons_zero, List.getElem?_cons_succ, rowsC, iC, bC, hwi]))
           | ((with_reducible first | refine awp_reg 33 hX [0, 2, 3, 4, 5, 7, 8, 9, 12, 13, 14, 25] ?_ | change postOf _ _ _ _ _); simp [-List.reduceReplicate, Nat.add_one_le_iff, -getElem?_pos, -getElem?_neg, List.getElem?_cons_zero, List.getElem?_cons_succ, rowsC, iC, bC, hwi])
           | (with_reducible refine awp_if_b rfl (fun hc => ?_) (fun hc => ?_) <;> (try simp [-getElem?_pos, -getElem?_neg] at hc) <;> (try (exfalso; omega)))
           | ((with_reducible first | refine GuardK_b (fun hc => ?_) (fun hc => ?_)) <;> (try simp only [Bool.not_eq_true', Bool.not_eq_false', decide_eq_true_eq, decide_eq_false_iff_not] at hc) <;> (first | (exfalso; omega) | skip) <;> simp [-List.reduceReplicate, Nat.add_one_le_iff, -getElem?_pos, -getElem?_neg, List.getElem?_cons_zero, List.getElem?_cons_succ, rowsC, iC, bC, hwi, hc])
           | ((with_reducible first | refine hother _ _ rfl ?_); simp only [inBlockA, thenA, noGotoA, Nat.reduceEqDiff, if_false, if_true, ↓reduceIte])
           | (with_reducible refine And.intro (by omega) ?_)
           | fail)
          have hf : isTop v i = false := by
            rw [isTop, List.all_eq_false]
            refine ⟨k, by simpa using ‹k < v.length›, ?_⟩
            have hb : beats v i k = false := by assumption
            have hne : ¬ k = i := by
              have h := ‹¬ (k : Int) = (i : Int)›
              omega
            simp [hb, hne]
          have he : topsTo v (i + 1) = topsTo v i := by rw [topsTo_succ, hf]; simp
          exact next _ g b (by omega) (by rw [he]; simp [rowsC, iC]) (by rw [he])
        · exact next2 _ (by omega) (.inr (by assumption)) (by simp [rowsC, iC]) rfl
        · exact next2 _ (by omega) (.inl (by omega)) (by have h1 := wrap_in ((i : Int) + 1) (by omega); simp [rowsC, iC, h1]; omega) rfl
        · refine hexit2 _ _ rfl ?_
          simp only [inBlockA, thenA, Nat.reduceEqDiff, if_false, if_true]
          repeat' (first 
           | (with_reducible first | refine awp_scope ?_ | refine awp_seq ?_ | refine awp_block ?_)
           | ((with_reducible first | refine awp_label ?_ | refine awp_skip ?_); try simp only [thenA, inBlockA, noGotoA])
           | (with_reducible refine awp_exit ?_; simp only [thenA, inBlockA, noGotoA, if_true, Nat.reduceEqDiff, if_false, ↓reduceIte])
           | (with_reducible refine awp_ret ?_; (try simp only [thenA, inBlockA, noGotoA]); (try simp [-List.reduceReplicate, Nat.add_one_le_iff, -getElem?_pos, -getElem?_neg, List.getElem?_cons_zero, List.getElem?_cons_succ, rowsC, iC, bC, hwi, roomB]))
           | ((with_reducible first | refine awp_reg 33 hX [0, 2, 3, 4, 5, 7, 8, 9, 12, 13, 14, 25] ?_ | change postOf _ _ _ _ _); simp [-List.reduceReplicate, Nat.add_one_le_iff, -getElem?_pos, -getElem?_neg, List.getElem?_cons_zero, List.getElem?_cons_succ, rowsC, iC, bC, hwi, roomB])
           | (with_reducible refine awp_if_b rfl (fun hc => ?_) (fun hc => ?_) <;> (try simp [-getElem?_pos, -getElem?_neg] at hc) <;> (try (exfalso; omega)))
           | ((with_reducible first | refine GuardK_b (fun hc => ?_) (fun hc => ?_)) <;> (try simp only [Bool.not_eq_true', Bool.not_eq_false', decide_eq_true_eq, decide_eq_false_iff_not] at hc) <;> (first | (exfalso; omega) | skip) <;> simp [-List.reduceReplicate, Nat.add_one_le_iff, -getElem?_pos, -getElem?_neg, List.getElem?_cons_zero, List.getElem?_cons_succ, rowsC, iC, bC, hwi, roomB, hc])
           | ((with_reducible first | refine hother _ _ rfl ?_); simp only [inBlockA, thenA, noGotoA, Nat.reduceEqDiff, if_false, if_true, ↓reduceIte])
           | (with_reducible refine And.intro (by omega) ?_)
           | fail)
          have hf : isTop v i = true := by
            rw [isTop, List.all_eq_true]
            intro j hj
            have := hall j (by simp at hj; omega)
            simpa using this
          have he : topsTo v (i + 1) = topsTo v i ++ [(i : Int)] := by rw [topsTo_succ, hf]; rfl
          exact next _ (g + 1) false (by omega) (by rw [he]; simp [rowsC, iC]) (by rw [he]; simp [iC])
    · refine hexit _ _ rfl ?_
      simp only [inBlockA, thenA, Nat.reduceEqDiff, if_false, if_true]
      repeat' (first 
       | (with_reducible first | refine awp_scope ?_ | refine awp_seq ?_ | refine awp_block ?_)
       | ((with_reducible first | refine awp_label ?_ | refine awp_skip ?_); try simp only [thenA, inBlockA, noGotoA])
       | (with_reducible refine awp_exit ?_; simp only [thenA, inBlockA, noGotoA, if_true, Nat.reduceEqDiff, if_false, ↓reduceIte])
       | (with_reducible refine awp_ret ?_; (try simp only [thenA, inBlockA, noGotoA]); (try simp [-List.reduceReplicate, Nat.add_one_le_iff, -getElem?_pos, -getElem?_neg, List.getElem?_cons_zero, List.getElem?_cons_succ, rowsC, iC, bC]))
       | ((with_reducible first | refine awp_reg 33 hX [0, 2, 3, 4, 5, 7, 8, 9, 12, 13, 14, 25] ?_ | change postOf _ _ _ _ _); simp [-List.reduceReplicate, Nat.add_one_le_iff, -getElem?_pos, -getElem?_neg, List.getElem?_cons_zero, List.getElem?_cons_succ, rowsC, iC, bC])
       | (with_reducible refine awp_if_b rfl (fun hc => ?_) (fun hc => ?_) <;> (try simp [-getElem?_pos, -getElem?_neg] at hc) <;> (try (exfalso; omega)))
       | ((with_reducible first | refine GuardK_b (fun hc => ?_) (fun hc => ?_)) <;> (try simp only [Bool.not_eq_true', Bool.not_eq_false', decide_eq_true_eq, decide_eq_false_iff_not] at hc) <;> (first | (exfalso; omega) | skip) <;> simp [-List.reduceReplicate, Nat.add_one_le_iff, -getElem?_pos, -getElem?_neg, List.getElem?_cons_zero, List.getElem?_cons_succ, rowsC, iC, bC, hc])
       | ((with_reducible first | refine hother _ _ rfl ?_); simp only [inBlockA, thenA, noGotoA, Nat.reduceEqDiff, if_false, if_true, ↓reduceIte])
       | (with_reducible refine And.intro (by omega) ?_)
       | fail)
      subst hQ
      have e : i = v.length := by omega
      subst e
      exact ⟨g, _, rfl, rfl, rfl, rfl⟩
theorem tops_den (v : List (List Int)) (ob : List Ob) (hn : v.length ≤ 1000000) : Den Try.prog 33 [.c (rowsC v)] ob (fun r ob' => r = .c (intsC (tops v)) ∧ ob' = ob) :=
  (tops_own v ob hn).freeze fun r ob' ⟨g, o, h1, h2, h3, h4⟩ => ⟨g, _, o, _, h1, h2, h3, h4, by simp [intsC], rfl⟩
end Go.Av
