import Derived.Test.YtofomnllcmgfeaaAvT48
set_option linter.unusedVariables false
set_option linter.unusedSimpArgs false
set_option maxRecDepth 100000
set_option maxHeartbeats 4000000
namespace Go.Av
open Go Go.Proofs Go.Proofs.Ytofomnllcmgfeaa Go.RowKit
/-! ### cup: the document's Order, walked -/
open Go.Hp
def atsC (o : List Run) : List C := o.map fun x => iC x.at_
theorem atsC_len (o : List Run) : (atsC o).length = o.length := by simp [atsC]
theorem atsC_ins (l : List Run) (r : Run) : atsC (insR l r) = (atsC l).take (insAt l r) ++ iC r.at_ :: (atsC l).drop (insAt l r) := by simp [atsC, insR, List.map_take, List.map_drop]
set_option maxHeartbeats 8000000 in
theorem order40_den (keys : List ByteArray) (v : List (List Int)) (hk : keys.length ≤ 100000) (hv : v.length ≤ 100000) : DenV Try.prog 30 [.c (strsC keys), .c (rowsC v)] (.c (intsC (ordI keys v))) := by
  refine Den.frame rfl rfl ?_
  have hfin : ordI keys v = (insTo keys v (min keys.length v.length)).map (·.at_) := by rw [insTo_ord]; rfl
  obtain ⟨m, hm⟩ : ∃ m, m = min keys.length v.length := ⟨_, rfl⟩
  rw [← hm] at hfin
  have hall := insTo_ok keys v
  refine den_of Try.func30 rfl rfl (by simp [Try.ntmps30]) (fun X hX hO => ?_)
  rw [Try.ntmps30] at hX
  simp only [Try.results30]
  repeat' (first 
   | (with_reducible first | refine awp_scope ?_ | refine awp_seq ?_ | refine awp_block ?_)
   | ((with_reducible first | refine awp_label ?_ | refine awp_skip ?_); try simp only [thenA, inBlockA, noGotoA])
   | (with_reducible refine awp_exit ?_; simp only [thenA, inBlockA, noGotoA, if_true, Nat.reduceEqDiff, if_false, ↓reduceIte])
   | (with_reducible refine awp_ret ?_; (try simp only [thenA, inBlockA, noGotoA]); (try simp [-List.reduceReplicate, Nat.add_one_le_iff, -getElem?_pos, -getElem?_neg, List.getElem?_cons_zero, List.getElem?_cons_succ]))
   | ((with_reducible first | refine awp_reg 51 hX [0, 1, 4, 5, 6, 7, 8, 18, 34] ?_ | change postOf _ _ _ _ _); simp [-List.reduceReplicate, Nat.add_one_le_iff, -getElem?_pos, -getElem?_neg, List.getElem?_cons_zero, List.getElem?_cons_succ])
   | (with_reducible refine awp_if_b rfl (fun hc => ?_) (fun hc => ?_) <;> (try simp [-getElem?_pos, -getElem?_neg] at hc) <;> (try (exfalso; omega)))
   | ((with_reducible first | refine GuardK_b (fun hc => ?_) (fun hc => ?_)) <;> (try simp only [Bool.not_eq_true', Bool.not_eq_false', decide_eq_true_eq, decide_eq_false_iff_not] at hc) <;> (first | (exfalso; omega) | skip) <;> simp [-List.reduceReplicate, Nat.add_one_le_iff, -getElem?_pos, -getElem?_neg, List.getElem?_cons_zero, List.getElem?_cons_succ, hc])
   | ((with_reducible first | refine hother _ _ rfl ?_ | refine hother2 _ _ rfl ?_); simp only [inBlockA, thenA, noGotoA, Nat.reduceEqDiff, if_false, if_true, ↓reduceIte])
   | (with_reducible refine And.intro (by omega) ?_)
   | fail)
  refine awp_le 5 _ (.c (.sl [] 0 false)) (by simp) (leM_c (leC_nil false)) ?_
  simp
  refine awp_forU [0, 1, 5, 6] (fun i (gar : List Ob) => [(5, .c (.sl (atsC (insTo keys v i)) i false)), (6, .c (iC i))]) (fun i (gar : List Ob) => gar) (fun i (gar : List Ob) => True) (m) ([]) (by first | trivial | (simp; done) | omega | (intros; simp at *; done)) (by simp [-List.reduceReplicate, keep, iC, (show atsC (insTo keys v 0) = [] from rfl)]) (by simp [-List.reduceReplicate, iC, (show atsC (insTo keys v 0) = [] from rfl)]) ?_
  rintro i gar Q1 hi hH next hother
  conv => arg 5; arg 1; simp only [List.cons_append, List.nil_append, keep, get, Nat.reduceEqDiff, if_true, if_false, ↓reduceIte]
  have next0 := next; have hother2 := hother; clear next hother
  refine awp_drop [] gar (by rw [hO.1]; simp) rfl (by simp [ltB, strsC, rowsC]) rfl ?_
  obtain ⟨h1, h2, h3, h4⟩ := hall i
  have hwi := wrap_in ((i : Int) + 1) (by omega)
  by_cases hlt : i < m
  · have i1 : i < keys.length := by omega
    have i2 : i < v.length := by omega
    repeat' (first 
     | (with_reducible first | refine awp_scope ?_ | refine awp_seq ?_ | refine awp_block ?_)
     | ((with_reducible first | refine awp_label ?_ | refine awp_skip ?_); try simp only [thenA, inBlockA, noGotoA])
     | (with_reducible refine awp_exit ?_; simp only [thenA, inBlockA, noGotoA, if_true, Nat.reduceEqDiff, if_false, ↓reduceIte])
     | (with_reducible refine awp_ret ?_; (try simp only [thenA, inBlockA, noGotoA]); (try simp [-List.reduceReplicate, Nat.add_one_le_iff, -getElem?_pos, -getElem?_neg, List.getElem?_cons_zero, List.getElem?_cons_succ, strsC, rowsC, iC, i1, i2]))
     | ((with_reducible first | refine awp_reg 51 hX [0, 1, 4, 5, 6, 7, 8, 18, 34] ?_ | change postOf _ _ _ _ _); simp [-List.reduceReplicate, Nat.add_one_le_iff, -getElem?_pos, -getElem?_neg, List.getElem?_cons_zero, List.getElem?_cons_succ, strsC, rowsC, iC, i1, i2])
     | (with_reducible refine awp_if_b rfl (fun hc => ?_) (fun hc => ?_) <;> (try simp [-getElem?_pos, -getElem?_neg] at hc) <;> (try (exfalso; omega)))
     | ((with_reducible first | refine GuardK_b (fun hc => ?_) (fun hc => ?_)) <;> (try simp only [Bool.not_eq_true', Bool.not_eq_false', decide_eq_true_eq, decide_eq_false_iff_not] at hc) <;> (first | (exfalso; omega) | skip) <;> simp [-List.reduceReplicate, Nat.add_one_le_iff, -getElem?_pos, -getElem?_neg, List.getElem?_cons_zero, List.getElem?_cons_succ, strsC, rowsC, iC, i1, i2, hc])
     | ((with_reducible first | refine hother _ _ rfl ?_ | refine hother2 _ _ rfl ?_); simp only [inBlockA, thenA, noGotoA, Nat.reduceEqDiff, if_false, if_true, ↓reduceIte])
     | (with_reducible refine And.intro (by omega) ?_)
     | fail)
    refine awp_forU [0, 1, 5, 6, 7] (fun a (_u : Unit) => [(7, .c (iC a))]) (fun a (_u : Unit) => []) (fun a (_u : Unit) => True) (insAt (insTo keys v i) (runOf keys v i)) (()) (by first | trivial | (simp; done) | omega | (intros; simp at *; done)) (by simp [-List.reduceReplicate, keep, iC]) (by simp [-List.reduceReplicate, iC]) ?_
    rintro a _u Q1 hi hH next hother
    conv => arg 5; arg 1; simp only [List.cons_append, List.nil_append, keep, get, Nat.reduceEqDiff, if_true, if_false, ↓reduceIte]
    have hile := insAt_le (insTo keys v i) (runOf keys v i)
    have hwa := wrap_in ((a : Int) + 1) (by omega)
    have hol : (atsC (insTo keys v i)).length = i := by rw [atsC_len, h3]
    by_cases hlt2 : a < insAt (insTo keys v i) (runOf keys v i)
    · have hal : a < i := by omega
      obtain ⟨x, hx⟩ : ∃ x, (insTo keys v i)[a]? = some x := ⟨_, List.getElem?_eq_getElem (by omega)⟩
      obtain ⟨j, hj, hxj⟩ := h4 x (List.mem_of_getElem? hx)
      have q1 := ahead_den keys v j i (by omega) i1 (by omega)
      obtain ⟨s1, s2⟩ := insAt_lt _ (runOf keys v i) a x hx
      have hxa : x.at_ = (j : Int) := by rw [hxj]; rfl
      rw [hxj] at s1 s2
      have hg : (atsC (insTo keys v i))[a]? = some (iC j) := by unfold atsC; rw [List.getElem?_map, hx, Option.map_some, hxa]
      unfold strsC rowsC at q1
      rw [s1 hlt2] at q1
      generalize atsC (insTo keys v i) = oc at *
      repeat' (first 
       | (with_reducible first | refine awp_scope ?_ | refine awp_seq ?_ | refine awp_block ?_)
       | ((with_reducible first | refine awp_label ?_ | refine awp_skip ?_); try simp only [thenA, inBlockA, noGotoA])
       | (with_reducible refine awp_exit ?_; simp only [thenA, inBlockA, noGotoA, if_true, Nat.reduceEqDiff, if_false, ↓reduceIte])
       | (with_reducible refine awp_ret ?_; (try simp only [thenA, inBlockA, noGotoA]); (try simp [-List.reduceReplicate, Nat.add_one_le_iff, -getElem?_pos, -getElem?_neg, List.getElem?_cons_zero, List.getElem?_cons_succ, strsC, rowsC, iC, bC, hal, hg, hwa]))
       | ((with_reducible first | refine awp_reg 51 hX [0, 1, 4, 5, 6, 7, 8, 18, 34] ?_ | change postOf _ _ _ _ _); simp [-List.reduceReplicate, Nat.add_one_le_iff, -getElem?_pos, -getElem?_neg, List.getElem?_cons_zero, List.getElem?_cons_succ, strsC, rowsC, iC, bC, hal, hg, hwa])
       | ((first | (refine (q1 _).det ?_)); try simp [-List.reduceReplicate, Nat.add_one_le_iff, -getElem?_pos, -getElem?_neg, List.getElem?_cons_zero, List.getElem?_cons_succ, strsC, rowsC, iC, bC, hal, hg, hwa])
       | (with_reducible refine awp_if_b rfl (fun hc => ?_) (fun hc => ?_) <;> (try simp [-getElem?_pos, -getElem?_neg] at hc) <;> (try (exfalso; omega)))
       | ((with_reducible first | refine GuardK_b (fun hc => ?_) (fun hc => ?_)) <;> (try simp only [Bool.not_eq_true', Bool.not_eq_false', decide_eq_true_eq, decide_eq_false_iff_not] at hc) <;> (first | (exfalso; omega) | skip) <;> simp [-List.reduceReplicate, Nat.add_one_le_iff, -getElem?_pos, -getElem?_neg, List.getElem?_cons_zero, List.getElem?_cons_succ, strsC, rowsC, iC, bC, hal, hg, hwa, hc])
       | ((with_reducible first | refine hother _ _ rfl ?_ | refine hother2 _ _ rfl ?_); simp only [inBlockA, thenA, noGotoA, Nat.reduceEqDiff, if_false, if_true, ↓reduceIte])
       | (with_reducible refine And.intro (by omega) ?_)
       | fail)
      refine next _ _ (()) (by omega) (by first | trivial | omega | assumption) (by simp [-List.reduceReplicate, keep, iC]) (by simp [-List.reduceReplicate, iC])
    · have ha2 : a = insAt (insTo keys v i) (runOf keys v i) := by omega
      have hins := atsC_ins (insTo keys v i) (runOf keys v i)
      rw [← ha2] at hins
      have hsuc : atsC (insTo keys v (i + 1)) = (atsC (insTo keys v i)).take a ++ iC i :: (atsC (insTo keys v i)).drop a := hins
      have hq : a < i → ∃ j : Nat, (atsC (insTo keys v i))[a]? = some (iC j) ∧ ∀ ob, Den Try.prog 60 [.c (.sl (keys.map sC) keys.length false), .c (.sl (v.map intsC) v.length false), .c (iC j), .c (iC i)] ob (fun r ob' => r = .c (bC false) ∧ ob' = ob) := fun hal => by
        obtain ⟨x, hx⟩ : ∃ x, (insTo keys v i)[a]? = some x := ⟨_, List.getElem?_eq_getElem (by omega)⟩
        obtain ⟨j, hj, hxj⟩ := h4 x (List.mem_of_getElem? hx)
        have q1 := ahead_den keys v j i (by omega) i1 (by omega)
        obtain ⟨s1, s2⟩ := insAt_lt _ (runOf keys v i) a x hx
        have hxa : x.at_ = (j : Int) := by rw [hxj]; rfl
        rw [hxj] at s1 s2
        rw [s2 ha2] at q1
        exact ⟨j, by unfold atsC; rw [List.getElem?_map, hx, Option.map_some, hxa], q1⟩
      have hai0 : a ≤ i := by omega
      clear ha2 hins hile
      have hexit := hother; clear hother next
      generalize atsC (insTo keys v i) = oc at *
      rcases Nat.lt_or_ge a i with hal | hal
      · obtain ⟨j, hg, q1⟩ := hq hal
        repeat' (first 
         | (with_reducible first | refine awp_scope ?_ | refine awp_seq ?_ | refine awp_block ?_)
         | ((with_reducible first | refine awp_label ?_ | refine awp_skip ?_); try simp only [thenA, inBlockA, noGotoA])
         | (with_reducible refine awp_exit ?_; simp only [thenA, inBlockA, noGotoA, if_true, Nat.reduceEqDiff, if_false, ↓reduceIte])
         | (with_reducible refine awp_ret ?_; (try simp only [thenA, inBlockA, noGotoA]); (try simp [-List.reduceReplicate, Nat.add_one_le_iff, -getElem?_pos, -getElem?_neg, List.getElem?_cons_zero, List.getElem?_cons_succ, strsC, rowsC, iC, bC, hal, hg, hwa]))
         | ((with_reducible first | refine awp_reg 51 hX [0, 1, 4, 5, 6, 7, 8, 18, 34] ?_ | change postOf _ _ _ _ _); simp [-List.reduceReplicate, Nat.add_one_le_iff, -getElem?_pos, -getElem?_neg, List.getElem?_cons_zero, List.getElem?_cons_succ, strsC, rowsC, iC, bC, hal, hg, hwa])
         | ((first | (refine (q1 _).det ?_)); try simp [-List.reduceReplicate, Nat.add_one_le_iff, -getElem?_pos, -getElem?_neg, List.getElem?_cons_zero, List.getElem?_cons_succ, strsC, rowsC, iC, bC, hal, hg, hwa])
         | (with_reducible refine awp_if_b rfl (fun hc => ?_) (fun hc => ?_) <;> (try simp [-getElem?_pos, -getElem?_neg] at hc) <;> (try (exfalso; omega)))
         | ((with_reducible first | refine GuardK_b (fun hc => ?_) (fun hc => ?_)) <;> (try simp only [Bool.not_eq_true', Bool.not_eq_false', decide_eq_true_eq, decide_eq_false_iff_not] at hc) <;> (first | (exfalso; omega) | skip) <;> simp [-List.reduceReplicate, Nat.add_one_le_iff, -getElem?_pos, -getElem?_neg, List.getElem?_cons_zero, List.getElem?_cons_succ, strsC, rowsC, iC, bC, hal, hg, hwa, hc])
         | ((with_reducible first | refine hother _ _ rfl ?_ | refine hother2 _ _ rfl ?_); simp only [inBlockA, thenA, noGotoA, Nat.reduceEqDiff, if_false, if_true, ↓reduceIte])
         | (with_reducible refine And.intro (by omega) ?_)
         | fail)
        refine hexit _ _ rfl ?_
        simp only [inBlockA, thenA, ↓reduceIte]
        generalize hQQ : (inBlockA 1 _ : Exit → St → Prop) = QQ
        have fin : ∀ (fr : List (Nat × M)) (g : Nat) (cs : List C), cs = oc.take a ++ iC i :: oc.drop a → get fr 0 = some (.c (strsC keys)) → get fr 1 = some (.c (rowsC v)) → get fr 5 = some (.ms 0 g 0 (i + 1)) → get fr 6 = some (.c (iC i)) → QQ .normal ⟨fr, [⟨3, 1, false, g, up cs, none⟩]⟩ := fun fr g cs hcs f0 f1 f5 f6 => by
          subst hQQ
          simp only [inBlockA, thenA]
          refine awp_keep [0, 1, 5, 6] ?_
          simp only [keep, f0, f1, f5, f6]
          refine awp_frz2 5 [] [] [] _ cs _ hO rfl rfl rfl (by simp [ltB]) (by simp) ?_
          repeat' (first 
           | (with_reducible first | refine awp_scope ?_ | refine awp_seq ?_ | refine awp_block ?_)
           | ((with_reducible first | refine awp_label ?_ | refine awp_skip ?_); try simp only [thenA, inBlockA, noGotoA])
           | (with_reducible refine awp_exit ?_; simp only [thenA, inBlockA, noGotoA, if_true, Nat.reduceEqDiff, if_false, ↓reduceIte])
           | (with_reducible refine awp_ret ?_; (try simp only [thenA, inBlockA, noGotoA]); (try simp [-List.reduceReplicate, Nat.add_one_le_iff, -getElem?_pos, -getElem?_neg, List.getElem?_cons_zero, List.getElem?_cons_succ, iC, hwi]))
           | ((with_reducible first | refine awp_reg 51 hX [0, 1, 4, 5, 6, 7, 8, 18, 34] ?_ | change postOf _ _ _ _ _); simp [-List.reduceReplicate, Nat.add_one_le_iff, -getElem?_pos, -getElem?_neg, List.getElem?_cons_zero, List.getElem?_cons_succ, iC, hwi])
           | (with_reducible refine awp_if_b rfl (fun hc => ?_) (fun hc => ?_) <;> (try simp [-getElem?_pos, -getElem?_neg] at hc) <;> (try (exfalso; omega)))
           | ((with_reducible first | refine GuardK_b (fun hc => ?_) (fun hc => ?_)) <;> (try simp only [Bool.not_eq_true', Bool.not_eq_false', decide_eq_true_eq, decide_eq_false_iff_not] at hc) <;> (first | (exfalso; omega) | skip) <;> simp [-List.reduceReplicate, Nat.add_one_le_iff, -getElem?_pos, -getElem?_neg, List.getElem?_cons_zero, List.getElem?_cons_succ, iC, hwi, hc])
           | ((with_reducible first | refine hother _ _ rfl ?_ | refine hother2 _ _ rfl ?_); simp only [inBlockA, thenA, noGotoA, Nat.reduceEqDiff, if_false, if_true, ↓reduceIte])
           | (with_reducible refine And.intro (by omega) ?_)
           | fail)
          refine next0 _ _ [] (by omega) trivial ?_ rfl
          rw [hsuc, ← hcs]
          simp [keep, iC, strsC, rowsC]
        rcases Nat.eq_zero_or_pos a with ha0 | ha0
        · subst ha0
          rcases Nat.eq_zero_or_pos i with hi0 | hi0
          · subst hi0
            have hoc : oc = [] := List.eq_nil_of_length_eq_zero hol
            subst hoc
            repeat' (first 
             | (with_reducible first | refine awp_scope ?_ | refine awp_seq ?_ | refine awp_block ?_)
             | ((with_reducible first | refine awp_label ?_ | refine awp_skip ?_); try simp only [thenA, inBlockA, noGotoA])
             | (with_reducible refine awp_exit ?_; simp only [thenA, inBlockA, noGotoA, if_true, Nat.reduceEqDiff, if_false, ↓reduceIte])
             | (with_reducible refine awp_ret ?_; (try simp only [thenA, inBlockA, noGotoA]); (try simp [-List.reduceReplicate, Nat.add_one_le_iff, -getElem?_pos, -getElem?_neg, List.getElem?_cons_zero, List.getElem?_cons_succ, iC, roomB]))
             | ((with_reducible first | refine awp_reg 51 hX [0, 1, 4, 5, 6, 7, 8, 18, 34] ?_ | change postOf _ _ _ _ _); simp [-List.reduceReplicate, Nat.add_one_le_iff, -getElem?_pos, -getElem?_neg, List.getElem?_cons_zero, List.getElem?_cons_succ, iC, roomB])
             | (with_reducible refine awp_if_b rfl (fun hc => ?_) (fun hc => ?_) <;> (try simp [-getElem?_pos, -getElem?_neg] at hc) <;> (try (exfalso; omega)))
             | ((with_reducible first | refine GuardK_b (fun hc => ?_) (fun hc => ?_)) <;> (try simp only [Bool.not_eq_true', Bool.not_eq_false', decide_eq_true_eq, decide_eq_false_iff_not] at hc) <;> (first | (exfalso; omega) | skip) <;> simp [-List.reduceReplicate, Nat.add_one_le_iff, -getElem?_pos, -getElem?_neg, List.getElem?_cons_zero, List.getElem?_cons_succ, iC, roomB, hc])
             | ((with_reducible first | refine hother _ _ rfl ?_ | refine hother2 _ _ rfl ?_); simp only [inBlockA, thenA, noGotoA, Nat.reduceEqDiff, if_false, if_true, ↓reduceIte])
             | (with_reducible refine And.intro (by omega) ?_)
             | fail)
            exact fin _ 1 [iC 0] rfl rfl rfl rfl rfl
          · have i3 : ¬ i = 0 := by omega
            have i4 : ¬ (i : Int) = 0 := by omega
            have i5 : ¬ 0 = (i : Int) := by omega
            have i6 : (1 + i) * 8 ≤ 140737488355328 := by omega
            have i7 : oc.take i = oc := List.take_of_length_le (by omega)
            repeat' (first 
             | (with_reducible first | refine awp_scope ?_ | refine awp_seq ?_ | refine awp_block ?_)
             | ((with_reducible first | refine awp_label ?_ | refine awp_skip ?_); try simp only [thenA, inBlockA, noGotoA])
             | (with_reducible refine awp_exit ?_; simp only [thenA, inBlockA, noGotoA, if_true, Nat.reduceEqDiff, if_false, ↓reduceIte])
             | (with_reducible refine awp_ret ?_; (try simp only [thenA, inBlockA, noGotoA]); (try simp [-List.reduceReplicate, Nat.add_one_le_iff, -getElem?_pos, -getElem?_neg, List.getElem?_cons_zero, List.getElem?_cons_succ, iC, roomB, hol, i3, i4, i5, i6, i7]))
             | ((with_reducible first | refine awp_reg 51 hX [0, 1, 4, 5, 6, 7, 8, 18, 34] ?_ | change postOf _ _ _ _ _); simp [-List.reduceReplicate, Nat.add_one_le_iff, -getElem?_pos, -getElem?_neg, List.getElem?_cons_zero, List.getElem?_cons_succ, iC, roomB, hol, i3, i4, i5, i6, i7])
             | (with_reducible refine awp_if_b rfl (fun hc => ?_) (fun hc => ?_) <;> (try simp [-getElem?_pos, -getElem?_neg] at hc) <;> (try (exfalso; omega)))
             | ((with_reducible first | refine GuardK_b (fun hc => ?_) (fun hc => ?_)) <;> (try simp only [Bool.not_eq_true', Bool.not_eq_false', decide_eq_true_eq, decide_eq_false_iff_not] at hc) <;> (first | (exfalso; omega) | skip) <;> simp [-List.reduceReplicate, Nat.add_one_le_iff, -getElem?_pos, -getElem?_neg, List.getElem?_cons_zero, List.getElem?_cons_succ, iC, roomB, hol, i3, i4, i5, i6, i7, hc])
             | ((with_reducible first | refine hother _ _ rfl ?_ | refine hother2 _ _ rfl ?_); simp only [inBlockA, thenA, noGotoA, Nat.reduceEqDiff, if_false, if_true, ↓reduceIte])
             | (with_reducible refine And.intro (by omega) ?_)
             | fail)
            exact fin _ 1 _ (by simp [iC]) rfl rfl (by simp [Nat.add_comm]) rfl
        · have a1 : ¬ 0 = (a : Int) := by omega
          have a2 : ¬ a = 0 := by omega
          have a3 : ¬ (a : Int) = 0 := by omega
          have a4 : (a : Int) ≤ i := by omega
          have a5 : a ≤ i := by omega
          have b1 : a * 8 ≤ 140737488355328 := by omega
          have b2 : (a + 1) * 8 ≤ 140737488355328 := by omega
          have b3 : (a + 1 + (i - a)) * 8 ≤ 140737488355328 := by omega
          have b4 : (oc.take a).length = a := by rw [List.length_take]; omega
          have b5 : min a i = a := by omega
          have b6 : (oc.drop a).length = i - a := by rw [List.length_drop]; omega
          have b7 : (oc.drop a).take (i - a) = oc.drop a := List.take_of_length_le (by omega)
          have b8 : (oc.take a ++ [iC i]).length = a + 1 := by rw [List.length_append, b4]; rfl
          have b9 : ((i : Int) - (a : Int)).toNat = i - a := by omega
          by_cases hai : a = i
          · subst hai
            have e1 : oc.drop a = [] := List.drop_of_length_le (by omega)
            have e2 : oc.take a = oc := List.take_of_length_le (by omega)
            repeat' (first 
             | (with_reducible first | refine awp_scope ?_ | refine awp_seq ?_ | refine awp_block ?_)
             | ((with_reducible first | refine awp_label ?_ | refine awp_skip ?_); try simp only [thenA, inBlockA, noGotoA])
             | (with_reducible refine awp_exit ?_; simp only [thenA, inBlockA, noGotoA, if_true, Nat.reduceEqDiff, if_false, ↓reduceIte])
             | (with_reducible refine awp_ret ?_; (try simp only [thenA, inBlockA, noGotoA]); (try simp [-List.reduceReplicate, Nat.add_one_le_iff, -getElem?_pos, -getElem?_neg, List.getElem?_cons_zero, List.getElem?_cons_succ, iC, roomB, hol, a1, a2, a3, b1, b2, e1, e2]))
             | ((with_reducible first | refine awp_reg 51 hX [0, 1, 4, 5, 6, 7, 8, 18, 34] ?_ | change postOf _ _ _ _ _); simp [-List.reduceReplicate, Nat.add_one_le_iff, -getElem?_pos, -getElem?_neg, List.getElem?_cons_zero, List.getElem?_cons_succ, iC, roomB, hol, a1, a2, a3, b1, b2, e1, e2])
             | (with_reducible refine awp_if_b rfl (fun hc => ?_) (fun hc => ?_) <;> (try simp [-getElem?_pos, -getElem?_neg] at hc) <;> (try (exfalso; omega)))
             | ((with_reducible first | refine GuardK_b (fun hc => ?_) (fun hc => ?_)) <;> (try simp only [Bool.not_eq_true', Bool.not_eq_false', decide_eq_true_eq, decide_eq_false_iff_not] at hc) <;> (first | (exfalso; omega) | skip) <;> simp [-List.reduceReplicate, Nat.add_one_le_iff, -getElem?_pos, -getElem?_neg, List.getElem?_cons_zero, List.getElem?_cons_succ, iC, roomB, hol, a1, a2, a3, b1, b2, e1, e2, hc])
             | ((with_reducible first | refine hother _ _ rfl ?_ | refine hother2 _ _ rfl ?_); simp only [inBlockA, thenA, noGotoA, Nat.reduceEqDiff, if_false, if_true, ↓reduceIte])
             | (with_reducible refine And.intro (by omega) ?_)
             | fail)
            exact fin _ 2 _ (by simp [iC, e1, e2]) rfl rfl rfl rfl
          · have hai2 : ¬ (a : Int) = i := by omega
            repeat' (first 
             | (with_reducible first | refine awp_scope ?_ | refine awp_seq ?_ | refine awp_block ?_)
             | ((with_reducible first | refine awp_label ?_ | refine awp_skip ?_); try simp only [thenA, inBlockA, noGotoA])
             | (with_reducible refine awp_exit ?_; simp only [thenA, inBlockA, noGotoA, if_true, Nat.reduceEqDiff, if_false, ↓reduceIte])
             | (with_reducible refine awp_ret ?_; (try simp only [thenA, inBlockA, noGotoA]); (try simp [-List.reduceReplicate, Nat.add_one_le_iff, -getElem?_pos, -getElem?_neg, List.getElem?_cons_zero, List.getElem?_cons_succ, iC, roomB, hol, a1, a2, a3, a4, a5, b1, b2, b3, b4, b5, b6, b7, b8, b9, hai2]))
             | ((with_reducible first | refine awp_reg 51 hX [0, 1, 4, 5, 6, 7, 8, 18, 34] ?_ | change postOf _ _ _ _ _); simp [-List.reduceReplicate, Nat.add_one_le_iff, -getElem?_pos, -getElem?_neg, List.getElem?_cons_zero, List.getElem?_cons_succ, iC, roomB, hol, a1, a2, a3, a4, a5, b1, b2, b3, b4, b5, b6, b7, b8, b9, hai2])
             | (with_reducible refine awp_if_b rfl (fun hc => ?_) (fun hc => ?_) <;> (try simp [-getElem?_pos, -getElem?_neg] at hc) <;> (try (exfalso; omega)))
             | ((with_reducible first | refine GuardK_b (fun hc => ?_) (fun hc => ?_)) <;> (try simp only [Bool.not_eq_true', Bool.not_eq_false', decide_eq_true_eq, decide_eq_false_iff_not] at hc) <;> (first | (exfalso; omega) | skip) <;> simp [-List.reduceReplicate, Nat.add_one_le_iff, -getElem?_pos, -getElem?_neg, List.getElem?_cons_zero, List.getElem?_cons_succ, iC, roomB, hol, a1, a2, a3, a4, a5, b1, b2, b3, b4, b5, b6, b7, b8, b9, hai2, hc])
             | ((with_reducible first | refine hother _ _ rfl ?_ | refine hother2 _ _ rfl ?_); simp only [inBlockA, thenA, noGotoA, Nat.reduceEqDiff, if_false, if_true, ↓reduceIte])
             | (with_reducible refine And.intro (by omega) ?_)
             | fail)
            exact fin _ 2 _ (by simp [iC]) rfl rfl (by rw [show i + 1 = a + 1 + (i - a) by omega]; rfl) rfl
      · have hal2 : ¬ a < i := by omega
        repeat' (first 
         | (with_reducible first | refine awp_scope ?_ | refine awp_seq ?_ | refine awp_block ?_)
         | ((with_reducible first | refine awp_label ?_ | refine awp_skip ?_); try simp only [thenA, inBlockA, noGotoA])
         | (with_reducible refine awp_exit ?_; simp only [thenA, inBlockA, noGotoA, if_true, Nat.reduceEqDiff, if_false, ↓reduceIte])
         | (with_reducible refine awp_ret ?_; (try simp only [thenA, inBlockA, noGotoA]); (try simp [-List.reduceReplicate, Nat.add_one_le_iff, -getElem?_pos, -getElem?_neg, List.getElem?_cons_zero, List.getElem?_cons_succ, strsC, rowsC, iC, bC, hal2, hwa]))
         | ((with_reducible first | refine awp_reg 51 hX [0, 1, 4, 5, 6, 7, 8, 18, 34] ?_ | change postOf _ _ _ _ _); simp [-List.reduceReplicate, Nat.add_one_le_iff, -getElem?_pos, -getElem?_neg, List.getElem?_cons_zero, List.getElem?_cons_succ, strsC, rowsC, iC, bC, hal2, hwa])
         | (with_reducible refine awp_if_b rfl (fun hc => ?_) (fun hc => ?_) <;> (try simp [-getElem?_pos, -getElem?_neg] at hc) <;> (try (exfalso; omega)))
         | ((with_reducible first | refine GuardK_b (fun hc => ?_) (fun hc => ?_)) <;> (try simp only [Bool.not_eq_true', Bool.not_eq_false', decide_eq_true_eq, decide_eq_false_iff_not] at hc) <;> (first | (exfalso; omega) | skip) <;> simp [-List.reduceReplicate, Nat.add_one_le_iff, -getElem?_pos, -getElem?_neg, List.getElem?_cons_zero, List.getElem?_cons_succ, strsC, rowsC, iC, bC, hal2, hwa, hc])
         | ((with_reducible first | refine hother _ _ rfl ?_ | refine hother2 _ _ rfl ?_); simp only [inBlockA, thenA, noGotoA, Nat.reduceEqDiff, if_false, if_true, ↓reduceIte])
         | (with_reducible refine And.intro (by omega) ?_)
         | fail)
        refine hexit _ _ rfl ?_
        simp only [inBlockA, thenA, ↓reduceIte]
        generalize hQQ : (inBlockA 1 _ : Exit → St → Prop) = QQ
        have fin : ∀ (fr : List (Nat × M)) (g : Nat) (cs : List C), cs = oc.take a ++ iC i :: oc.drop a → get fr 0 = some (.c (strsC keys)) → get fr 1 = some (.c (rowsC v)) → get fr 5 = some (.ms 0 g 0 (i + 1)) → get fr 6 = some (.c (iC i)) → QQ .normal ⟨fr, [⟨3, 1, false, g, up cs, none⟩]⟩ := fun fr g cs hcs f0 f1 f5 f6 => by
          subst hQQ
          simp only [inBlockA, thenA]
          refine awp_keep [0, 1, 5, 6] ?_
          simp only [keep, f0, f1, f5, f6]
          refine awp_frz2 5 [] [] [] _ cs _ hO rfl rfl rfl (by simp [ltB]) (by simp) ?_
          repeat' (first 
           | (with_reducible first | refine awp_scope ?_ | refine awp_seq ?_ | refine awp_block ?_)
           | ((with_reducible first | refine awp_label ?_ | refine awp_skip ?_); try simp only [thenA, inBlockA, noGotoA])
           | (with_reducible refine awp_exit ?_; simp only [thenA, inBlockA, noGotoA, if_true, Nat.reduceEqDiff, if_false, ↓reduceIte])
           | (with_reducible refine awp_ret ?_; (try simp only [thenA, inBlockA, noGotoA]); (try simp [-List.reduceReplicate, Nat.add_one_le_iff, -getElem?_pos, -getElem?_neg, List.getElem?_cons_zero, List.getElem?_cons_succ, iC, hwi]))
           | ((with_reducible first | refine awp_reg 51 hX [0, 1, 4, 5, 6, 7, 8, 18, 34] ?_ | change postOf _ _ _ _ _); simp [-List.reduceReplicate, Nat.add_one_le_iff, -getElem?_pos, -getElem?_neg, List.getElem?_cons_zero, List.getElem?_cons_succ, iC, hwi])
           | (with_reducible refine awp_if_b rfl (fun hc => ?_) (fun hc => ?_) <;> (try simp [-getElem?_pos, -getElem?_neg] at hc) <;> (try (exfalso; omega)))
           | ((with_reducible first | refine GuardK_b (fun hc => ?_) (fun hc => ?_)) <;> (try simp only [Bool.not_eq_true', Bool.not_eq_false', decide_eq_true_eq, decide_eq_false_iff_not] at hc) <;> (first | (exfalso; omega) | skip) <;> simp [-List.reduceReplicate, Nat.add_one_le_iff, -getElem?_pos, -getElem?_neg, List.getElem?_cons_zero, List.getElem?_cons_succ, iC, hwi, hc])
           | ((with_reducible first | refine hother _ _ rfl ?_ | refine hother2 _ _ rfl ?_); simp only [inBlockA, thenA, noGotoA, Nat.reduceEqDiff, if_false, if_true, ↓reduceIte])
           | (with_reducible refine And.intro (by omega) ?_)
           | fail)
          refine next0 _ _ [] (by omega) trivial ?_ rfl
          rw [hsuc, ← hcs]
          simp [keep, iC, strsC, rowsC]
        rcases Nat.eq_zero_or_pos a with ha0 | ha0
        · subst ha0
          rcases Nat.eq_zero_or_pos i with hi0 | hi0
          · subst hi0
            have hoc : oc = [] := List.eq_nil_of_length_eq_zero hol
            subst hoc
            repeat' (first 
             | (with_reducible first | refine awp_scope ?_ | refine awp_seq ?_ | refine awp_block ?_)
             | ((with_reducible first | refine awp_label ?_ | refine awp_skip ?_); try simp only [thenA, inBlockA, noGotoA])
             | (with_reducible refine awp_exit ?_; simp only [thenA, inBlockA, noGotoA, if_true, Nat.reduceEqDiff, if_false, ↓reduceIte])
             | (with_reducible refine awp_ret ?_; (try simp only [thenA, inBlockA, noGotoA]); (try simp [-List.reduceReplicate, Nat.add_one_le_iff, -getElem?_pos, -getElem?_neg, List.getElem?_cons_zero, List.getElem?_cons_succ, iC, roomB]))
             | ((with_reducible first | refine awp_reg 51 hX [0, 1, 4, 5, 6, 7, 8, 18, 34] ?_ | change postOf _ _ _ _ _); simp [-List.reduceReplicate, Nat.add_one_le_iff, -getElem?_pos, -getElem?_neg, List.getElem?_cons_zero, List.getElem?_cons_succ, iC, roomB])
             | (with_reducible refine awp_if_b rfl (fun hc => ?_) (fun hc => ?_) <;> (try simp [-getElem?_pos, -getElem?_neg] at hc) <;> (try (exfalso; omega)))
             | ((with_reducible first | refine GuardK_b (fun hc => ?_) (fun hc => ?_)) <;> (try simp only [Bool.not_eq_true', Bool.not_eq_false', decide_eq_true_eq, decide_eq_false_iff_not] at hc) <;> (first | (exfalso; omega) | skip) <;> simp [-List.reduceReplicate, Nat.add_one_le_iff, -getElem?_pos, -getElem?_neg, List.getElem?_cons_zero, List.getElem?_cons_succ, iC, roomB, hc])
             | ((with_reducible first | refine hother _ _ rfl ?_ | refine hother2 _ _ rfl ?_); simp only [inBlockA, thenA, noGotoA, Nat.reduceEqDiff, if_false, if_true, ↓reduceIte])
             | (with_reducible refine And.intro (by omega) ?_)
             | fail)
            exact fin _ 1 [iC 0] rfl rfl rfl rfl rfl
          · have i3 : ¬ i = 0 := by omega
            have i4 : ¬ (i : Int) = 0 := by omega
            have i5 : ¬ 0 = (i : Int) := by omega
            have i6 : (1 + i) * 8 ≤ 140737488355328 := by omega
            have i7 : oc.take i = oc := List.take_of_length_le (by omega)
            repeat' (first 
             | (with_reducible first | refine awp_scope ?_ | refine awp_seq ?_ | refine awp_block ?_)
             | ((with_reducible first | refine awp_label ?_ | refine awp_skip ?_); try simp only [thenA, inBlockA, noGotoA])
             | (with_reducible refine awp_exit ?_; simp only [thenA, inBlockA, noGotoA, if_true, Nat.reduceEqDiff, if_false, ↓reduceIte])
             | (with_reducible refine awp_ret ?_; (try simp only [thenA, inBlockA, noGotoA]); (try simp [-List.reduceReplicate, Nat.add_one_le_iff, -getElem?_pos, -getElem?_neg, List.getElem?_cons_zero, List.getElem?_cons_succ, iC, roomB, hol, i3, i4, i5, i6, i7]))
             | ((with_reducible first | refine awp_reg 51 hX [0, 1, 4, 5, 6, 7, 8, 18, 34] ?_ | change postOf _ _ _ _ _); simp [-List.reduceReplicate, Nat.add_one_le_iff, -getElem?_pos, -getElem?_neg, List.getElem?_cons_zero, List.getElem?_cons_succ, iC, roomB, hol, i3, i4, i5, i6, i7])
             | (with_reducible refine awp_if_b rfl (fun hc => ?_) (fun hc => ?_) <;> (try simp [-getElem?_pos, -getElem?_neg] at hc) <;> (try (exfalso; omega)))
             | ((with_reducible first | refine GuardK_b (fun hc => ?_) (fun hc => ?_)) <;> (try simp only [Bool.not_eq_true', Bool.not_eq_false', decide_eq_true_eq, decide_eq_false_iff_not] at hc) <;> (first | (exfalso; omega) | skip) <;> simp [-List.reduceReplicate, Nat.add_one_le_iff, -getElem?_pos, -getElem?_neg, List.getElem?_cons_zero, List.getElem?_cons_succ, iC, roomB, hol, i3, i4, i5, i6, i7, hc])
             | ((with_reducible first | refine hother _ _ rfl ?_ | refine hother2 _ _ rfl ?_); simp only [inBlockA, thenA, noGotoA, Nat.reduceEqDiff, if_false, if_true, ↓reduceIte])
             | (with_reducible refine And.intro (by omega) ?_)
             | fail)
            exact fin _ 1 _ (by simp [iC]) rfl rfl (by simp [Nat.add_comm]) rfl
        · have a1 : ¬ 0 = (a : Int) := by omega
          have a2 : ¬ a = 0 := by omega
          have a3 : ¬ (a : Int) = 0 := by omega
          have a4 : (a : Int) ≤ i := by omega
          have a5 : a ≤ i := by omega
          have b1 : a * 8 ≤ 140737488355328 := by omega
          have b2 : (a + 1) * 8 ≤ 140737488355328 := by omega
          have b3 : (a + 1 + (i - a)) * 8 ≤ 140737488355328 := by omega
          have b4 : (oc.take a).length = a := by rw [List.length_take]; omega
          have b5 : min a i = a := by omega
          have b6 : (oc.drop a).length = i - a := by rw [List.length_drop]; omega
          have b7 : (oc.drop a).take (i - a) = oc.drop a := List.take_of_length_le (by omega)
          have b8 : (oc.take a ++ [iC i]).length = a + 1 := by rw [List.length_append, b4]; rfl
          have b9 : ((i : Int) - (a : Int)).toNat = i - a := by omega
          by_cases hai : a = i
          · subst hai
            have e1 : oc.drop a = [] := List.drop_of_length_le (by omega)
            have e2 : oc.take a = oc := List.take_of_length_le (by omega)
            repeat' (first 
             | (with_reducible first | refine awp_scope ?_ | refine awp_seq ?_ | refine awp_block ?_)
             | ((with_reducible first | refine awp_label ?_ | refine awp_skip ?_); try simp only [thenA, inBlockA, noGotoA])
             | (with_reducible refine awp_exit ?_; simp only [thenA, inBlockA, noGotoA, if_true, Nat.reduceEqDiff, if_false, ↓reduceIte])
             | (with_reducible refine awp_ret ?_; (try simp only [thenA, inBlockA, noGotoA]); (try simp [-List.reduceReplicate, Nat.add_one_le_iff, -getElem?_pos, -getElem?_neg, List.getElem?_cons_zero, List.getElem?_cons_succ, iC, roomB, hol, a1, a2, a3, b1, b2, e1, e2]))
             | ((with_reducible first | refine awp_reg 51 hX [0, 1, 4, 5, 6, 7, 8, 18, 34] ?_ | change postOf _ _ _ _ _); simp [-List.reduceReplicate, Nat.add_one_le_iff, -getElem?_pos, -getElem?_neg, List.getElem?_cons_zero, List.getElem?_cons_succ, iC, roomB, hol, a1, a2, a3, b1, b2, e1, e2])
             | (with_reducible refine awp_if_b rfl (fun hc => ?_) (fun hc => ?_) <;> (try simp [-getElem?_pos, -getElem?_neg] at hc) <;> (try (exfalso; omega)))
             | ((with_reducible first | refine GuardK_b (fun hc => ?_) (fun hc => ?_)) <;> (try simp only [Bool.not_eq_true', Bool.not_eq_false', decide_eq_true_eq, decide_eq_false_iff_not] at hc) <;> (first | (exfalso; omega) | skip) <;> simp [-List.reduceReplicate, Nat.add_one_le_iff, -getElem?_pos, -getElem?_neg, List.getElem?_cons_zero, List.getElem?_cons_succ, iC, roomB, hol, a1, a2, a3, b1, b2, e1, e2, hc])
             | ((with_reducible first | refine hother _ _ rfl ?_ | refine hother2 _ _ rfl ?_); simp only [inBlockA, thenA, noGotoA, Nat.reduceEqDiff, if_false, if_true, ↓reduceIte])
             | (with_reducible refine And.intro (by omega) ?_)
             | fail)
            exact fin _ 2 _ (by simp [iC, e1, e2]) rfl rfl rfl rfl
          · have hai2 : ¬ (a : Int) = i := by omega
            repeat' (first 
             | (with_reducible first | refine awp_scope ?_ | refine awp_seq ?_ | refine awp_block ?_)
             | ((with_reducible first | refine awp_label ?_ | refine awp_skip ?_); try simp only [thenA, inBlockA, noGotoA])
             | (with_reducible refine awp_exit ?_; simp only [thenA, inBlockA, noGotoA, if_true, Nat.reduceEqDiff, if_false, ↓reduceIte])
             | (with_reducible refine awp_ret ?_; (try simp only [thenA, inBlockA, noGotoA]); (try simp [-List.reduceReplicate, Nat.add_one_le_iff, -getElem?_pos, -getElem?_neg, List.getElem?_cons_zero, List.getElem?_cons_succ, iC, roomB, hol, a1, a2, a3, a4, a5, b1, b2, b3, b4, b5, b6, b7, b8, b9, hai2]))
             | ((with_reducible first | refine awp_reg 51 hX [0, 1, 4, 5, 6, 7, 8, 18, 34] ?_ | change postOf _ _ _ _ _); simp [-List.reduceReplicate, Nat.add_one_le_iff, -getElem?_pos, -getElem?_neg, List.getElem?_cons_zero, List.getElem?_cons_succ, iC, roomB, hol, a1, a2, a3, a4, a5, b1, b2, b3, b4, b5, b6, b7, b8, b9, hai2])
             | (with_reducible refine awp_if_b rfl (fun hc => ?_) (fun hc => ?_) <;> (try simp [-getElem?_pos, -getElem?_neg] at hc) <;> (try (exfalso; omega)))
             | ((with_reducible first | refine GuardK_b (fun hc => ?_) (fun hc => ?_)) <;> (try simp only [Bool.not_eq_true', Bool.not_eq_false', decide_eq_true_eq, decide_eq_false_iff_not] at hc) <;> (first | (exfalso; omega) | skip) <;> simp [-List.reduceReplicate, Nat.add_one_le_iff, -getElem?_pos, -getElem?_neg, List.getElem?_cons_zero, List.getElem?_cons_succ, iC, roomB, hol, a1, a2, a3, a4, a5, b1, b2, b3, b4, b5, b6, b7, b8, b9, hai2, hc])
             | ((with_reducible first | refine hother _ _ rfl ?_ | refine hother2 _ _ rfl ?_); simp only [inBlockA, thenA, noGotoA, Nat.reduceEqDiff, if_false, if_true, ↓reduceIte])
             | (with_reducible refine And.intro (by omega) ?_)
             | fail)
            exact fin _ 2 _ (by simp [iC]) rfl rfl (by rw [show i + 1 = a + 1 + (i - a) by omega]; rfl) rfl
  · have hi2 : i = m := by omega
    subst hi2
    have hexit := hother2; clear hother2 next0
    have hol : (atsC (insTo keys v i)).length = i := by rw [atsC_len, h3]
    have hat : ((insTo keys v i).map (·.at_)).map iC = atsC (insTo keys v i) := by simp [atsC]
    have hat2 : ((insTo keys v i).map (·.at_)).length = i := by rw [List.length_map, h3]
    have hr : intsC ((insTo keys v i).map (·.at_)) = .sl (atsC (insTo keys v i)) i false := by unfold intsC; rw [hat, hat2]
    rw [hfin, hr] at hexit
    generalize atsC (insTo keys v i) = oc at *
    rcases Nat.lt_or_ge i keys.length with c1 | c1
    · have c2 : ¬ i < v.length := by omega
      repeat' (first 
       | (with_reducible first | refine awp_scope ?_ | refine awp_seq ?_ | refine awp_block ?_)
       | ((with_reducible first | refine awp_label ?_ | refine awp_skip ?_); try simp only [thenA, inBlockA, noGotoA])
       | (with_reducible refine awp_exit ?_; simp only [thenA, inBlockA, noGotoA, if_true, Nat.reduceEqDiff, if_false, ↓reduceIte])
       | (with_reducible refine awp_ret ?_; (try simp only [thenA, inBlockA, noGotoA]); (try simp [-List.reduceReplicate, Nat.add_one_le_iff, -getElem?_pos, -getElem?_neg, List.getElem?_cons_zero, List.getElem?_cons_succ, strsC, rowsC, iC, c1, c2]))
       | ((with_reducible first | refine awp_reg 51 hX [0, 1, 4, 5, 6, 7, 8, 18, 34] ?_ | change postOf _ _ _ _ _); simp [-List.reduceReplicate, Nat.add_one_le_iff, -getElem?_pos, -getElem?_neg, List.getElem?_cons_zero, List.getElem?_cons_succ, strsC, rowsC, iC, c1, c2])
       | (with_reducible refine awp_if_b rfl (fun hc => ?_) (fun hc => ?_) <;> (try simp [-getElem?_pos, -getElem?_neg] at hc) <;> (try (exfalso; omega)))
       | ((with_reducible first | refine GuardK_b (fun hc => ?_) (fun hc => ?_)) <;> (try simp only [Bool.not_eq_true', Bool.not_eq_false', decide_eq_true_eq, decide_eq_false_iff_not] at hc) <;> (first | (exfalso; omega) | skip) <;> simp [-List.reduceReplicate, Nat.add_one_le_iff, -getElem?_pos, -getElem?_neg, List.getElem?_cons_zero, List.getElem?_cons_succ, strsC, rowsC, iC, c1, c2, hc])
       | ((with_reducible first | refine hother _ _ rfl ?_ | refine hother2 _ _ rfl ?_); simp only [inBlockA, thenA, noGotoA, Nat.reduceEqDiff, if_false, if_true, ↓reduceIte])
       | (with_reducible refine And.intro (by omega) ?_)
       | fail)
      refine hexit _ _ rfl ?_
      simp only [inBlockA, thenA, ↓reduceIte]
      repeat' (first 
       | (with_reducible first | refine awp_scope ?_ | refine awp_seq ?_ | refine awp_block ?_)
       | ((with_reducible first | refine awp_label ?_ | refine awp_skip ?_); try simp only [thenA, inBlockA, noGotoA])
       | (with_reducible refine awp_exit ?_; simp only [thenA, inBlockA, noGotoA, if_true, Nat.reduceEqDiff, if_false, ↓reduceIte])
       | (with_reducible refine awp_ret ?_; (try simp only [thenA, inBlockA, noGotoA]); (try simp [-List.reduceReplicate, Nat.add_one_le_iff, -getElem?_pos, -getElem?_neg, List.getElem?_cons_zero, List.getElem?_cons_succ]))
       | ((with_reducible first | refine awp_reg 51 hX [0, 1, 4, 5, 6, 7, 8, 18, 34] ?_ | change postOf _ _ _ _ _); simp [-List.reduceReplicate, Nat.add_one_le_iff, -getElem?_pos, -getElem?_neg, List.getElem?_cons_zero, List.getElem?_cons_succ])
       | (with_reducible refine awp_if_b rfl (fun hc => ?_) (fun hc => ?_) <;> (try simp [-getElem?_pos, -getElem?_neg] at hc) <;> (try (exfalso; omega)))
       | ((with_reducible first | refine GuardK_b (fun hc => ?_) (fun hc => ?_)) <;> (try simp only [Bool.not_eq_true', Bool.not_eq_false', decide_eq_true_eq, decide_eq_false_iff_not] at hc) <;> (first | (exfalso; omega) | skip) <;> simp [-List.reduceReplicate, Nat.add_one_le_iff, -getElem?_pos, -getElem?_neg, List.getElem?_cons_zero, List.getElem?_cons_succ, hc])
       | ((with_reducible first | refine hother _ _ rfl ?_ | refine hother2 _ _ rfl ?_); simp only [inBlockA, thenA, noGotoA, Nat.reduceEqDiff, if_false, if_true, ↓reduceIte])
       | (with_reducible refine And.intro (by omega) ?_)
       | fail)
    · have c2 : ¬ i < keys.length := by omega
      repeat' (first 
       | (with_reducible first | refine awp_scope ?_ | refine awp_seq ?_ | refine awp_block ?_)
       | ((with_reducible first | refine awp_label ?_ | refine awp_skip ?_); try simp only [thenA, inBlockA, noGotoA])
       | (with_reducible refine awp_exit ?_; simp only [thenA, inBlockA, noGotoA, if_true, Nat.reduceEqDiff, if_false, ↓reduceIte])
       | (with_reducible refine awp_ret ?_; (try simp only [thenA, inBlockA, noGotoA]); (try simp [-List.reduceReplicate, Nat.add_one_le_iff, -getElem?_pos, -getElem?_neg, List.getElem?_cons_zero, List.getElem?_cons_succ, strsC, rowsC, iC, c2]))
       | ((with_reducible first | refine awp_reg 51 hX [0, 1, 4, 5, 6, 7, 8, 18, 34] ?_ | change postOf _ _ _ _ _); simp [-List.reduceReplicate, Nat.add_one_le_iff, -getElem?_pos, -getElem?_neg, List.getElem?_cons_zero, List.getElem?_cons_succ, strsC, rowsC, iC, c2])
       | (with_reducible refine awp_if_b rfl (fun hc => ?_) (fun hc => ?_) <;> (try simp [-getElem?_pos, -getElem?_neg] at hc) <;> (try (exfalso; omega)))
       | ((with_reducible first | refine GuardK_b (fun hc => ?_) (fun hc => ?_)) <;> (try simp only [Bool.not_eq_true', Bool.not_eq_false', decide_eq_true_eq, decide_eq_false_iff_not] at hc) <;> (first | (exfalso; omega) | skip) <;> simp [-List.reduceReplicate, Nat.add_one_le_iff, -getElem?_pos, -getElem?_neg, List.getElem?_cons_zero, List.getElem?_cons_succ, strsC, rowsC, iC, c2, hc])
       | ((with_reducible first | refine hother _ _ rfl ?_ | refine hother2 _ _ rfl ?_); simp only [inBlockA, thenA, noGotoA, Nat.reduceEqDiff, if_false, if_true, ↓reduceIte])
       | (with_reducible refine And.intro (by omega) ?_)
       | fail)
      refine hexit _ _ rfl ?_
      simp only [inBlockA, thenA, ↓reduceIte]
      repeat' (first 
       | (with_reducible first | refine awp_scope ?_ | refine awp_seq ?_ | refine awp_block ?_)
       | ((with_reducible first | refine awp_label ?_ | refine awp_skip ?_); try simp only [thenA, inBlockA, noGotoA])
       | (with_reducible refine awp_exit ?_; simp only [thenA, inBlockA, noGotoA, if_true, Nat.reduceEqDiff, if_false, ↓reduceIte])
       | (with_reducible refine awp_ret ?_; (try simp only [thenA, inBlockA, noGotoA]); (try simp [-List.reduceReplicate, Nat.add_one_le_iff, -getElem?_pos, -getElem?_neg, List.getElem?_cons_zero, List.getElem?_cons_succ]))
       | ((with_reducible first | refine awp_reg 51 hX [0, 1, 4, 5, 6, 7, 8, 18, 34] ?_ | change postOf _ _ _ _ _); simp [-List.reduceReplicate, Nat.add_one_le_iff, -getElem?_pos, -getElem?_neg, List.getElem?_cons_zero, List.getElem?_cons_succ])
       | (with_reducible refine awp_if_b rfl (fun hc => ?_) (fun hc => ?_) <;> (try simp [-getElem?_pos, -getElem?_neg] at hc) <;> (try (exfalso; omega)))
       | ((with_reducible first | refine GuardK_b (fun hc => ?_) (fun hc => ?_)) <;> (try simp only [Bool.not_eq_true', Bool.not_eq_false', decide_eq_true_eq, decide_eq_false_iff_not] at hc) <;> (first | (exfalso; omega) | skip) <;> simp [-List.reduceReplicate, Nat.add_one_le_iff, -getElem?_pos, -getElem?_neg, List.getElem?_cons_zero, List.getElem?_cons_succ, hc])
       | ((with_reducible first | refine hother _ _ rfl ?_ | refine hother2 _ _ rfl ?_); simp only [inBlockA, thenA, noGotoA, Nat.reduceEqDiff, if_false, if_true, ↓reduceIte])
       | (with_reducible refine And.intro (by omega) ?_)
       | fail)
end Go.Av
