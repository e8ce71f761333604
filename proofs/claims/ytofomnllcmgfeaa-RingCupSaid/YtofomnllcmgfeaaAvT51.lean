import Derived.Test.YtofomnllcmgfeaaAvT50
import Derived.Test.YtofomnllcmgfeaaAvEngine3
set_option linter.unusedVariables false
set_option linter.unusedSimpArgs false
set_option maxRecDepth 100000
set_option maxHeartbeats 4000000
namespace Go.Av
open Go Go.Proofs Go.Proofs.Ytofomnllcmgfeaa Go.RowKit
/-! ### cup: who is better than all wins -/
open Go.Hp
theorem ord_head (keys : List ByteArray) (v : List (List Int)) (t : Nat) (ht : t < min keys.length v.length) (h : ∀ i, i < min keys.length v.length → i ≠ t → winsTo v i v.length < winsTo v t v.length) : winI keys v = (t : Int) := by
  obtain ⟨s1, s2⟩ := ordR_ok keys v
  have hm : runOf keys v t ∈ ordR keys v := s1.symm.subset (List.mem_map.2 ⟨t, List.mem_range.2 ht, rfl⟩)
  unfold winI ordI
  cases ho : ordR keys v with
  | nil => rw [ho] at hm; simp at hm
  | cons x l =>
    rw [ho] at hm s1 s2
    have hx : x ∈ runs keys v (min keys.length v.length) := s1.subset (by simp)
    obtain ⟨i, hi, rfl⟩ := List.mem_map.1 hx
    have hi' := List.mem_range.1 hi
    by_cases e : i = t
    · subst e; simp [runOf]
    · exfalso
      have hlt := h i hi' e
      rcases List.mem_cons.1 hm with h1 | h1
      · have := congrArg Run.at_ h1
        simp only [runOf] at this
        omega
      · have h2 := (List.pairwise_cons.1 s2).1 _ h1
        rw [rlt_eq, if_neg (by omega)] at h2
        simp only [decide_eq_false_iff_not] at h2
        omega
theorem wins_less (v : List (List Int)) (i t : Nat) (hi : i < v.length) (hne : i ≠ t) (htop : ∀ k, k < v.length → k ≠ t → beats v t k = true) (hno : beats v i t = false) : winsTo v i v.length < winsTo v t v.length := by
  have hs : Rg.Sub v.length (fun k : Nat => !decide ((k : Int) = (i : Int)) && beats v i k) (fun k : Nat => !decide ((k : Int) = (t : Int)) && beats v t k) := fun k hk hb => by
    simp only [Bool.and_eq_true, Bool.not_eq_true', decide_eq_false_iff_not] at hb ⊢
    have : k ≠ t := fun e => by subst e; rw [hno] at hb; simp at hb
    exact ⟨by omega, htop k hk this⟩
  obtain ⟨h1, h2⟩ := Rg.pos_sub hs
  have e1 : ∀ j, winsTo v (j : Int) v.length = (Rg.posF (fun k : Nat => !decide ((k : Int) = (j : Int)) && beats v j k) v.length).length := fun j => rfl
  rw [e1 i, e1 t]
  rcases Nat.lt_or_ge (Rg.posF (fun k : Nat => !decide ((k : Int) = (i : Int)) && beats v i k) v.length).length (Rg.posF (fun k : Nat => !decide ((k : Int) = (t : Int)) && beats v t k) v.length).length with h | h
  · exact h
  · have := h2 (by omega) i hi
    have hb := htop i hi hne
    have hne2 : ¬ (i : Int) = (t : Int) := by omega
    simp [hb, hne2] at this
def btn (keys : List ByteArray) (v : List (List Int)) (t i : Nat) : Bool := decide (keys.length ≤ t) || (List.range i).any fun i => !decide (i = t) && beats v i t
theorem btn_succ (keys : List ByteArray) (v : List (List Int)) (t i : Nat) : btn keys v t (i + 1) = (btn keys v t i || (!decide (i = t) && beats v i t)) := by
  unfold btn
  rw [List.range_succ, List.any_append, Bool.or_assoc]
  simp
theorem btn_win (keys : List ByteArray) (v : List (List Int)) (t : Nat) (htv : t < v.length) (htop : ∀ k, k < v.length → k ≠ t → beats v t k = true) (h : btn keys v t v.length = false) : winI keys v = (t : Int) := by
  unfold btn at h
  simp only [Bool.or_eq_false_iff, decide_eq_false_iff_not, List.any_eq_false, List.mem_range] at h
  obtain ⟨h1, h2⟩ := h
  refine ord_head keys v t (by omega) (fun i hi hne => wins_less v i t (by omega) hne htop ?_)
  have := h2 i (by omega)
  simpa [hne] using this
set_option maxHeartbeats 4000000 in
theorem cupBest_den (keys : List ByteArray) (v : List (List Int)) (ob : List Ob) : Den Try.prog 8 [.c (strsC keys), .c (rowsC v)] ob (fun r ob' => r = .c (bC true) ∧ ob' = ob) := by
  refine Den.frame rfl rfl ?_ ob
  have f1 := few_den keys
  by_cases hfw : few keys = true
  · rw [hfw] at f1
    have hkl := few_len hfw
    by_cases hg : great v = true
    · skip
      refine den_of Try.func8 rfl rfl (by simp [Try.ntmps8]) (fun X hX hO => ?_)
      rw [Try.ntmps8] at hX
      simp only [Try.results8]
      repeat' (first 
       | (with_reducible first | refine awp_scope ?_ | refine awp_seq ?_ | refine awp_block ?_)
       | ((with_reducible first | refine awp_label ?_ | refine awp_skip ?_); try simp only [thenA, inBlockA, noGotoA])
       | (with_reducible refine awp_exit ?_; simp only [thenA, inBlockA, noGotoA, if_true, Nat.reduceEqDiff, if_false, ↓reduceIte])
       | (with_reducible refine awp_ret ?_; (try simp only [thenA, inBlockA, noGotoA]); (try simp [-List.reduceReplicate, Nat.add_one_le_iff, -getElem?_pos, -getElem?_neg, List.getElem?_cons_zero, List.getElem?_cons_succ, bC, hg]))
       | ((with_reducible first | refine awp_reg 62 hX [0, 1, 4, 5, 6, 7, 8, 9, 16, 23, 37, 60] ?_ | change postOf _ _ _ _ _); simp [-List.reduceReplicate, Nat.add_one_le_iff, -getElem?_pos, -getElem?_neg, List.getElem?_cons_zero, List.getElem?_cons_succ, bC, hg])
       | ((first | (refine (f1 _).det ?_) | ((with_reducible refine Den.at_ (f := 21) ?_); refine (great_den _ _).det ?_) | ((with_reducible refine Den.at_ (f := 27) ?_); refine (awake45_den _).det ?_)); try simp [-List.reduceReplicate, Nat.add_one_le_iff, -getElem?_pos, -getElem?_neg, List.getElem?_cons_zero, List.getElem?_cons_succ, bC, hg])
       | (with_reducible refine awp_if_b rfl (fun hc => ?_) (fun hc => ?_) <;> (try simp [-getElem?_pos, -getElem?_neg] at hc) <;> (try (exfalso; omega)))
       | ((with_reducible first | refine GuardK_b (fun hc => ?_) (fun hc => ?_)) <;> (try simp only [Bool.not_eq_true', Bool.not_eq_false', decide_eq_true_eq, decide_eq_false_iff_not] at hc) <;> (first | (exfalso; omega) | skip) <;> simp [-List.reduceReplicate, Nat.add_one_le_iff, -getElem?_pos, -getElem?_neg, List.getElem?_cons_zero, List.getElem?_cons_succ, bC, hg, hc])
       | ((with_reducible first | refine hother _ _ rfl ?_ | refine hother2 _ _ rfl ?_); simp only [inBlockA, thenA, noGotoA, Nat.reduceEqDiff, if_false, if_true, ↓reduceIte])
       | (with_reducible refine And.intro (by omega) ?_)
       | fail)
    · obtain ⟨hv, _⟩ := great_no v (by simpa using hg)
      have hg2 : great v = false := by simpa using hg
      have p1 := tops_den v [] (by omega)
      have p4 := winner_den keys v (by omega) (by omega)
      have htl : (tops v).length ≤ v.length := topsTo_len v _
      have hmem : ∀ (n : Nat) (t : Int), (tops v)[n]? = some t → ∃ k : Nat, t = k ∧ k < v.length ∧ ∀ j, j < v.length → j ≠ k → beats v k j = true := fun n t h => by
        have hm := List.mem_of_getElem? h
        unfold tops topsTo at hm
        simp only [List.mem_map, List.mem_filter, List.mem_range] at hm
        obtain ⟨k, ⟨hk, hb⟩, rfl⟩ := hm
        refine ⟨k, rfl, hk, fun j hj hne => ?_⟩
        unfold isTop at hb
        have := List.all_eq_true.1 hb j (List.mem_range.2 hj)
        simpa [hne] using this
      have hbw := fun t => btn_win keys v t
      have hbs := btn_succ keys v
      have hb0 : ∀ t, btn keys v t 0 = decide (keys.length ≤ t) := fun t => by simp [btn]
      have gd := great_den v []
      rw [hg2] at gd
      generalize winI keys v = w at *
      generalize btn keys v = bt at *
      generalize tops v = tp at *
      unfold strsC at *
      refine den_of Try.func8 rfl rfl (by simp [Try.ntmps8]) (fun X hX hO => ?_)
      rw [Try.ntmps8] at hX
      simp only [Try.results8]
      repeat' (first 
       | (with_reducible first | refine awp_scope ?_ | refine awp_seq ?_ | refine awp_block ?_)
       | ((with_reducible first | refine awp_label ?_ | refine awp_skip ?_); try simp only [thenA, inBlockA, noGotoA])
       | (with_reducible refine awp_exit ?_; simp only [thenA, inBlockA, noGotoA, if_true, Nat.reduceEqDiff, if_false, ↓reduceIte])
       | (with_reducible refine awp_ret ?_; (try simp only [thenA, inBlockA, noGotoA]); (try simp [-List.reduceReplicate, Nat.add_one_le_iff, -getElem?_pos, -getElem?_neg, List.getElem?_cons_zero, List.getElem?_cons_succ, bC]))
       | ((with_reducible first | refine awp_reg 62 hX [0, 1, 4, 5, 6, 7, 8, 9, 16, 23, 37, 60] ?_ | change postOf _ _ _ _ _); simp [-List.reduceReplicate, Nat.add_one_le_iff, -getElem?_pos, -getElem?_neg, List.getElem?_cons_zero, List.getElem?_cons_succ, bC])
       | ((first | (refine (f1 _).det ?_) | (refine (gd).det ?_) | (refine (p1).det ?_)); try simp [-List.reduceReplicate, Nat.add_one_le_iff, -getElem?_pos, -getElem?_neg, List.getElem?_cons_zero, List.getElem?_cons_succ, bC])
       | (with_reducible refine awp_if_b rfl (fun hc => ?_) (fun hc => ?_) <;> (try simp [-getElem?_pos, -getElem?_neg] at hc) <;> (try (exfalso; omega)))
       | ((with_reducible first | refine GuardK_b (fun hc => ?_) (fun hc => ?_)) <;> (try simp only [Bool.not_eq_true', Bool.not_eq_false', decide_eq_true_eq, decide_eq_false_iff_not] at hc) <;> (first | (exfalso; omega) | skip) <;> simp [-List.reduceReplicate, Nat.add_one_le_iff, -getElem?_pos, -getElem?_neg, List.getElem?_cons_zero, List.getElem?_cons_succ, bC, hc])
       | ((with_reducible first | refine hother _ _ rfl ?_ | refine hother2 _ _ rfl ?_); simp only [inBlockA, thenA, noGotoA, Nat.reduceEqDiff, if_false, if_true, ↓reduceIte])
       | (with_reducible refine And.intro (by omega) ?_)
       | fail)
      refine awp_forU [0, 1, 5, 6] (fun n (_u : Unit) => [(6, .c (iC n))]) (fun n (_u : Unit) => []) (fun n (_u : Unit) => True) (tp.length) (()) (by first | trivial | (simp; done) | omega | (intros; simp at *; done)) (by simp [-List.reduceReplicate, keep, iC]) (by simp [-List.reduceReplicate, iC]) ?_
      rintro n _u Q1 hi hH next hother
      conv => arg 5; arg 1; simp only [List.cons_append, List.nil_append, keep, get, Nat.reduceEqDiff, if_true, if_false, ↓reduceIte]
      have hwn := wrap_in ((n : Int) + 1) (by omega)
      by_cases hlt : n < tp.length
      · obtain ⟨t0, ht0⟩ := getI tp (n : Nat) (by omega) (by omega)
        simp only [Int.toNat_natCast] at ht0
        obtain ⟨t, rfl, htv, htop⟩ := hmem n t0 ht0
        repeat' (first 
         | (with_reducible first | refine awp_scope ?_ | refine awp_seq ?_ | refine awp_block ?_)
         | ((with_reducible first | refine awp_label ?_ | refine awp_skip ?_); try simp only [thenA, inBlockA, noGotoA])
         | (with_reducible refine awp_exit ?_; simp only [thenA, inBlockA, noGotoA, if_true, Nat.reduceEqDiff, if_false, ↓reduceIte])
         | (with_reducible refine awp_ret ?_; (try simp only [thenA, inBlockA, noGotoA]); (try simp [-List.reduceReplicate, Nat.add_one_le_iff, -getElem?_pos, -getElem?_neg, List.getElem?_cons_zero, List.getElem?_cons_succ, intsC, iC, bC, hlt, ht0]))
         | ((with_reducible first | refine awp_reg 62 hX [0, 1, 4, 5, 6, 7, 8, 9, 16, 23, 37, 60] ?_ | change postOf _ _ _ _ _); simp [-List.reduceReplicate, Nat.add_one_le_iff, -getElem?_pos, -getElem?_neg, List.getElem?_cons_zero, List.getElem?_cons_succ, intsC, iC, bC, hlt, ht0])
         | (with_reducible refine awp_if_b rfl (fun hc => ?_) (fun hc => ?_) <;> (try simp [-getElem?_pos, -getElem?_neg] at hc) <;> (try (exfalso; omega)))
         | ((with_reducible first | refine GuardK_b (fun hc => ?_) (fun hc => ?_)) <;> (try simp only [Bool.not_eq_true', Bool.not_eq_false', decide_eq_true_eq, decide_eq_false_iff_not] at hc) <;> (first | (exfalso; omega) | skip) <;> simp [-List.reduceReplicate, Nat.add_one_le_iff, -getElem?_pos, -getElem?_neg, List.getElem?_cons_zero, List.getElem?_cons_succ, intsC, iC, bC, hlt, ht0, hc])
         | ((with_reducible first | refine hother _ _ rfl ?_ | refine hother2 _ _ rfl ?_); simp only [inBlockA, thenA, noGotoA, Nat.reduceEqDiff, if_false, if_true, ↓reduceIte])
         | (with_reducible refine And.intro (by omega) ?_)
         | fail)
        have next1 := next; have hother2 := hother; clear next hother
        refine awp_forU [0, 1, 5, 6, 7, 8, 9] (fun i (_u : Unit) => [(8, .c (bC (bt t i))), (9, .c (iC i))]) (fun i (_u : Unit) => []) (fun i (_u : Unit) => True) (v.length) (()) (by first | trivial | (simp; done) | omega | (intros; simp at *; done)) (by simp [-List.reduceReplicate, keep, iC, bC, hb0]) (by simp [-List.reduceReplicate, iC, bC, hb0]) ?_
        rintro i _u Q1 hi hH next hother
        conv => arg 5; arg 1; simp only [List.cons_append, List.nil_append, keep, get, Nat.reduceEqDiff, if_true, if_false, ↓reduceIte]
        have hwi := wrap_in ((i : Int) + 1) (by omega)
        have hbi := hbs t i
        by_cases hil : i < v.length
        · cases c1 : bt t i
          · rw [c1, Bool.false_or] at hbi
            by_cases c2 : i = t
            · subst c2
              simp at hbi
              repeat' (first 
               | (with_reducible first | refine awp_scope ?_ | refine awp_seq ?_ | refine awp_block ?_)
               | ((with_reducible first | refine awp_label ?_ | refine awp_skip ?_); try simp only [thenA, inBlockA, noGotoA])
               | (with_reducible refine awp_exit ?_; simp only [thenA, inBlockA, noGotoA, if_true, Nat.reduceEqDiff, if_false, ↓reduceIte])
               | (with_reducible refine awp_ret ?_; (try simp only [thenA, inBlockA, noGotoA]); (try simp [-List.reduceReplicate, Nat.add_one_le_iff, -getElem?_pos, -getElem?_neg, List.getElem?_cons_zero, List.getElem?_cons_succ, rowsC, iC, bC, hil, hwi]))
               | ((with_reducible first | refine awp_reg 62 hX [0, 1, 4, 5, 6, 7, 8, 9, 16, 23, 37, 60] ?_ | change postOf _ _ _ _ _); simp [-List.reduceReplicate, Nat.add_one_le_iff, -getElem?_pos, -getElem?_neg, List.getElem?_cons_zero, List.getElem?_cons_succ, rowsC, iC, bC, hil, hwi])
               | (with_reducible refine awp_if_b rfl (fun hc => ?_) (fun hc => ?_) <;> (try simp [-getElem?_pos, -getElem?_neg] at hc) <;> (try (exfalso; omega)))
               | ((with_reducible first | refine GuardK_b (fun hc => ?_) (fun hc => ?_)) <;> (try simp only [Bool.not_eq_true', Bool.not_eq_false', decide_eq_true_eq, decide_eq_false_iff_not] at hc) <;> (first | (exfalso; omega) | skip) <;> simp [-List.reduceReplicate, Nat.add_one_le_iff, -getElem?_pos, -getElem?_neg, List.getElem?_cons_zero, List.getElem?_cons_succ, rowsC, iC, bC, hil, hwi, hc])
               | ((with_reducible first | refine hother _ _ rfl ?_ | refine hother2 _ _ rfl ?_); simp only [inBlockA, thenA, noGotoA, Nat.reduceEqDiff, if_false, if_true, ↓reduceIte])
               | (with_reducible refine And.intro (by omega) ?_)
               | fail)
              refine next _ _ (()) (by omega) (by first | trivial | omega | assumption) (by simp [-List.reduceReplicate, keep, iC, bC, hbi, rowsC, intsC]) (by simp [-List.reduceReplicate, iC, bC, hbi, rowsC, intsC])
            · have c2' : ¬ (i : Int) = (t : Int) := by omega
              have c3 : (!decide (i = t)) = true := by simp [c2]
              rw [c3, Bool.true_and] at hbi
              have q1 := beats_den v i t []
              rw [← hbi] at q1
              unfold rowsC at *
              repeat' (first 
               | (with_reducible first | refine awp_scope ?_ | refine awp_seq ?_ | refine awp_block ?_)
               | ((with_reducible first | refine awp_label ?_ | refine awp_skip ?_); try simp only [thenA, inBlockA, noGotoA])
               | (with_reducible refine awp_exit ?_; simp only [thenA, inBlockA, noGotoA, if_true, Nat.reduceEqDiff, if_false, ↓reduceIte])
               | (with_reducible refine awp_ret ?_; (try simp only [thenA, inBlockA, noGotoA]); (try simp [-List.reduceReplicate, Nat.add_one_le_iff, -getElem?_pos, -getElem?_neg, List.getElem?_cons_zero, List.getElem?_cons_succ, iC, bC, hil, hwi, c2']))
               | ((with_reducible first | refine awp_reg 62 hX [0, 1, 4, 5, 6, 7, 8, 9, 16, 23, 37, 60] ?_ | change postOf _ _ _ _ _); simp [-List.reduceReplicate, Nat.add_one_le_iff, -getElem?_pos, -getElem?_neg, List.getElem?_cons_zero, List.getElem?_cons_succ, iC, bC, hil, hwi, c2'])
               | ((first | (refine (q1).det ?_)); try simp [-List.reduceReplicate, Nat.add_one_le_iff, -getElem?_pos, -getElem?_neg, List.getElem?_cons_zero, List.getElem?_cons_succ, iC, bC, hil, hwi, c2'])
               | (with_reducible refine awp_if_b rfl (fun hc => ?_) (fun hc => ?_) <;> (try simp [-getElem?_pos, -getElem?_neg] at hc) <;> (try (exfalso; omega)))
               | ((with_reducible first | refine GuardK_b (fun hc => ?_) (fun hc => ?_)) <;> (try simp only [Bool.not_eq_true', Bool.not_eq_false', decide_eq_true_eq, decide_eq_false_iff_not] at hc) <;> (first | (exfalso; omega) | skip) <;> simp [-List.reduceReplicate, Nat.add_one_le_iff, -getElem?_pos, -getElem?_neg, List.getElem?_cons_zero, List.getElem?_cons_succ, iC, bC, hil, hwi, c2', hc])
               | ((with_reducible first | refine hother _ _ rfl ?_ | refine hother2 _ _ rfl ?_); simp only [inBlockA, thenA, noGotoA, Nat.reduceEqDiff, if_false, if_true, ↓reduceIte])
               | (with_reducible refine And.intro (by omega) ?_)
               | fail)
              refine next _ _ (()) (by omega) (by first | trivial | omega | assumption) (by simp [-List.reduceReplicate, keep, iC, bC, rowsC, intsC]) (by simp [-List.reduceReplicate, iC, bC, rowsC, intsC])
          · rw [c1, Bool.true_or] at hbi
            repeat' (first 
             | (with_reducible first | refine awp_scope ?_ | refine awp_seq ?_ | refine awp_block ?_)
             | ((with_reducible first | refine awp_label ?_ | refine awp_skip ?_); try simp only [thenA, inBlockA, noGotoA])
             | (with_reducible refine awp_exit ?_; simp only [thenA, inBlockA, noGotoA, if_true, Nat.reduceEqDiff, if_false, ↓reduceIte])
             | (with_reducible refine awp_ret ?_; (try simp only [thenA, inBlockA, noGotoA]); (try simp [-List.reduceReplicate, Nat.add_one_le_iff, -getElem?_pos, -getElem?_neg, List.getElem?_cons_zero, List.getElem?_cons_succ, rowsC, iC, bC, hil, hwi]))
             | ((with_reducible first | refine awp_reg 62 hX [0, 1, 4, 5, 6, 7, 8, 9, 16, 23, 37, 60] ?_ | change postOf _ _ _ _ _); simp [-List.reduceReplicate, Nat.add_one_le_iff, -getElem?_pos, -getElem?_neg, List.getElem?_cons_zero, List.getElem?_cons_succ, rowsC, iC, bC, hil, hwi])
             | (with_reducible refine awp_if_b rfl (fun hc => ?_) (fun hc => ?_) <;> (try simp [-getElem?_pos, -getElem?_neg] at hc) <;> (try (exfalso; omega)))
             | ((with_reducible first | refine GuardK_b (fun hc => ?_) (fun hc => ?_)) <;> (try simp only [Bool.not_eq_true', Bool.not_eq_false', decide_eq_true_eq, decide_eq_false_iff_not] at hc) <;> (first | (exfalso; omega) | skip) <;> simp [-List.reduceReplicate, Nat.add_one_le_iff, -getElem?_pos, -getElem?_neg, List.getElem?_cons_zero, List.getElem?_cons_succ, rowsC, iC, bC, hil, hwi, hc])
             | ((with_reducible first | refine hother _ _ rfl ?_ | refine hother2 _ _ rfl ?_); simp only [inBlockA, thenA, noGotoA, Nat.reduceEqDiff, if_false, if_true, ↓reduceIte])
             | (with_reducible refine And.intro (by omega) ?_)
             | fail)
            refine next _ _ (()) (by omega) (by first | trivial | omega | assumption) (by simp [-List.reduceReplicate, keep, iC, bC, hbi, rowsC, intsC]) (by simp [-List.reduceReplicate, iC, bC, hbi, rowsC, intsC])
        · have hi2 : i = v.length := by omega
          subst hi2
          cases c1 : bt t v.length
          · have hw := hbw t htv htop c1
            unfold rowsC at *
            repeat' (first 
             | (with_reducible first | refine awp_scope ?_ | refine awp_seq ?_ | refine awp_block ?_)
             | ((with_reducible first | refine awp_label ?_ | refine awp_skip ?_); try simp only [thenA, inBlockA, noGotoA])
             | (with_reducible refine awp_exit ?_; simp only [thenA, inBlockA, noGotoA, if_true, Nat.reduceEqDiff, if_false, ↓reduceIte])
             | (with_reducible refine awp_ret ?_; (try simp only [thenA, inBlockA, noGotoA]); (try simp [-List.reduceReplicate, Nat.add_one_le_iff, -getElem?_pos, -getElem?_neg, List.getElem?_cons_zero, List.getElem?_cons_succ, iC, bC, hil, hwn, hw]))
             | ((with_reducible first | refine awp_reg 62 hX [0, 1, 4, 5, 6, 7, 8, 9, 16, 23, 37, 60] ?_ | change postOf _ _ _ _ _); simp [-List.reduceReplicate, Nat.add_one_le_iff, -getElem?_pos, -getElem?_neg, List.getElem?_cons_zero, List.getElem?_cons_succ, iC, bC, hil, hwn, hw])
             | ((first | (refine (p4 _).det ?_)); try simp [-List.reduceReplicate, Nat.add_one_le_iff, -getElem?_pos, -getElem?_neg, List.getElem?_cons_zero, List.getElem?_cons_succ, iC, bC, hil, hwn, hw])
             | (with_reducible refine awp_if_b rfl (fun hc => ?_) (fun hc => ?_) <;> (try simp [-getElem?_pos, -getElem?_neg] at hc) <;> (try (exfalso; omega)))
             | ((with_reducible first | refine GuardK_b (fun hc => ?_) (fun hc => ?_)) <;> (try simp only [Bool.not_eq_true', Bool.not_eq_false', decide_eq_true_eq, decide_eq_false_iff_not] at hc) <;> (first | (exfalso; omega) | skip) <;> simp [-List.reduceReplicate, Nat.add_one_le_iff, -getElem?_pos, -getElem?_neg, List.getElem?_cons_zero, List.getElem?_cons_succ, iC, bC, hil, hwn, hw, hc])
             | ((with_reducible first | refine hother _ _ rfl ?_ | refine hother2 _ _ rfl ?_); simp only [inBlockA, thenA, noGotoA, Nat.reduceEqDiff, if_false, if_true, ↓reduceIte])
             | (with_reducible refine And.intro (by omega) ?_)
             | fail)
            refine next1 _ _ (()) (by omega) (by first | trivial | omega | assumption) (by simp [-List.reduceReplicate, keep, iC, rowsC, intsC]) (by simp [-List.reduceReplicate, iC, rowsC, intsC])
          · repeat' (first 
             | (with_reducible first | refine awp_scope ?_ | refine awp_seq ?_ | refine awp_block ?_)
             | ((with_reducible first | refine awp_label ?_ | refine awp_skip ?_); try simp only [thenA, inBlockA, noGotoA])
             | (with_reducible refine awp_exit ?_; simp only [thenA, inBlockA, noGotoA, if_true, Nat.reduceEqDiff, if_false, ↓reduceIte])
             | (with_reducible refine awp_ret ?_; (try simp only [thenA, inBlockA, noGotoA]); (try simp [-List.reduceReplicate, Nat.add_one_le_iff, -getElem?_pos, -getElem?_neg, List.getElem?_cons_zero, List.getElem?_cons_succ, rowsC, iC, bC, hil, hwn]))
             | ((with_reducible first | refine awp_reg 62 hX [0, 1, 4, 5, 6, 7, 8, 9, 16, 23, 37, 60] ?_ | change postOf _ _ _ _ _); simp [-List.reduceReplicate, Nat.add_one_le_iff, -getElem?_pos, -getElem?_neg, List.getElem?_cons_zero, List.getElem?_cons_succ, rowsC, iC, bC, hil, hwn])
             | (with_reducible refine awp_if_b rfl (fun hc => ?_) (fun hc => ?_) <;> (try simp [-getElem?_pos, -getElem?_neg] at hc) <;> (try (exfalso; omega)))
             | ((with_reducible first | refine GuardK_b (fun hc => ?_) (fun hc => ?_)) <;> (try simp only [Bool.not_eq_true', Bool.not_eq_false', decide_eq_true_eq, decide_eq_false_iff_not] at hc) <;> (first | (exfalso; omega) | skip) <;> simp [-List.reduceReplicate, Nat.add_one_le_iff, -getElem?_pos, -getElem?_neg, List.getElem?_cons_zero, List.getElem?_cons_succ, rowsC, iC, bC, hil, hwn, hc])
             | ((with_reducible first | refine hother _ _ rfl ?_ | refine hother2 _ _ rfl ?_); simp only [inBlockA, thenA, noGotoA, Nat.reduceEqDiff, if_false, if_true, ↓reduceIte])
             | (with_reducible refine And.intro (by omega) ?_)
             | fail)
            refine next1 _ _ (()) (by omega) (by first | trivial | omega | assumption) (by simp [-List.reduceReplicate, keep, iC, rowsC, intsC]) (by simp [-List.reduceReplicate, iC, rowsC, intsC])
      · have hn2 : n = tp.length := by omega
        subst hn2
        repeat' (first 
         | (with_reducible first | refine awp_scope ?_ | refine awp_seq ?_ | refine awp_block ?_)
         | ((with_reducible first | refine awp_label ?_ | refine awp_skip ?_); try simp only [thenA, inBlockA, noGotoA])
         | (with_reducible refine awp_exit ?_; simp only [thenA, inBlockA, noGotoA, if_true, Nat.reduceEqDiff, if_false, ↓reduceIte])
         | (with_reducible refine awp_ret ?_; (try simp only [thenA, inBlockA, noGotoA]); (try simp [-List.reduceReplicate, Nat.add_one_le_iff, -getElem?_pos, -getElem?_neg, List.getElem?_cons_zero, List.getElem?_cons_succ, intsC, iC, bC, hlt]))
         | ((with_reducible first | refine awp_reg 62 hX [0, 1, 4, 5, 6, 7, 8, 9, 16, 23, 37, 60] ?_ | change postOf _ _ _ _ _); simp [-List.reduceReplicate, Nat.add_one_le_iff, -getElem?_pos, -getElem?_neg, List.getElem?_cons_zero, List.getElem?_cons_succ, intsC, iC, bC, hlt])
         | ((first | ((with_reducible refine Den.at_ (f := 27) ?_); refine (awake45_den _).det ?_)); try simp [-List.reduceReplicate, Nat.add_one_le_iff, -getElem?_pos, -getElem?_neg, List.getElem?_cons_zero, List.getElem?_cons_succ, intsC, iC, bC, hlt])
         | (with_reducible refine awp_if_b rfl (fun hc => ?_) (fun hc => ?_) <;> (try simp [-getElem?_pos, -getElem?_neg] at hc) <;> (try (exfalso; omega)))
         | ((with_reducible first | refine GuardK_b (fun hc => ?_) (fun hc => ?_)) <;> (try simp only [Bool.not_eq_true', Bool.not_eq_false', decide_eq_true_eq, decide_eq_false_iff_not] at hc) <;> (first | (exfalso; omega) | skip) <;> simp [-List.reduceReplicate, Nat.add_one_le_iff, -getElem?_pos, -getElem?_neg, List.getElem?_cons_zero, List.getElem?_cons_succ, intsC, iC, bC, hlt, hc])
         | ((with_reducible first | refine hother _ _ rfl ?_ | refine hother2 _ _ rfl ?_); simp only [inBlockA, thenA, noGotoA, Nat.reduceEqDiff, if_false, if_true, ↓reduceIte])
         | (with_reducible refine And.intro (by omega) ?_)
         | fail)
  · have hfw2 : few keys = false := by simpa using hfw
    rw [hfw2] at f1
    refine den_of Try.func8 rfl rfl (by simp [Try.ntmps8]) (fun X hX hO => ?_)
    rw [Try.ntmps8] at hX
    simp only [Try.results8]
    repeat' (first 
     | (with_reducible first | refine awp_scope ?_ | refine awp_seq ?_ | refine awp_block ?_)
     | ((with_reducible first | refine awp_label ?_ | refine awp_skip ?_); try simp only [thenA, inBlockA, noGotoA])
     | (with_reducible refine awp_exit ?_; simp only [thenA, inBlockA, noGotoA, if_true, Nat.reduceEqDiff, if_false, ↓reduceIte])
     | (with_reducible refine awp_ret ?_; (try simp only [thenA, inBlockA, noGotoA]); (try simp [-List.reduceReplicate, Nat.add_one_le_iff, -getElem?_pos, -getElem?_neg, List.getElem?_cons_zero, List.getElem?_cons_succ, bC]))
     | ((with_reducible first | refine awp_reg 62 hX [0, 1, 4, 5, 6, 7, 8, 9, 16, 23, 37, 60] ?_ | change postOf _ _ _ _ _); simp [-List.reduceReplicate, Nat.add_one_le_iff, -getElem?_pos, -getElem?_neg, List.getElem?_cons_zero, List.getElem?_cons_succ, bC])
     | ((first | (refine (f1 _).det ?_) | ((with_reducible refine Den.at_ (f := 27) ?_); refine (awake45_den _).det ?_)); try simp [-List.reduceReplicate, Nat.add_one_le_iff, -getElem?_pos, -getElem?_neg, List.getElem?_cons_zero, List.getElem?_cons_succ, bC])
     | (with_reducible refine awp_if_b rfl (fun hc => ?_) (fun hc => ?_) <;> (try simp [-getElem?_pos, -getElem?_neg] at hc) <;> (try (exfalso; omega)))
     | ((with_reducible first | refine GuardK_b (fun hc => ?_) (fun hc => ?_)) <;> (try simp only [Bool.not_eq_true', Bool.not_eq_false', decide_eq_true_eq, decide_eq_false_iff_not] at hc) <;> (first | (exfalso; omega) | skip) <;> simp [-List.reduceReplicate, Nat.add_one_le_iff, -getElem?_pos, -getElem?_neg, List.getElem?_cons_zero, List.getElem?_cons_succ, bC, hc])
     | ((with_reducible first | refine hother _ _ rfl ?_ | refine hother2 _ _ rfl ?_); simp only [inBlockA, thenA, noGotoA, Nat.reduceEqDiff, if_false, if_true, ↓reduceIte])
     | (with_reducible refine And.intro (by omega) ?_)
     | fail)
end Go.Av
