/- 1 texts of the program logic over abstract values, joined: each is proved without any condition beyond its own words. -/
import Derived.Test.YtpcnacknlgmmlaaAvT89
import Derived.Test.YtpcnacknlgmmlaaAvTO2
set_option exponentiation.threshold 1000
set_option linter.unusedVariables false
set_option linter.unusedSimpArgs false
set_option maxRecDepth 100000
set_option maxHeartbeats 4000000
namespace Go.Av
open Go Go.Proofs Go.Proofs.Ytpcnacknlgmmlaa Go.RowKit
attribute [local simp] List.getElem?_cons_zero List.getElem?_cons_succ
/-! ### StoreSteps -/
attribute [local simp] Try.underlying40 Try.underlying9 Try.underlying3 Try.underlying4 Try.underlying22
theorem has90_in (d : List ByteArray) (t : ByteArray) (hN : d.length ≤ 1000000) (h : t ∈ d) (ob : List Ob) : Den Try.prog 11 [.c (.sl (csB d) d.length false), .c (sC t)] ob (fun r ob' => r = .c (bC true) ∧ ob' = ob) := by
  have := has88_in d t hN h ob
  rwa [strT, sortB_len] at this
theorem has90_out (d : List ByteArray) (t : ByteArray) (hN : d.length ≤ 1000000) (h : t ∉ d) (ob : List Ob) : Den Try.prog 11 [.c (.sl (csB d) d.length false), .c (sC t)] ob (fun r ob' => r = .c (bC false) ∧ ob' = ob) := by
  have := has88_out d t hN h ob
  rwa [strT, sortB_len] at this
theorem with90_den (d : List ByteArray) (t : ByteArray) (hN : d.length ≤ 1000000) : DenV Try.prog 12 [.c (.sl (csB d) d.length false), .c (sC t)] (.c (.sl (csB (d ++ [t])) (d.length + 1) false)) := by
  have := with88_den d t hN
  rw [strT, strT, sortB_len, sortB_len, List.length_append] at this
  exact this
theorem same90_den (a b : List ByteArray) (hN : a.length ≤ 1000000) (hab : sortB a = sortB b) (ob : List Ob) : Den Try.prog 15 [.c (.sl (csB a) a.length false), .c (.sl (csB b) b.length false)] ob (fun r ob' => r = .c (bC true) ∧ ob' = ob) := by
  have h := same88_den (sortB a) (sortB b) (by rw [sortB_len]; exact hN) ob
  rw [strT, strT, sortB_len, sortB_len, decide_eq_true hab] at h
  exact h
theorem okSt (n : Int) (l : List ByteArray) : okOb (stObs n l) := rfl
theorem storeSteps_den (most : Int) (l : List ByteArray) (t : ByteArray) (hl : l.length ≤ 8796093021952 ∧ ∀ s ∈ l, s.size ≤ 140737488351232) : DenV Try.prog 3 [.c (iC most), .c (strC l), .c (sC t)] (.c (bC true)) := by
  refine Den.frame rfl rfl ?_
  have m1 := much53_den l hl.1 (fun s hs => Nat.le_trans (hl.2 s hs) (by omega))
  have aw := awake53_den
  have n1 := new0_den most
  have hno := @much53_no l
  have hat := strC_at l
  have hlm : (l.map fun s => C.v (.string s)).length = l.length := by simp
  have hz : csB [] = [] := by simp [csB, sortB]
  unfold strC at *
  generalize much53 l = mu at *
  generalize (l.map fun s => C.v (.string s)) = cs at *
  refine den_of Try.func3 rfl rfl (by simp [Try.ntmps3]) (fun X hX hO => ?_)
  rw [Try.ntmps3] at hX
  simp only [Try.results3]
  cases mu with
  | true =>
    repeat' (first 
     | (with_reducible first | refine awp_scope ?_ | refine awp_seq ?_ | refine awp_block ?_)
     | ((with_reducible first | refine awp_label ?_ | refine awp_skip ?_ | refine awp_exit ?_ | refine hother _ _ rfl ?_); try simp only [thenA, inBlockA, noGotoA, if_true, Nat.reduceEqDiff, if_false, ↓reduceIte])
     | ((with_reducible first | refine awp_reg 114 hX [0, 1, 2, 6, 7, 8, 9, 10, 11, 12, 13, 20, 27, 74, 75, 97] ?_ | change postOf _ _ _ _ _); simp [-List.reduceReplicate, Nat.add_one_le_iff, -getElem?_pos, -getElem?_neg, bC, iC, sC])
     | ((first | (with_reducible refine awp_ret ?_; try simp only [thenA, inBlockA, noGotoA]) | (refine (m1 _).det ?_) | (refine (aw _).det ?_)); try simp [-List.reduceReplicate, Nat.add_one_le_iff, -getElem?_pos, -getElem?_neg, bC, iC, sC])
     | (with_reducible refine awp_if_b rfl (fun hc => ?_) (fun hc => ?_) <;> (try simp [-getElem?_pos, -getElem?_neg] at hc) <;> (try (exfalso; omega)))
     | ((with_reducible first | refine GuardK_b (fun hc => ?_) (fun hc => ?_)) <;> (try simp only [Bool.not_eq_true', Bool.not_eq_false', decide_eq_true_eq, decide_eq_false_iff_not] at hc) <;> (first | (exfalso; omega) | skip) <;> simp [-List.reduceReplicate, Nat.add_one_le_iff, -getElem?_pos, -getElem?_neg, bC, iC, sC, hc])
     | (with_reducible refine And.intro (by omega) ?_)
     | fail)
  | false =>
    obtain ⟨hl1, hl2⟩ := hno rfl
    by_cases ht : 1000 < t.size
    · have h9 : (1000 : Int) < t.size := by omega
      repeat' (first 
       | (with_reducible first | refine awp_scope ?_ | refine awp_seq ?_ | refine awp_block ?_)
       | ((with_reducible first | refine awp_label ?_ | refine awp_skip ?_ | refine awp_exit ?_ | refine hother _ _ rfl ?_); try simp only [thenA, inBlockA, noGotoA, if_true, Nat.reduceEqDiff, if_false, ↓reduceIte])
       | ((with_reducible first | refine awp_reg 114 hX [0, 1, 2, 6, 7, 8, 9, 10, 11, 12, 13, 20, 27, 74, 75, 97] ?_ | change postOf _ _ _ _ _); simp [-List.reduceReplicate, Nat.add_one_le_iff, -getElem?_pos, -getElem?_neg, bC, iC, sC, h9])
       | ((first | (with_reducible refine awp_ret ?_; try simp only [thenA, inBlockA, noGotoA]) | (refine (m1 _).det ?_) | (refine (aw _).det ?_)); try simp [-List.reduceReplicate, Nat.add_one_le_iff, -getElem?_pos, -getElem?_neg, bC, iC, sC, h9])
       | (with_reducible refine awp_if_b rfl (fun hc => ?_) (fun hc => ?_) <;> (try simp [-getElem?_pos, -getElem?_neg] at hc) <;> (try (exfalso; omega)))
       | ((with_reducible first | refine GuardK_b (fun hc => ?_) (fun hc => ?_)) <;> (try simp only [Bool.not_eq_true', Bool.not_eq_false', decide_eq_true_eq, decide_eq_false_iff_not] at hc) <;> (first | (exfalso; omega) | skip) <;> simp [-List.reduceReplicate, Nat.add_one_le_iff, -getElem?_pos, -getElem?_neg, bC, iC, sC, h9, hc])
       | (with_reducible refine And.intro (by omega) ?_)
       | fail)
    have h9 : ¬ (1000 : Int) < t.size := by omega
    repeat' (first 
     | (with_reducible first | refine awp_scope ?_ | refine awp_seq ?_ | refine awp_block ?_)
     | ((with_reducible first | refine awp_label ?_ | refine awp_skip ?_ | refine awp_exit ?_ | refine hother _ _ rfl ?_); try simp only [thenA, inBlockA, noGotoA, if_true, Nat.reduceEqDiff, if_false, ↓reduceIte])
     | ((with_reducible first | refine awp_reg 114 hX [0, 1, 2, 6, 7, 8, 9, 10, 11, 12, 13, 20, 27, 74, 75, 97] ?_ | change postOf _ _ _ _ _); simp [-List.reduceReplicate, Nat.add_one_le_iff, -getElem?_pos, -getElem?_neg, bC, iC, sC, h9])
     | ((first | (with_reducible refine awp_ret ?_; try simp only [thenA, inBlockA, noGotoA]) | (refine (m1 _).det ?_) | (refine (aw _).det ?_) | (refine (n1).det ?_)); try simp [-List.reduceReplicate, Nat.add_one_le_iff, -getElem?_pos, -getElem?_neg, bC, iC, sC, h9])
     | (with_reducible refine awp_if_b rfl (fun hc => ?_) (fun hc => ?_) <;> (try simp [-getElem?_pos, -getElem?_neg] at hc) <;> (try (exfalso; omega)))
     | ((with_reducible first | refine GuardK_b (fun hc => ?_) (fun hc => ?_)) <;> (try simp only [Bool.not_eq_true', Bool.not_eq_false', decide_eq_true_eq, decide_eq_false_iff_not] at hc) <;> (first | (exfalso; omega) | skip) <;> simp [-List.reduceReplicate, Nat.add_one_le_iff, -getElem?_pos, -getElem?_neg, bC, iC, sC, h9, hc])
     | (with_reducible refine And.intro (by omega) ?_)
     | fail)
    refine awp_le 8 _ (.c (.sl [] 0 false)) rfl (leM_c (leC_nil false)) ?_
    refine awp_forU [0, 1, 2, 7, 8, 9] (fun i (d : List ByteArray) => [(0, .c (iC most)), (1, .c (.sl cs l.length false)), (2, .c (sC t)), (7, .mp 1 0 0), (8, .c (.sl (csB d) d.length false)), (9, .c (iC i))]) (fun i (d : List ByteArray) => stObs most d) (fun i (d : List ByteArray) => d.length ≤ i) (l.length) ([]) (by simp) (by simp [-List.reduceReplicate, keep, iC, hz, sC]) (by simp [-List.reduceReplicate, iC, hz, sC]) ?_
    rintro i d Q1 hi hH next hother
    conv => arg 5; arg 1; simp only [List.cons_append, List.nil_append, keep, get, Nat.reduceEqDiff, if_true, if_false, ↓reduceIte]
    have hwi := wrap_in ((i : Int) + 1) (by omega)
    have hd : d.length ≤ 1000000 := by omega
    have hcl := csB_len d
    by_cases hlt : i < l.length
    · obtain ⟨s, hs⟩ : ∃ s, l[i]? = some s := ⟨_, List.getElem?_eq_getElem hlt⟩
      have ha := hat i s hs
      have hs5 := hl2 s (List.mem_of_getElem? hs)
      have c4 := len0_den most d
      by_cases hm : s ∈ d
      · have c1 := add0_in most d s hm
        have c2 := has90_in d s hd hm (stObs most d)
        have c5 := has_in 1 0 most d s (stObs most d) rfl rfl hm
        repeat' (first 
         | (with_reducible first | refine awp_scope ?_ | refine awp_seq ?_ | refine awp_block ?_)
         | ((with_reducible first | refine awp_label ?_ | refine awp_skip ?_ | refine awp_exit ?_ | refine hother _ _ rfl ?_); try simp only [thenA, inBlockA, noGotoA, if_true, Nat.reduceEqDiff, if_false, ↓reduceIte])
         | ((with_reducible first | refine awp_reg 114 hX [0, 1, 2, 6, 7, 8, 9, 10, 11, 12, 13, 20, 27, 74, 75, 97] ?_ | change postOf _ _ _ _ _); simp [-List.reduceReplicate, Nat.add_one_le_iff, -getElem?_pos, -getElem?_neg, bC, iC, sC, hlt, ha, hlm, hwi])
         | ((first | (with_reducible refine awp_ret ?_; try simp only [thenA, inBlockA, noGotoA]) | (refine (c1).det ?_) | (refine (c2).det ?_) | (refine (c4).det ?_) | (refine (c5).det ?_)); try simp [-List.reduceReplicate, Nat.add_one_le_iff, -getElem?_pos, -getElem?_neg, bC, iC, sC, hlt, ha, hlm, hwi])
         | (with_reducible refine awp_if_b rfl (fun hc => ?_) (fun hc => ?_) <;> (try simp [-getElem?_pos, -getElem?_neg] at hc) <;> (try (exfalso; omega)))
         | ((with_reducible first | refine GuardK_b (fun hc => ?_) (fun hc => ?_)) <;> (try simp only [Bool.not_eq_true', Bool.not_eq_false', decide_eq_true_eq, decide_eq_false_iff_not] at hc) <;> (first | (exfalso; omega) | skip) <;> simp [-List.reduceReplicate, Nat.add_one_le_iff, -getElem?_pos, -getElem?_neg, bC, iC, sC, hlt, ha, hlm, hwi, hc])
         | (with_reducible refine And.intro (by omega) ?_)
         | fail)
        refine next _ _ (d) (by omega) (by first | trivial | omega | assumption) (by simp [-List.reduceReplicate, keep, iC, sC]) (by simp [-List.reduceReplicate, iC, sC])
      · by_cases hf : most ≤ (d.length : Int)
        · have c1 := add0_full most d s hm hf
          have c2 := has90_out d s hd hm (stObs most d)
          have c5 := has_out 1 0 most d s (stObs most d) rfl rfl hm
          repeat' (first 
           | (with_reducible first | refine awp_scope ?_ | refine awp_seq ?_ | refine awp_block ?_)
           | ((with_reducible first | refine awp_label ?_ | refine awp_skip ?_ | refine awp_exit ?_ | refine hother _ _ rfl ?_); try simp only [thenA, inBlockA, noGotoA, if_true, Nat.reduceEqDiff, if_false, ↓reduceIte])
           | ((with_reducible first | refine awp_reg 114 hX [0, 1, 2, 6, 7, 8, 9, 10, 11, 12, 13, 20, 27, 74, 75, 97] ?_ | change postOf _ _ _ _ _); simp [-List.reduceReplicate, Nat.add_one_le_iff, -getElem?_pos, -getElem?_neg, bC, iC, sC, hlt, ha, hlm, hwi, hf])
           | ((first | (with_reducible refine awp_ret ?_; try simp only [thenA, inBlockA, noGotoA]) | (refine (c1).det ?_) | (refine (c2).det ?_) | (refine (c4).det ?_) | (refine (c5).det ?_)); try simp [-List.reduceReplicate, Nat.add_one_le_iff, -getElem?_pos, -getElem?_neg, bC, iC, sC, hlt, ha, hlm, hwi, hf])
           | (with_reducible refine awp_if_b rfl (fun hc => ?_) (fun hc => ?_) <;> (try simp [-getElem?_pos, -getElem?_neg] at hc) <;> (try (exfalso; omega)))
           | ((with_reducible first | refine GuardK_b (fun hc => ?_) (fun hc => ?_)) <;> (try simp only [Bool.not_eq_true', Bool.not_eq_false', decide_eq_true_eq, decide_eq_false_iff_not] at hc) <;> (first | (exfalso; omega) | skip) <;> simp [-List.reduceReplicate, Nat.add_one_le_iff, -getElem?_pos, -getElem?_neg, bC, iC, sC, hlt, ha, hlm, hwi, hf, hc])
           | (with_reducible refine And.intro (by omega) ?_)
           | fail)
          refine next _ _ (d) (by omega) (by first | trivial | omega | assumption) (by simp [-List.reduceReplicate, keep, iC, sC]) (by simp [-List.reduceReplicate, iC, sC])
        · have c1 := add0_new most d s (by omega) hm hf
          have c2 := has90_out d s hd hm (stObs most (d ++ [s]))
          have c3 := with90_den d s hd
          have c4 := len0_den most (d ++ [s])
          have c5 := has_in 1 0 most (d ++ [s]) s (stObs most (d ++ [s])) rfl rfl (by simp)
          have hd2 : (d ++ [s]).length = d.length + 1 := by simp
          have hcl2 := csB_len (d ++ [s])
          rw [hd2] at c4 hcl2
          have nx : (d ++ [s]).length ≤ i + 1 := by omega
          generalize d ++ [s] = d2 at *
          repeat' (first 
           | (with_reducible first | refine awp_scope ?_ | refine awp_seq ?_ | refine awp_block ?_)
           | ((with_reducible first | refine awp_label ?_ | refine awp_skip ?_ | refine awp_exit ?_ | refine hother _ _ rfl ?_); try simp only [thenA, inBlockA, noGotoA, if_true, Nat.reduceEqDiff, if_false, ↓reduceIte])
           | ((with_reducible first | refine awp_reg 114 hX [0, 1, 2, 6, 7, 8, 9, 10, 11, 12, 13, 20, 27, 74, 75, 97] ?_ | change postOf _ _ _ _ _); simp [-List.reduceReplicate, Nat.add_one_le_iff, -getElem?_pos, -getElem?_neg, bC, iC, sC, hlt, ha, hlm, hwi, hf, hd2])
           | ((first | (with_reducible refine awp_ret ?_; try simp only [thenA, inBlockA, noGotoA]) | (refine (c1).det ?_) | (refine (c2).det ?_) | (refine (c3 _).det ?_) | (refine (c4).det ?_) | (refine (c5).det ?_)); try simp [-List.reduceReplicate, Nat.add_one_le_iff, -getElem?_pos, -getElem?_neg, bC, iC, sC, hlt, ha, hlm, hwi, hf, hd2])
           | (with_reducible refine awp_if_b rfl (fun hc => ?_) (fun hc => ?_) <;> (try simp [-getElem?_pos, -getElem?_neg] at hc) <;> (try (exfalso; omega)))
           | ((with_reducible first | refine GuardK_b (fun hc => ?_) (fun hc => ?_)) <;> (try simp only [Bool.not_eq_true', Bool.not_eq_false', decide_eq_true_eq, decide_eq_false_iff_not] at hc) <;> (first | (exfalso; omega) | skip) <;> simp [-List.reduceReplicate, Nat.add_one_le_iff, -getElem?_pos, -getElem?_neg, bC, iC, sC, hlt, ha, hlm, hwi, hf, hd2, hc])
           | (with_reducible refine And.intro (by omega) ?_)
           | fail)
          refine next _ _ (d2) (by omega) (by first | trivial | omega | assumption) (by simp [-List.reduceReplicate, keep, iC, sC, hd2]) (by simp [-List.reduceReplicate, iC, sC, hd2])
    · have hi2 : i = l.length := by omega
      have c1 := all_den 1 0 most d (stObs most d) rfl rfl (okSt _ _) hd
      have c2 := same90_den d d hd rfl (stObs most d)
      by_cases hm : t ∈ d
      · have c3 := has90_in d t hd hm (stObs most d)
        have c4 := has_in 1 0 most d t (stObs most d) rfl rfl hm
        repeat' (first 
         | (with_reducible first | refine awp_scope ?_ | refine awp_seq ?_ | refine awp_block ?_)
         | ((with_reducible first | refine awp_label ?_ | refine awp_skip ?_ | refine awp_exit ?_ | refine hother _ _ rfl ?_); try simp only [thenA, inBlockA, noGotoA, if_true, Nat.reduceEqDiff, if_false, ↓reduceIte])
         | ((with_reducible first | refine awp_reg 114 hX [0, 1, 2, 6, 7, 8, 9, 10, 11, 12, 13, 20, 27, 74, 75, 97] ?_ | change postOf _ _ _ _ _); simp [-List.reduceReplicate, Nat.add_one_le_iff, -getElem?_pos, -getElem?_neg, bC, iC, sC, hlt])
         | ((first | (with_reducible refine awp_ret ?_; try simp only [thenA, inBlockA, noGotoA]) | (refine (c1).det ?_) | (refine (c2).det ?_) | (refine (c3).det ?_) | (refine (c4).det ?_) | (refine (aw _).det ?_)); try simp [-List.reduceReplicate, Nat.add_one_le_iff, -getElem?_pos, -getElem?_neg, bC, iC, sC, hlt])
         | (with_reducible refine awp_if_b rfl (fun hc => ?_) (fun hc => ?_) <;> (try simp [-getElem?_pos, -getElem?_neg] at hc) <;> (try (exfalso; omega)))
         | ((with_reducible first | refine GuardK_b (fun hc => ?_) (fun hc => ?_)) <;> (try simp only [Bool.not_eq_true', Bool.not_eq_false', decide_eq_true_eq, decide_eq_false_iff_not] at hc) <;> (first | (exfalso; omega) | skip) <;> simp [-List.reduceReplicate, Nat.add_one_le_iff, -getElem?_pos, -getElem?_neg, bC, iC, sC, hlt, hc])
         | (with_reducible refine And.intro (by omega) ?_)
         | fail)
      · have c3 := has90_out d t hd hm (stObs most d)
        have c4 := has_out 1 0 most d t (stObs most d) rfl rfl hm
        repeat' (first 
         | (with_reducible first | refine awp_scope ?_ | refine awp_seq ?_ | refine awp_block ?_)
         | ((with_reducible first | refine awp_label ?_ | refine awp_skip ?_ | refine awp_exit ?_ | refine hother _ _ rfl ?_); try simp only [thenA, inBlockA, noGotoA, if_true, Nat.reduceEqDiff, if_false, ↓reduceIte])
         | ((with_reducible first | refine awp_reg 114 hX [0, 1, 2, 6, 7, 8, 9, 10, 11, 12, 13, 20, 27, 74, 75, 97] ?_ | change postOf _ _ _ _ _); simp [-List.reduceReplicate, Nat.add_one_le_iff, -getElem?_pos, -getElem?_neg, bC, iC, sC, hlt])
         | ((first | (with_reducible refine awp_ret ?_; try simp only [thenA, inBlockA, noGotoA]) | (refine (c1).det ?_) | (refine (c2).det ?_) | (refine (c3).det ?_) | (refine (c4).det ?_) | (refine (aw _).det ?_)); try simp [-List.reduceReplicate, Nat.add_one_le_iff, -getElem?_pos, -getElem?_neg, bC, iC, sC, hlt])
         | (with_reducible refine awp_if_b rfl (fun hc => ?_) (fun hc => ?_) <;> (try simp [-getElem?_pos, -getElem?_neg] at hc) <;> (try (exfalso; omega)))
         | ((with_reducible first | refine GuardK_b (fun hc => ?_) (fun hc => ?_)) <;> (try simp only [Bool.not_eq_true', Bool.not_eq_false', decide_eq_true_eq, decide_eq_false_iff_not] at hc) <;> (first | (exfalso; omega) | skip) <;> simp [-List.reduceReplicate, Nat.add_one_le_iff, -getElem?_pos, -getElem?_neg, bC, iC, sC, hlt, hc])
         | (with_reducible refine And.intro (by omega) ?_)
         | fail)
end Go.Av
