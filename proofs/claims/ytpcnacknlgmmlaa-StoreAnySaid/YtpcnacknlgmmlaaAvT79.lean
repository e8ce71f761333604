/- 1 texts of the program logic over abstract values, joined: each is proved without any condition beyond its own words. -/
import Derived.Test.YtpcnacknlgmmlaaAvT78
set_option exponentiation.threshold 1000
set_option linter.unusedVariables false
set_option linter.unusedSimpArgs false
set_option maxRecDepth 100000
set_option maxHeartbeats 4000000
namespace Go.Av
open Go Go.Proofs Go.Proofs.Ytpcnacknlgmmlaa Go.RowKit
attribute [local simp] List.getElem?_cons_zero List.getElem?_cons_succ
/-! ### laws 53: the store at nothing -/
attribute [local simp] Try.underlying40 Try.underlying9 Try.underlying3 Try.underlying4
def stObs (n : Int) (l : List ByteArray) : List Ob := [oddOb (.map (entS l)), stO n (.mm 0)]
theorem new0_den (n : Int) : Den Try.prog 9 [.c (iC n)] [] (fun r ob' => r = .mp 1 0 0 ∧ ob' = stObs n []) := new_den n []
theorem add0_in (n : Int) (l : List ByteArray) (s : ByteArray) (hs : s ∈ l) : Den Try.prog 10 [.mp 1 0 0, .c (sC s)] (stObs n l) (fun r ob' => r = .tup [.c (bC false), .c (iC 0)] ∧ ob' = stObs n l) :=
  add_in 1 0 n l s _ rfl rfl hs
theorem add0_full (n : Int) (l : List ByteArray) (s : ByteArray) (hs : s ∉ l) (hn : n ≤ (l.length : Int)) : Den Try.prog 10 [.mp 1 0 0, .c (sC s)] (stObs n l) (fun r ob' => r = .tup [.c (bC false), .c (iC 5)] ∧ ob' = stObs n l) :=
  add_full 1 0 n l s _ rfl rfl hs hn
theorem add0_new (n : Int) (l : List ByteArray) (s : ByteArray) (hs8 : s.size ≤ 281474976710656) (hs : s ∉ l) (hn : ¬ n ≤ (l.length : Int)) : Den Try.prog 10 [.mp 1 0 0, .c (sC s)] (stObs n l) (fun r ob' => r = .tup [.c (bC true), .c (iC 0)] ∧ ob' = stObs n (l ++ [s])) :=
  add_new 1 0 n l s _ hs8 rfl rfl hs hn
theorem len0_den (n : Int) (l : List ByteArray) : Den Try.prog 13 [.mp 1 0 0] (stObs n l) (fun r ob' => r = .c (iC l.length) ∧ ob' = stObs n l) := by
  have h := len_den 1 0 n (entS l) (stObs n l) rfl rfl
  rw [entS_len] at h
  exact h
theorem awake53_den : DenV Try.prog 8 [] (.c (bC true)) := by
  refine Den.frame rfl rfl ?_
  have c1 := new0_den 1
  have c2 := add0_new 1 [] ⟨#[97]⟩ (by decide) (by simp) (by simp)
  have c3 := add0_in 1 [⟨#[97]⟩] ⟨#[97]⟩ (by simp)
  have c4 := add0_full 1 [⟨#[97]⟩] ⟨#[98]⟩ (by simp) (by simp)
  have c5 := len0_den 1 [⟨#[97]⟩]
  simp only [List.nil_append, List.length_cons, List.length_nil] at c2 c3 c4 c5
  generalize stObs 1 [] = o0 at *
  generalize stObs 1 [⟨#[97]⟩] = o1 at *
  refine den_of Try.func8 rfl rfl (by simp [Try.ntmps8]) (fun X hX hO => ?_)
  rw [Try.ntmps8] at hX
  simp only [Try.results8]
  repeat' (first 
   | (with_reducible first | refine awp_scope ?_ | refine awp_seq ?_ | refine awp_block ?_)
   | ((with_reducible first | refine awp_label ?_ | refine awp_skip ?_ | refine awp_exit ?_); try simp only [thenA, inBlockA, noGotoA, if_true, Nat.reduceEqDiff, if_false, ↓reduceIte])
   | ((with_reducible first | refine awp_reg 50 hX [0, 1, 2, 3, 4, 5, 6, 7] ?_ | change postOf _ _ _ _ _); simp [-List.reduceReplicate, Nat.add_one_le_iff, -getElem?_pos, -getElem?_neg, iC, bC, sC])
   | ((first | (with_reducible refine awp_ret ?_; try simp only [thenA, inBlockA, noGotoA]) | (refine (c1).det ?_) | (refine (c2).det ?_) | (refine (c3).det ?_) | (refine (c4).det ?_) | (refine (c5).det ?_)); try simp [-List.reduceReplicate, Nat.add_one_le_iff, -getElem?_pos, -getElem?_neg, iC, bC, sC])
   | (with_reducible refine awp_if_b rfl (fun hc => ?_) (fun hc => ?_) <;> (try simp [-getElem?_pos, -getElem?_neg] at hc) <;> (try (exfalso; omega)))
   | ((with_reducible first | refine GuardK_b (fun hc => ?_) (fun hc => ?_)) <;> (try simp only [Bool.not_eq_true', Bool.not_eq_false', decide_eq_true_eq, decide_eq_false_iff_not] at hc) <;> (first | (exfalso; omega) | skip) <;> simp [-List.reduceReplicate, Nat.add_one_le_iff, -getElem?_pos, -getElem?_neg, iC, bC, sC, hc])
   | (with_reducible refine And.intro (by omega) ?_)
   | fail)
def zObs : List Ob := [stO 0 (.c (.v (.map none)))]
end Go.Av
