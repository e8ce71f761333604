/- 1 texts of the program logic over abstract values, joined: each is proved without any condition beyond its own words. -/
import Derived.Test.YtpcnacknlgmmlaaAvT86
set_option exponentiation.threshold 1000
set_option linter.unusedVariables false
set_option linter.unusedSimpArgs false
set_option maxRecDepth 100000
set_option maxHeartbeats 4000000
namespace Go.Av
open Go Go.Proofs Go.Proofs.Ytpcnacknlgmmlaa Go.RowKit
attribute [local simp] List.getElem?_cons_zero List.getElem?_cons_succ
/-! ### laws 53: much -/
attribute [local simp] Try.underlying40 Try.underlying9 Try.underlying3 Try.underlying4 Try.underlying22
def muchN (l : List ByteArray) : Nat → Nat
  | 0 => 0
  | i + 1 => min (muchN l i + (l.getD i ByteArray.empty).size) 1048576
def much53 (l : List ByteArray) : Bool := decide (100 < l.length) || decide (5000 < muchN l (min l.length 200))
theorem muchN_le (l : List ByteArray) (i : Nat) : muchN l i ≤ 1048576 := by
  cases i with
  | zero => simp [muchN]
  | succ i => simp only [muchN]; omega
theorem muchN_at (l : List ByteArray) : ∀ (i j : Nat), j < i → muchN l i ≤ 5000 → (l.getD j ByteArray.empty).size ≤ 5000 := by
  intro i
  induction i with
  | zero => intro j hj; omega
  | succ i ih =>
    intro j hj h
    simp only [muchN] at h
    by_cases hji : j < i
    · exact ih j hji (by omega)
    · obtain rfl : j = i := by omega
      omega
theorem much53_no {l : List ByteArray} (h : much53 l = false) : l.length ≤ 100 ∧ ∀ s ∈ l, s.size ≤ 5000 := by
  simp [much53] at h
  refine ⟨h.1, fun s hs => ?_⟩
  obtain ⟨j, hj, rfl⟩ := List.mem_iff_getElem.1 hs
  have := muchN_at l (min l.length 200) j (by omega) (by omega)
  simpa [hj] using this
theorem much53_den (l : List ByteArray) (hN : l.length ≤ 8796093021952) (hs8 : ∀ s ∈ l, s.size ≤ 281474976710656) (ob : List Ob) : Den Try.prog 7 [.c (strC l)] ob (fun r ob' => r = .c (bC (much53 l)) ∧ ob' = ob) := by
  have hat := strC_at l
  have hlm : (l.map fun s => C.v (.string s)).length = l.length := by simp
  unfold strC
  have hm : much53 l = (decide (100 < l.length) || decide (5000 < muchN l (min l.length 200))) := rfl
  have hle := muchN_le l
  have hz : muchN l 0 = 0 := rfl
  generalize (l.map fun s => C.v (.string s)) = cs at *
  refine den_of Try.func7 rfl rfl (by simp [Try.ntmps7]) (fun X hX hO => ?_)
  rw [Try.ntmps7] at hX
  simp only [Try.results7]
  repeat' (first 
   | (with_reducible first | refine awp_scope ?_ | refine awp_seq ?_ | refine awp_block ?_)
   | ((with_reducible first | refine awp_label ?_ | refine awp_skip ?_ | refine awp_exit ?_ | refine hother _ _ rfl ?_); try simp only [thenA, inBlockA, noGotoA, if_true, Nat.reduceEqDiff, if_false, ↓reduceIte])
   | ((with_reducible first | refine awp_reg 30 hX [0, 2, 3, 4, 12] ?_ | change postOf _ _ _ _ _); simp [-List.reduceReplicate, Nat.add_one_le_iff, -getElem?_pos, -getElem?_neg, bC, iC])
   | ((first | (with_reducible refine awp_ret ?_; try simp only [thenA, inBlockA, noGotoA])); try simp [-List.reduceReplicate, Nat.add_one_le_iff, -getElem?_pos, -getElem?_neg, bC, iC])
   | (with_reducible refine awp_if_b rfl (fun hc => ?_) (fun hc => ?_) <;> (try simp [-getElem?_pos, -getElem?_neg] at hc) <;> (try (exfalso; omega)))
   | ((with_reducible first | refine GuardK_b (fun hc => ?_) (fun hc => ?_)) <;> (try simp only [Bool.not_eq_true', Bool.not_eq_false', decide_eq_true_eq, decide_eq_false_iff_not] at hc) <;> (first | (exfalso; omega) | skip) <;> simp [-List.reduceReplicate, Nat.add_one_le_iff, -getElem?_pos, -getElem?_neg, bC, iC, hc])
   | (with_reducible refine And.intro (by omega) ?_)
   | fail)
  refine awp_forU [0, 3, 4] (fun i (g : Unit) => [(0, .c (.sl cs l.length false)), (3, .c (iC (muchN l i))), (4, .c (iC i))]) (fun i (g : Unit) => ob) (fun i (g : Unit) => True) (min l.length 200) (()) (by first | trivial | (simp; done) | omega | (intros; simp at *; done)) (by simp [-List.reduceReplicate, keep, iC, hz]) (by simp [-List.reduceReplicate, iC, hz]) ?_
  rintro i g Q1 hi hH next hother
  conv => arg 5; arg 1; simp only [List.cons_append, List.nil_append, keep, get, Nat.reduceEqDiff, if_true, if_false, ↓reduceIte]
  have hwi := wrap_in ((i : Int) + 1) (by omega)
  by_cases hlt : i < min l.length 200
  · obtain ⟨s, hs⟩ : ∃ s, l[i]? = some s := ⟨_, List.getElem?_eq_getElem (by omega)⟩
    have ha := hat i s hs
    have hsz := hs8 s (List.mem_of_getElem? hs)
    have h1 : i < l.length := by omega
    have h2 : i < 200 := by omega
    have h3 := hle i
    have hw := wrap_in ((muchN l i : Int) + s.size) (by omega)
    have hn : muchN l (i + 1) = min (muchN l i + s.size) 1048576 := by simp [muchN, hs]
    repeat' (first 
     | (with_reducible first | refine awp_scope ?_ | refine awp_seq ?_ | refine awp_block ?_)
     | ((with_reducible first | refine awp_label ?_ | refine awp_skip ?_ | refine awp_exit ?_ | refine hother _ _ rfl ?_); try simp only [thenA, inBlockA, noGotoA, if_true, Nat.reduceEqDiff, if_false, ↓reduceIte])
     | ((with_reducible first | refine awp_reg 30 hX [0, 2, 3, 4, 12] ?_ | change postOf _ _ _ _ _); simp [-List.reduceReplicate, Nat.add_one_le_iff, -getElem?_pos, -getElem?_neg, bC, iC, h1, h2, hwi, ha, hs, hlm, hw])
     | ((first | (with_reducible refine awp_ret ?_; try simp only [thenA, inBlockA, noGotoA])); try simp [-List.reduceReplicate, Nat.add_one_le_iff, -getElem?_pos, -getElem?_neg, bC, iC, h1, h2, hwi, ha, hs, hlm, hw])
     | (with_reducible refine awp_if_b rfl (fun hc => ?_) (fun hc => ?_) <;> (try simp [-getElem?_pos, -getElem?_neg] at hc) <;> (try (exfalso; omega)))
     | ((with_reducible first | refine GuardK_b (fun hc => ?_) (fun hc => ?_)) <;> (try simp only [Bool.not_eq_true', Bool.not_eq_false', decide_eq_true_eq, decide_eq_false_iff_not] at hc) <;> (first | (exfalso; omega) | skip) <;> simp [-List.reduceReplicate, Nat.add_one_le_iff, -getElem?_pos, -getElem?_neg, bC, iC, h1, h2, hwi, ha, hs, hlm, hw, hc])
     | (with_reducible refine And.intro (by omega) ?_)
     | fail)
    have hif : (if (1048576 : Int) < (muchN l i : Int) + s.size then (1048576 : Int) else (muchN l i : Int) + s.size) = ((muchN l (i + 1) : Nat) : Int) := by
      rw [hn]; split <;> omega
    refine next _ _ (()) (by omega) (by first | trivial | omega | assumption) (by simp [-List.reduceReplicate, keep, iC, hif]) (by simp [-List.reduceReplicate, iC, hif])
  · have hi2 : i = min l.length 200 := by omega
    repeat' (first 
     | (with_reducible first | refine awp_scope ?_ | refine awp_seq ?_ | refine awp_block ?_)
     | ((with_reducible first | refine awp_label ?_ | refine awp_skip ?_ | refine awp_exit ?_ | refine hother _ _ rfl ?_); try simp only [thenA, inBlockA, noGotoA, if_true, Nat.reduceEqDiff, if_false, ↓reduceIte])
     | ((with_reducible first | refine awp_reg 30 hX [0, 2, 3, 4, 12] ?_ | change postOf _ _ _ _ _); simp [-List.reduceReplicate, Nat.add_one_le_iff, -getElem?_pos, -getElem?_neg, bC, iC, hlm])
     | ((first | (with_reducible refine awp_ret ?_; try simp only [thenA, inBlockA, noGotoA])); try simp [-List.reduceReplicate, Nat.add_one_le_iff, -getElem?_pos, -getElem?_neg, bC, iC, hlm])
     | (with_reducible refine awp_if_b rfl (fun hc => ?_) (fun hc => ?_) <;> (try simp [-getElem?_pos, -getElem?_neg] at hc) <;> (try (exfalso; omega)))
     | ((with_reducible first | refine GuardK_b (fun hc => ?_) (fun hc => ?_)) <;> (try simp only [Bool.not_eq_true', Bool.not_eq_false', decide_eq_true_eq, decide_eq_false_iff_not] at hc) <;> (first | (exfalso; omega) | skip) <;> simp [-List.reduceReplicate, Nat.add_one_le_iff, -getElem?_pos, -getElem?_neg, bC, iC, hlm, hc])
     | (with_reducible refine And.intro (by omega) ?_)
     | fail)
    all_goals (rw [hm, ← hi2]; first | (rw [Bool.eq_iff_iff]; simp; omega) | (rw [Bool.eq_iff_iff]; simp; done) | trace_state)
end Go.Av
