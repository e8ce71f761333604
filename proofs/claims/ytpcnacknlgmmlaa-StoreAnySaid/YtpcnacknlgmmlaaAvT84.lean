/- 1 texts of the program logic over abstract values, joined: each is proved without any condition beyond its own words. -/
import Derived.Test.YtpcnacknlgmmlaaAvT83
set_option exponentiation.threshold 1000
set_option linter.unusedVariables false
set_option linter.unusedSimpArgs false
set_option maxRecDepth 100000
set_option maxHeartbeats 4000000
namespace Go.Av
open Go Go.Proofs Go.Proofs.Ytpcnacknlgmmlaa Go.RowKit
attribute [local simp] List.getElem?_cons_zero List.getElem?_cons_succ
/-! ### laws 53: has -/
attribute [local simp] Try.underlying40 Try.underlying9 Try.underlying3 Try.underlying4 Try.underlying22
theorem strC_at (l : List ByteArray) (i : Nat) (s : ByteArray) (h : l[i]? = some s) : (l.map fun s => C.v (.string s))[i]? = some (.v (.string s)) := by simp [h]
theorem toList_inj4 (x y : ByteArray) : x.toList = y.toList ↔ x = y := by
  rw [toList_data, toList_data]
  constructor
  · intro h
    cases x; cases y
    simp only [ByteArray.mk.injEq]
    exact Array.toList_inj.1 h
  · intro h; rw [h]
theorem has53_den (l : List ByteArray) (t : ByteArray) (hN : l.length ≤ 1000000) (full : Bool) (ob : List Ob) : Den Try.prog 11 [.c (.sl (l.map fun s => .v (.string s)) l.length full), .c (sC t)] ob (fun r ob' => (r = .c (bC true) ∧ t ∈ l ∨ r = .c (bC false) ∧ t ∉ l) ∧ ob' = ob) := by
  have hat := strC_at l
  have hlm : (l.map fun s => C.v (.string s)).length = l.length := by simp
  generalize (l.map fun s => C.v (.string s)) = cs at *
  refine den_of Try.func11 rfl rfl (by simp [Try.ntmps11]) (fun X hX hO => ?_)
  rw [Try.ntmps11] at hX
  simp only [Try.results11]
  repeat' (first 
   | (with_reducible first | refine awp_scope ?_ | refine awp_seq ?_ | refine awp_block ?_)
   | ((with_reducible first | refine awp_label ?_ | refine awp_skip ?_ | refine awp_exit ?_ | refine hother _ _ rfl ?_); try simp only [thenA, inBlockA, noGotoA, if_true, Nat.reduceEqDiff, if_false, ↓reduceIte])
   | ((with_reducible first | refine awp_reg 18 hX [0, 1, 4, 5, 9, 17] ?_ | change postOf _ _ _ _ _); simp [-List.reduceReplicate, Nat.add_one_le_iff, -getElem?_pos, -getElem?_neg, sC, bC, iC])
   | ((first | (with_reducible refine awp_ret ?_; try simp only [thenA, inBlockA, noGotoA])); try simp [-List.reduceReplicate, Nat.add_one_le_iff, -getElem?_pos, -getElem?_neg, sC, bC, iC])
   | (with_reducible refine awp_if_b rfl (fun hc => ?_) (fun hc => ?_) <;> (try simp [-getElem?_pos, -getElem?_neg] at hc) <;> (try (exfalso; omega)))
   | (with_reducible refine And.intro (by omega) ?_)
   | fail)
  refine awp_forU [0, 1, 5] (fun i (g : Unit) => [(0, .c (.sl cs l.length full)), (1, .c (.v (.string t))), (5, .c (iC i))]) (fun i (g : Unit) => ob) (fun i (g : Unit) => (∀ j, j < i → l[j]? ≠ some t)) (l.length) (()) (by intros; omega) (by simp [-List.reduceReplicate, keep, iC]) (by simp [-List.reduceReplicate, iC]) ?_
  rintro i g Q1 hi hH next hother
  conv => arg 5; arg 1; simp only [List.cons_append, List.nil_append, keep, get, Nat.reduceEqDiff, if_true, if_false, ↓reduceIte]
  have hwi := wrap_in ((i : Int) + 1) (by omega)
  by_cases hlt : i < l.length
  · obtain ⟨s, hs⟩ : ∃ s, l[i]? = some s := ⟨_, List.getElem?_eq_getElem hlt⟩
    have ha := hat i s hs
    repeat' (first 
     | (with_reducible first | refine awp_scope ?_ | refine awp_seq ?_ | refine awp_block ?_)
     | ((with_reducible first | refine awp_label ?_ | refine awp_skip ?_ | refine awp_exit ?_ | refine hother _ _ rfl ?_); try simp only [thenA, inBlockA, noGotoA, if_true, Nat.reduceEqDiff, if_false, ↓reduceIte])
     | ((with_reducible first | refine awp_reg 18 hX [0, 1, 4, 5, 9, 17] ?_ | change postOf _ _ _ _ _); simp [-List.reduceReplicate, Nat.add_one_le_iff, -getElem?_pos, -getElem?_neg, sC, bC, iC, hlt, hwi, ha, hs, hlm])
     | ((first | (with_reducible refine awp_ret ?_; try simp only [thenA, inBlockA, noGotoA])); try simp [-List.reduceReplicate, Nat.add_one_le_iff, -getElem?_pos, -getElem?_neg, sC, bC, iC, hlt, hwi, ha, hs, hlm])
     | (with_reducible refine awp_if_b rfl (fun hc => ?_) (fun hc => ?_) <;> (try simp [-getElem?_pos, -getElem?_neg] at hc) <;> (try (exfalso; omega)))
     | (with_reducible refine And.intro (by omega) ?_)
     | fail)
    · exact (toList_inj4 _ _).1 (by simpa using hc) ▸ List.mem_of_getElem? hs
    · have nx : ∀ j, j < i + 1 → l[j]? ≠ some t := by
        intro j hj he
        by_cases hji : j < i
        · exact hH j hji he
        · obtain rfl : j = i := by omega
          rw [hs] at he
          obtain rfl := Option.some.inj he
          simp at hc
      refine next _ _ (()) (by omega) (by first | trivial | omega | assumption) (by simp [-List.reduceReplicate, keep, iC]) (by simp [-List.reduceReplicate, iC])
  · repeat' (first 
     | (with_reducible first | refine awp_scope ?_ | refine awp_seq ?_ | refine awp_block ?_)
     | ((with_reducible first | refine awp_label ?_ | refine awp_skip ?_ | refine awp_exit ?_ | refine hother _ _ rfl ?_); try simp only [thenA, inBlockA, noGotoA, if_true, Nat.reduceEqDiff, if_false, ↓reduceIte])
     | ((with_reducible first | refine awp_reg 18 hX [0, 1, 4, 5, 9, 17] ?_ | change postOf _ _ _ _ _); simp [-List.reduceReplicate, Nat.add_one_le_iff, -getElem?_pos, -getElem?_neg, sC, bC, iC, hlt])
     | ((first | (with_reducible refine awp_ret ?_; try simp only [thenA, inBlockA, noGotoA])); try simp [-List.reduceReplicate, Nat.add_one_le_iff, -getElem?_pos, -getElem?_neg, sC, bC, iC, hlt])
     | (with_reducible refine awp_if_b rfl (fun hc => ?_) (fun hc => ?_) <;> (try simp [-getElem?_pos, -getElem?_neg] at hc) <;> (try (exfalso; omega)))
     | (with_reducible refine And.intro (by omega) ?_)
     | fail)
    intro hm
    obtain ⟨j, hj, hje⟩ := List.mem_iff_getElem.1 hm
    exact hH j (by omega) (by rw [List.getElem?_eq_getElem hj, hje])
end Go.Av
