/- 1 texts of the program logic over abstract values, joined: each is proved without any condition beyond its own words. -/
import Derived.Test.YtpcnacknlgmmlaaAvT85
import Derived.Test.YtpcnacknlgmmlaaAvEngine4
set_option exponentiation.threshold 1000
set_option linter.unusedVariables false
set_option linter.unusedSimpArgs false
set_option maxRecDepth 100000
set_option maxHeartbeats 4000000
namespace Go.Av
open Go Go.Proofs Go.Proofs.Ytpcnacknlgmmlaa Go.RowKit
attribute [local simp] List.getElem?_cons_zero List.getElem?_cons_succ
/-! ### laws 53: with -/
attribute [local simp] Try.underlying40 Try.underlying9 Try.underlying3 Try.underlying4 Try.underlying22
/-- A text at its place in a sorted row. -/
def withB (l : List ByteArray) (t : ByteArray) (i : Nat) : List ByteArray := l.take i ++ t :: l.drop i
theorem with53_den (l : List ByteArray) (t : ByteArray) (hN : l.length ≤ 1000000) (full : Bool) : Den Try.prog 12 [.c (.sl (l.map fun s => .v (.string s)) l.length full), .c (sC t)] [] (fun r ob' => ∃ i, i ≤ l.length ∧ r = .c (.sl ((withB l t i).map fun s => .v (.string s)) (l.length + 1) false) ∧ (∀ j s, j < i → l[j]? = some s → Op.bytesLess s.toList t.toList = true) ∧ (∀ s, l[i]? = some s → Op.bytesLess s.toList t.toList = false)) := by
  have hat := strC_at l
  have hlm : (l.map fun s => C.v (.string s)).length = l.length := by simp
  have hw : ∀ i, ((withB l t i).map fun s => C.v (.string s)) = (l.map fun s => C.v (.string s)).take i ++ C.v (.string t) :: (l.map fun s => C.v (.string s)).drop i := fun i => by simp [withB]
  simp only [hw]
  generalize (l.map fun s => C.v (.string s)) = cs at *
  refine den_of Try.func12 rfl rfl (by simp [Try.ntmps12]) (fun X hX hO => ?_)
  rw [Try.ntmps12] at hX
  simp only [Try.results12]
  repeat' (first 
   | (with_reducible first | refine awp_scope ?_ | refine awp_seq ?_ | refine awp_block ?_)
   | ((with_reducible first | refine awp_label ?_ | refine awp_skip ?_ | refine awp_exit ?_ | refine hother _ _ rfl ?_); try simp only [thenA, inBlockA, noGotoA, if_true, Nat.reduceEqDiff, if_false, ↓reduceIte])
   | ((with_reducible first | refine awp_reg 34 hX [0, 1, 4, 5, 6, 18] ?_ | change postOf _ _ _ _ _); simp [-List.reduceReplicate, Nat.add_one_le_iff, -getElem?_pos, -getElem?_neg, sC, bC, iC])
   | ((first | (with_reducible refine awp_ret ?_; try simp only [thenA, inBlockA, noGotoA])); try simp [-List.reduceReplicate, Nat.add_one_le_iff, -getElem?_pos, -getElem?_neg, sC, bC, iC])
   | (with_reducible refine awp_if_b rfl (fun hc => ?_) (fun hc => ?_) <;> (try simp [-getElem?_pos, -getElem?_neg] at hc) <;> (try (exfalso; omega)))
   | ((with_reducible first | refine GuardK_b (fun hc => ?_) (fun hc => ?_)) <;> (try simp only [Bool.not_eq_true', Bool.not_eq_false', decide_eq_true_eq, decide_eq_false_iff_not] at hc) <;> (first | (exfalso; omega) | skip) <;> simp [-List.reduceReplicate, Nat.add_one_le_iff, -getElem?_pos, -getElem?_neg, sC, bC, iC, hc])
   | (with_reducible refine And.intro (by omega) ?_)
   | fail)
  refine awp_forU [0, 1, 5] (fun i (g : Unit) => [(0, .c (.sl cs l.length full)), (1, .c (.v (.string t))), (5, .c (iC i))]) (fun i (g : Unit) => []) (fun i (g : Unit) => (∀ j s, j < i → l[j]? = some s → Op.bytesLess s.toList t.toList = true)) (l.length) (()) (by intros; omega) (by simp [-List.reduceReplicate, keep, iC]) (by simp [-List.reduceReplicate, iC]) ?_
  rintro i g Q1 hi hH next hother
  conv => arg 5; arg 1; simp only [List.cons_append, List.nil_append, keep, get, Nat.reduceEqDiff, if_true, if_false, ↓reduceIte]
  have hwi := wrap_in ((i : Int) + 1) (by omega)
  by_cases hlt : i < l.length
  · obtain ⟨s, hs⟩ : ∃ s, l[i]? = some s := ⟨_, List.getElem?_eq_getElem hlt⟩
    have ha := hat i s hs
    have h5 : ¬ (0 : Int) = (l.length : Int) := by omega
    have h6 : cs.take l.length = cs := by rw [← hlm, List.take_length]
    rcases Nat.eq_zero_or_pos i with h0 | h0
    · subst h0
      have hnx : Op.bytesLess s.toList t.toList = true → True := fun _ => trivial
      repeat' (first 
       | (with_reducible first | refine awp_scope ?_ | refine awp_seq ?_ | refine awp_block ?_)
       | ((with_reducible first | refine awp_label ?_ | refine awp_skip ?_ | refine awp_exit ?_ | refine hother _ _ rfl ?_); try simp only [thenA, inBlockA, noGotoA, if_true, Nat.reduceEqDiff, if_false, ↓reduceIte])
       | ((with_reducible first | refine awp_reg 34 hX [0, 1, 4, 5, 6, 18] ?_ | change postOf _ _ _ _ _); simp [-List.reduceReplicate, Nat.add_one_le_iff, -getElem?_pos, -getElem?_neg, sC, bC, iC, hlt, hwi, ha, hs, hlm, roomB, h5, h6])
       | (with_reducible refine awp_if_b rfl (fun hc => ?_) (fun hc => ?_) <;> (try simp [-getElem?_pos, -getElem?_neg] at hc) <;> (try (exfalso; omega)))
       | ((with_reducible first | refine GuardK_b (fun hc => ?_) (fun hc => ?_)) <;> (try simp only [Bool.not_eq_true', Bool.not_eq_false', decide_eq_true_eq, decide_eq_false_iff_not] at hc) <;> (first | (exfalso; omega) | skip) <;> simp [-List.reduceReplicate, Nat.add_one_le_iff, -getElem?_pos, -getElem?_neg, sC, bC, iC, hlt, hwi, ha, hs, hlm, roomB, h5, h6, hc])
       | (with_reducible refine And.intro (by omega) ?_)
       | fail)
      · have nx : ∀ j s', j < 0 + 1 → l[j]? = some s' → Op.bytesLess s'.toList t.toList = true := by
          intro j s' hj he
          obtain rfl : j = 0 := by omega
          rw [hs] at he
          obtain rfl := Option.some.inj he
          simpa using hc
        have hw1 : IntKind.i64.wrap 1 = 1 := rfl
        refine next _ _ (()) (by omega) (by first | trivial | omega | assumption) (by simp [-List.reduceReplicate, keep, iC, hw1]) (by simp [-List.reduceReplicate, iC, hw1])
      · refine awp_keep [0, 1, 4, 5] ?_
        simp
        refine awp_frz2 4 [] [] [] _ (.v (.string t) :: cs) _ hO rfl rfl rfl (by simp [ltB]) (by simp) ?_
        repeat' (first 
         | (with_reducible first | refine awp_scope ?_ | refine awp_seq ?_ | refine awp_block ?_)
         | ((with_reducible first | refine awp_label ?_ | refine awp_skip ?_ | refine awp_exit ?_ | refine hother _ _ rfl ?_); try simp only [thenA, inBlockA, noGotoA, if_true, Nat.reduceEqDiff, if_false, ↓reduceIte])
         | ((with_reducible first | refine awp_reg 34 hX [0, 1, 4, 5, 6, 18] ?_ | change postOf _ _ _ _ _); simp [-List.reduceReplicate, Nat.add_one_le_iff, -getElem?_pos, -getElem?_neg])
         | ((first | (with_reducible refine awp_ret ?_; try simp only [thenA, inBlockA, noGotoA])); try simp [-List.reduceReplicate, Nat.add_one_le_iff, -getElem?_pos, -getElem?_neg])
         | (with_reducible refine awp_if_b rfl (fun hc => ?_) (fun hc => ?_) <;> (try simp [-getElem?_pos, -getElem?_neg] at hc) <;> (try (exfalso; omega)))
         | ((with_reducible first | refine GuardK_b (fun hc => ?_) (fun hc => ?_)) <;> (try simp only [Bool.not_eq_true', Bool.not_eq_false', decide_eq_true_eq, decide_eq_false_iff_not] at hc) <;> (first | (exfalso; omega) | skip) <;> simp [-List.reduceReplicate, Nat.add_one_le_iff, -getElem?_pos, -getElem?_neg, hc])
         | (with_reducible refine And.intro (by omega) ?_)
         | fail)
        refine ⟨0, by omega, ⟨by simp, by omega⟩, fun j s' hj => by omega, fun s' he => ?_⟩
        rw [hs] at he
        obtain rfl := Option.some.inj he
        simpa using hc
    · have h1 : ¬ (0 : Int) = (i : Int) := by omega
      have h2 : ¬ i = 0 := by omega
      have h3 : min i l.length = i := by omega
      have h4 : i * 16 ≤ 4611686018427387904 := by omega
      have h7 : ¬ (i : Int) = (l.length : Int) := by omega
      have h8 : (cs.drop i).take (l.length - i) = cs.drop i := List.take_of_length_le (by simp [hlm])
      have h9 : ¬ l.length - i = 0 := by omega
      repeat' (first 
       | (with_reducible first | refine awp_scope ?_ | refine awp_seq ?_ | refine awp_block ?_)
       | ((with_reducible first | refine awp_label ?_ | refine awp_skip ?_ | refine awp_exit ?_ | refine hother _ _ rfl ?_); try simp only [thenA, inBlockA, noGotoA, if_true, Nat.reduceEqDiff, if_false, ↓reduceIte])
       | ((with_reducible first | refine awp_reg 34 hX [0, 1, 4, 5, 6, 18] ?_ | change postOf _ _ _ _ _); simp [-List.reduceReplicate, Nat.add_one_le_iff, -getElem?_pos, -getElem?_neg, sC, bC, iC, hlt, hwi, ha, hs, hlm, roomB, h1, h2, h3, h4, h5, h6, h7, h8, h9])
       | (with_reducible refine awp_if_b rfl (fun hc => ?_) (fun hc => ?_) <;> (try simp [-getElem?_pos, -getElem?_neg] at hc) <;> (try (exfalso; omega)))
       | ((with_reducible first | refine GuardK_b (fun hc => ?_) (fun hc => ?_)) <;> (try simp only [Bool.not_eq_true', Bool.not_eq_false', decide_eq_true_eq, decide_eq_false_iff_not] at hc) <;> (first | (exfalso; omega) | skip) <;> simp [-List.reduceReplicate, Nat.add_one_le_iff, -getElem?_pos, -getElem?_neg, sC, bC, iC, hlt, hwi, ha, hs, hlm, roomB, h1, h2, h3, h4, h5, h6, h7, h8, h9, hc])
       | (with_reducible refine And.intro (by omega) ?_)
       | fail)
      · have nx : ∀ j s', j < i + 1 → l[j]? = some s' → Op.bytesLess s'.toList t.toList = true := by
          intro j s' hj he
          by_cases hji : j < i
          · exact hH j s' hji he
          · obtain rfl : j = i := by omega
            rw [hs] at he
            obtain rfl := Option.some.inj he
            simpa using hc
        refine next _ _ (()) (by omega) (by first | trivial | omega | assumption) (by simp [-List.reduceReplicate, keep, iC]) (by simp [-List.reduceReplicate, iC])
      · refine awp_keep [0, 1, 4, 5] ?_
        simp
        refine awp_frz2 4 [] [] [] _ (List.take i cs ++ .v (.string t) :: List.drop i cs) _ hO rfl rfl rfl (by simp [ltB]) (by simp) ?_
        repeat' (first 
         | (with_reducible first | refine awp_scope ?_ | refine awp_seq ?_ | refine awp_block ?_)
         | ((with_reducible first | refine awp_label ?_ | refine awp_skip ?_ | refine awp_exit ?_ | refine hother _ _ rfl ?_); try simp only [thenA, inBlockA, noGotoA, if_true, Nat.reduceEqDiff, if_false, ↓reduceIte])
         | ((with_reducible first | refine awp_reg 34 hX [0, 1, 4, 5, 6, 18] ?_ | change postOf _ _ _ _ _); simp [-List.reduceReplicate, Nat.add_one_le_iff, -getElem?_pos, -getElem?_neg])
         | ((first | (with_reducible refine awp_ret ?_; try simp only [thenA, inBlockA, noGotoA])); try simp [-List.reduceReplicate, Nat.add_one_le_iff, -getElem?_pos, -getElem?_neg])
         | (with_reducible refine awp_if_b rfl (fun hc => ?_) (fun hc => ?_) <;> (try simp [-getElem?_pos, -getElem?_neg] at hc) <;> (try (exfalso; omega)))
         | ((with_reducible first | refine GuardK_b (fun hc => ?_) (fun hc => ?_)) <;> (try simp only [Bool.not_eq_true', Bool.not_eq_false', decide_eq_true_eq, decide_eq_false_iff_not] at hc) <;> (first | (exfalso; omega) | skip) <;> simp [-List.reduceReplicate, Nat.add_one_le_iff, -getElem?_pos, -getElem?_neg, hc])
         | (with_reducible refine And.intro (by omega) ?_)
         | fail)
        refine ⟨i, by omega, ⟨rfl, by omega⟩, hH, fun s' he => ?_⟩
        rw [hs] at he
        obtain rfl := Option.some.inj he
        simpa using hc
  · obtain rfl : i = l.length := by omega
    have h6 : cs.take l.length = cs := by rw [← hlm, List.take_length]
    have h8 : cs.drop l.length = [] := by rw [← hlm, List.drop_length]
    rcases Nat.eq_zero_or_pos l.length with h0 | h0
    · have h2 : cs = [] := List.length_eq_zero_iff.1 (by omega)
      have h3 : l = [] := List.length_eq_zero_iff.1 h0
      subst h2; subst h3
      repeat' (first 
       | (with_reducible first | refine awp_scope ?_ | refine awp_seq ?_ | refine awp_block ?_)
       | ((with_reducible first | refine awp_label ?_ | refine awp_skip ?_ | refine awp_exit ?_ | refine hother _ _ rfl ?_); try simp only [thenA, inBlockA, noGotoA, if_true, Nat.reduceEqDiff, if_false, ↓reduceIte])
       | ((with_reducible first | refine awp_reg 34 hX [0, 1, 4, 5, 6, 18] ?_ | change postOf _ _ _ _ _); simp [-List.reduceReplicate, Nat.add_one_le_iff, -getElem?_pos, -getElem?_neg, sC, bC, iC, roomB])
       | (with_reducible refine awp_if_b rfl (fun hc => ?_) (fun hc => ?_) <;> (try simp [-getElem?_pos, -getElem?_neg] at hc) <;> (try (exfalso; omega)))
       | ((with_reducible first | refine GuardK_b (fun hc => ?_) (fun hc => ?_)) <;> (try simp only [Bool.not_eq_true', Bool.not_eq_false', decide_eq_true_eq, decide_eq_false_iff_not] at hc) <;> (first | (exfalso; omega) | skip) <;> simp [-List.reduceReplicate, Nat.add_one_le_iff, -getElem?_pos, -getElem?_neg, sC, bC, iC, roomB, hc])
       | (with_reducible refine And.intro (by omega) ?_)
       | fail)
      refine awp_keep [0, 1, 4, 5] ?_
      simp
      refine awp_frz2 4 [] [] [] _ [.v (.string t)] _ hO rfl rfl rfl (by simp [ltB]) (by simp) ?_
      repeat' (first 
       | (with_reducible first | refine awp_scope ?_ | refine awp_seq ?_ | refine awp_block ?_)
       | ((with_reducible first | refine awp_label ?_ | refine awp_skip ?_ | refine awp_exit ?_ | refine hother _ _ rfl ?_); try simp only [thenA, inBlockA, noGotoA, if_true, Nat.reduceEqDiff, if_false, ↓reduceIte])
       | ((with_reducible first | refine awp_reg 34 hX [0, 1, 4, 5, 6, 18] ?_ | change postOf _ _ _ _ _); simp [-List.reduceReplicate, Nat.add_one_le_iff, -getElem?_pos, -getElem?_neg])
       | ((first | (with_reducible refine awp_ret ?_; try simp only [thenA, inBlockA, noGotoA])); try simp [-List.reduceReplicate, Nat.add_one_le_iff, -getElem?_pos, -getElem?_neg])
       | (with_reducible refine awp_if_b rfl (fun hc => ?_) (fun hc => ?_) <;> (try simp [-getElem?_pos, -getElem?_neg] at hc) <;> (try (exfalso; omega)))
       | ((with_reducible first | refine GuardK_b (fun hc => ?_) (fun hc => ?_)) <;> (try simp only [Bool.not_eq_true', Bool.not_eq_false', decide_eq_true_eq, decide_eq_false_iff_not] at hc) <;> (first | (exfalso; omega) | skip) <;> simp [-List.reduceReplicate, Nat.add_one_le_iff, -getElem?_pos, -getElem?_neg, hc])
       | (with_reducible refine And.intro (by omega) ?_)
       | fail)
    · have h1 : ¬ (0 : Int) = (l.length : Int) := by omega
      have h2 : ¬ l.length = 0 := by omega
      have h4 : l.length * 16 ≤ 4611686018427387904 := by omega
      repeat' (first 
       | (with_reducible first | refine awp_scope ?_ | refine awp_seq ?_ | refine awp_block ?_)
       | ((with_reducible first | refine awp_label ?_ | refine awp_skip ?_ | refine awp_exit ?_ | refine hother _ _ rfl ?_); try simp only [thenA, inBlockA, noGotoA, if_true, Nat.reduceEqDiff, if_false, ↓reduceIte])
       | ((with_reducible first | refine awp_reg 34 hX [0, 1, 4, 5, 6, 18] ?_ | change postOf _ _ _ _ _); simp [-List.reduceReplicate, Nat.add_one_le_iff, -getElem?_pos, -getElem?_neg, sC, bC, iC, hlt, hlm, roomB, h1, h2, h4, h6, h8])
       | (with_reducible refine awp_if_b rfl (fun hc => ?_) (fun hc => ?_) <;> (try simp [-getElem?_pos, -getElem?_neg] at hc) <;> (try (exfalso; omega)))
       | ((with_reducible first | refine GuardK_b (fun hc => ?_) (fun hc => ?_)) <;> (try simp only [Bool.not_eq_true', Bool.not_eq_false', decide_eq_true_eq, decide_eq_false_iff_not] at hc) <;> (first | (exfalso; omega) | skip) <;> simp [-List.reduceReplicate, Nat.add_one_le_iff, -getElem?_pos, -getElem?_neg, sC, bC, iC, hlt, hlm, roomB, h1, h2, h4, h6, h8, hc])
       | (with_reducible refine And.intro (by omega) ?_)
       | fail)
      refine awp_keep [0, 1, 4, 5] ?_
      simp
      refine awp_frz2 4 [] [] [] _ (cs ++ [.v (.string t)]) _ hO rfl rfl rfl (by simp [ltB]) (by simp) ?_
      repeat' (first 
       | (with_reducible first | refine awp_scope ?_ | refine awp_seq ?_ | refine awp_block ?_)
       | ((with_reducible first | refine awp_label ?_ | refine awp_skip ?_ | refine awp_exit ?_ | refine hother _ _ rfl ?_); try simp only [thenA, inBlockA, noGotoA, if_true, Nat.reduceEqDiff, if_false, ↓reduceIte])
       | ((with_reducible first | refine awp_reg 34 hX [0, 1, 4, 5, 6, 18] ?_ | change postOf _ _ _ _ _); simp [-List.reduceReplicate, Nat.add_one_le_iff, -getElem?_pos, -getElem?_neg])
       | ((first | (with_reducible refine awp_ret ?_; try simp only [thenA, inBlockA, noGotoA])); try simp [-List.reduceReplicate, Nat.add_one_le_iff, -getElem?_pos, -getElem?_neg])
       | (with_reducible refine awp_if_b rfl (fun hc => ?_) (fun hc => ?_) <;> (try simp [-getElem?_pos, -getElem?_neg] at hc) <;> (try (exfalso; omega)))
       | ((with_reducible first | refine GuardK_b (fun hc => ?_) (fun hc => ?_)) <;> (try simp only [Bool.not_eq_true', Bool.not_eq_false', decide_eq_true_eq, decide_eq_false_iff_not] at hc) <;> (first | (exfalso; omega) | skip) <;> simp [-List.reduceReplicate, Nat.add_one_le_iff, -getElem?_pos, -getElem?_neg, hc])
       | (with_reducible refine And.intro (by omega) ?_)
       | fail)
      exact ⟨l.length, Nat.le_refl _, by rw [h6, h8], hH, fun s' he => by simp at he⟩
end Go.Av
