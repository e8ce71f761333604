/- 1 texts of the program logic over abstract values, joined: each is proved without any condition beyond its own words. -/
import Derived.Test.YtpcnacknlgmmlaaAvT84
set_option exponentiation.threshold 1000
set_option linter.unusedVariables false
set_option linter.unusedSimpArgs false
set_option maxRecDepth 100000
set_option maxHeartbeats 4000000
namespace Go.Av
open Go Go.Proofs Go.Proofs.Ytpcnacknlgmmlaa Go.RowKit
attribute [local simp] List.getElem?_cons_zero List.getElem?_cons_succ
/-! ### laws 53: same -/
attribute [local simp] Try.underlying40 Try.underlying9 Try.underlying3 Try.underlying4 Try.underlying22
theorem same53_den (a b : List ByteArray) (hN : a.length ≤ 1000000) (fa fb : Bool) (ob : List Ob) : Den Try.prog 15 [.c (.sl (a.map fun s => .v (.string s)) a.length fa), .c (.sl (b.map fun s => .v (.string s)) b.length fb)] ob (fun r ob' => (r = .c (bC true) ∧ a = b ∨ r = .c (bC false) ∧ a ≠ b) ∧ ob' = ob) := by
  have hat := strC_at a
  have hbt := strC_at b
  have hlm : (a.map fun s => C.v (.string s)).length = a.length := by simp
  have hlm2 : (b.map fun s => C.v (.string s)).length = b.length := by simp
  generalize (a.map fun s => C.v (.string s)) = cs at *
  generalize (b.map fun s => C.v (.string s)) = ds at *
  refine den_of Try.func15 rfl rfl (by simp [Try.ntmps15]) (fun X hX hO => ?_)
  rw [Try.ntmps15] at hX
  simp only [Try.results15]
  by_cases hl : a.length = b.length
  · repeat' (first 
     | (with_reducible first | refine awp_scope ?_ | refine awp_seq ?_ | refine awp_block ?_)
     | ((with_reducible first | refine awp_label ?_ | refine awp_skip ?_ | refine awp_exit ?_ | refine hother _ _ rfl ?_); try simp only [thenA, inBlockA, noGotoA, if_true, Nat.reduceEqDiff, if_false, ↓reduceIte])
     | ((with_reducible first | refine awp_reg 26 hX [0, 1, 4, 5, 10, 14, 25] ?_ | refine awp_drw 26 hX [0, 1, 4, 5, 10, 14, 25] Tab.mixed (by kernel_rfl) ?_ | refine DEv_cut _ _ _ _ _ _ _ _ _ _ _ _ (by kernel_rfl) ?_ | change postOf _ _ _ _ _); simp [-List.reduceReplicate, Nat.add_one_le_iff, -getElem?_pos, -getElem?_neg, bC, iC, hl])
     | ((first | (with_reducible refine awp_ret ?_; try simp only [thenA, inBlockA, noGotoA])); try simp [-List.reduceReplicate, Nat.add_one_le_iff, -getElem?_pos, -getElem?_neg, bC, iC, hl])
     | (with_reducible refine awp_if_b rfl (fun hc => ?_) (fun hc => ?_) <;> (try simp [-getElem?_pos, -getElem?_neg] at hc) <;> (try (exfalso; omega)))
     | (with_reducible refine And.intro (by omega) ?_)
     | fail)
    refine awp_forU [0, 1, 5] (fun i (g : Unit) => [(0, .c (.sl cs b.length fa)), (1, .c (.sl ds b.length fb)), (5, .c (iC i))]) (fun i (g : Unit) => ob) (fun i (g : Unit) => (∀ j, j < i → a[j]? = b[j]?)) (a.length) (()) (by intros; omega) (by simp [-List.reduceReplicate, keep, iC]) (by simp [-List.reduceReplicate, iC]) ?_
    rintro i g Q1 hi hH next hother
    conv => arg 5; arg 1; simp only [List.cons_append, List.nil_append, keep, get, Nat.reduceEqDiff, if_true, if_false, ↓reduceIte]
    have hwi := wrap_in ((i : Int) + 1) (by omega)
    by_cases hlt : i < b.length
    · obtain ⟨s, hs⟩ : ∃ s, a[i]? = some s := ⟨_, List.getElem?_eq_getElem (by omega)⟩
      obtain ⟨t, ht⟩ : ∃ t, b[i]? = some t := ⟨_, List.getElem?_eq_getElem hlt⟩
      have ha := hat i s hs
      have hb := hbt i t ht
      repeat' (first 
       | (with_reducible first | refine awp_scope ?_ | refine awp_seq ?_ | refine awp_block ?_)
       | ((with_reducible first | refine awp_label ?_ | refine awp_skip ?_ | refine awp_exit ?_ | refine hother _ _ rfl ?_); try simp only [thenA, inBlockA, noGotoA, if_true, Nat.reduceEqDiff, if_false, ↓reduceIte])
       | ((with_reducible first | refine awp_reg 26 hX [0, 1, 4, 5, 10, 14, 25] ?_ | refine awp_drw 26 hX [0, 1, 4, 5, 10, 14, 25] Tab.mixed (by kernel_rfl) ?_ | refine DEv_cut _ _ _ _ _ _ _ _ _ _ _ _ (by kernel_rfl) ?_ | change postOf _ _ _ _ _); simp [-List.reduceReplicate, Nat.add_one_le_iff, -getElem?_pos, -getElem?_neg, bC, iC, hlt, hwi, ha, hb, hlm, hlm2, hl])
       | ((first | (with_reducible refine awp_ret ?_; try simp only [thenA, inBlockA, noGotoA])); try simp [-List.reduceReplicate, Nat.add_one_le_iff, -getElem?_pos, -getElem?_neg, bC, iC, hlt, hwi, ha, hb, hlm, hlm2, hl])
       | (with_reducible refine awp_if_b rfl (fun hc => ?_) (fun hc => ?_) <;> (try simp [-getElem?_pos, -getElem?_neg] at hc) <;> (try (exfalso; omega)))
       | (with_reducible refine And.intro (by omega) ?_)
       | fail)
      · intro hab
        subst hab
        rw [hs] at ht
        obtain rfl := Option.some.inj ht
        simp at hc
      · have hst : s = t := (toList_inj4 _ _).1 (by simpa using hc)
        have nx : ∀ j, j < i + 1 → a[j]? = b[j]? := by
          intro j hj
          by_cases hji : j < i
          · exact hH j hji
          · obtain rfl : j = i := by omega
            rw [hs, ht, hst]
        refine next _ _ (()) (by omega) (by first | trivial | omega | assumption) (by simp [-List.reduceReplicate, keep, iC]) (by simp [-List.reduceReplicate, iC])
    · repeat' (first 
       | (with_reducible first | refine awp_scope ?_ | refine awp_seq ?_ | refine awp_block ?_)
       | ((with_reducible first | refine awp_label ?_ | refine awp_skip ?_ | refine awp_exit ?_ | refine hother _ _ rfl ?_); try simp only [thenA, inBlockA, noGotoA, if_true, Nat.reduceEqDiff, if_false, ↓reduceIte])
       | ((with_reducible first | refine awp_reg 26 hX [0, 1, 4, 5, 10, 14, 25] ?_ | refine awp_drw 26 hX [0, 1, 4, 5, 10, 14, 25] Tab.mixed (by kernel_rfl) ?_ | refine DEv_cut _ _ _ _ _ _ _ _ _ _ _ _ (by kernel_rfl) ?_ | change postOf _ _ _ _ _); simp [-List.reduceReplicate, Nat.add_one_le_iff, -getElem?_pos, -getElem?_neg, bC, iC, hlt])
       | ((first | (with_reducible refine awp_ret ?_; try simp only [thenA, inBlockA, noGotoA])); try simp [-List.reduceReplicate, Nat.add_one_le_iff, -getElem?_pos, -getElem?_neg, bC, iC, hlt])
       | (with_reducible refine awp_if_b rfl (fun hc => ?_) (fun hc => ?_) <;> (try simp [-getElem?_pos, -getElem?_neg] at hc) <;> (try (exfalso; omega)))
       | (with_reducible refine And.intro (by omega) ?_)
       | fail)
      apply List.ext_getElem?
      intro j
      by_cases hj : j < i
      · exact hH j hj
      · rw [List.getElem?_eq_none (by omega), List.getElem?_eq_none (by omega)]
  · repeat' (first 
     | (with_reducible first | refine awp_scope ?_ | refine awp_seq ?_ | refine awp_block ?_)
     | ((with_reducible first | refine awp_label ?_ | refine awp_skip ?_ | refine awp_exit ?_ | refine hother _ _ rfl ?_); try simp only [thenA, inBlockA, noGotoA, if_true, Nat.reduceEqDiff, if_false, ↓reduceIte])
     | ((with_reducible first | refine awp_reg 26 hX [0, 1, 4, 5, 10, 14, 25] ?_ | refine awp_drw 26 hX [0, 1, 4, 5, 10, 14, 25] Tab.mixed (by kernel_rfl) ?_ | refine DEv_cut _ _ _ _ _ _ _ _ _ _ _ _ (by kernel_rfl) ?_ | change postOf _ _ _ _ _); simp [-List.reduceReplicate, Nat.add_one_le_iff, -getElem?_pos, -getElem?_neg, bC, iC, hl])
     | ((first | (with_reducible refine awp_ret ?_; try simp only [thenA, inBlockA, noGotoA])); try simp [-List.reduceReplicate, Nat.add_one_le_iff, -getElem?_pos, -getElem?_neg, bC, iC, hl])
     | (with_reducible refine awp_if_b rfl (fun hc => ?_) (fun hc => ?_) <;> (try simp [-getElem?_pos, -getElem?_neg] at hc) <;> (try (exfalso; omega)))
     | (with_reducible refine And.intro (by omega) ?_)
     | fail)
    intro hab
    exact hl (by rw [hab])
end Go.Av
