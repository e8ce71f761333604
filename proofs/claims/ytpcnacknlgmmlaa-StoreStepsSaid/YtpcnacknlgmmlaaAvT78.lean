/- 1 texts of the program logic over abstract values, joined: each is proved without any condition beyond its own words. -/
import Derived.Test.YtpcnacknlgmmlaaAvT77
set_option exponentiation.threshold 1000
set_option linter.unusedVariables false
set_option linter.unusedSimpArgs false
set_option maxRecDepth 100000
set_option maxHeartbeats 4000000
namespace Go.Av
open Go Go.Proofs Go.Proofs.Ytpcnacknlgmmlaa Go.RowKit
attribute [local simp] List.getElem?_cons_zero List.getElem?_cons_succ
/-! ### store.All: nothing -/
attribute [local simp] Try.underlying40 Try.underlying9 Try.underlying3
theorem sort_none (ob : List Ob) : Den Try.prog 22 [.c (.v (.slice none 0 0))] ob (fun r ob' => r = .tup [] ∧ ob' = ob) := by
  intro w E vals hl ha hh
  have h0 := ha 0 _ rfl
  obtain ⟨va, rfl⟩ : ∃ va, vals = #[va] := by
    obtain ⟨l⟩ := vals
    match l, hl with
    | [a], _ => exact ⟨a, rfl⟩
  obtain rfl : va = .slice none 0 0 := arg_v h0
  refine .inl ⟨by kernel_rfl, (Try.slices_Sort_string_none none 0 w).mono ?_⟩
  rintro e w' ⟨rfl, rfl⟩
  exact ⟨_, rfl, .tup [], ob, E, ⟨rfl, rfl⟩, .tup _ _ rfl (fun j hj m' hm => by simp at hm), Step.refl hh⟩
theorem all_nil (ob : List Ob) : Den Try.prog 16 [.c (.v (.pointer none))] ob (fun r ob' => r = .c (.v (.slice none 0 0)) ∧ ob' = ob) := by
  refine den_of Try.func16 rfl rfl (by simp [Try.ntmps16]) (fun X hX hO => ?_)
  rw [Try.ntmps16] at hX
  simp only [Try.results16]
  repeat' (first 
   | (with_reducible first | refine awp_scope ?_ | refine awp_seq ?_ | refine awp_block ?_)
   | ((with_reducible first | refine awp_label ?_ | refine awp_skip ?_ | refine awp_exit ?_); try simp only [thenA, inBlockA, noGotoA, if_true, Nat.reduceEqDiff, if_false, ↓reduceIte])
   | ((with_reducible first | refine awp_reg 24 hX [0, 2, 3, 4, 6, 12, 14] ?_ | change postOf _ _ _ _ _); simp [-List.reduceReplicate, Nat.add_one_le_iff, -getElem?_pos, -getElem?_neg])
   | ((first | (with_reducible refine awp_ret ?_; try simp only [thenA, inBlockA, noGotoA])); try simp [-List.reduceReplicate, Nat.add_one_le_iff, -getElem?_pos, -getElem?_neg])
   | (with_reducible refine awp_if_b rfl (fun hc => ?_) (fun hc => ?_) <;> (try simp [-getElem?_pos, -getElem?_neg] at hc) <;> (try (exfalso; omega)))
   | (with_reducible refine And.intro (by omega) ?_)
   | fail)
end Go.Av
