import Derived.Test.YtfdbbkhglohkaaaAvT14
set_option linter.unusedVariables false
set_option linter.unusedSimpArgs false
namespace Go.Av
open Go Go.Proofs Go.Proofs.Ytfdbbkhglohkaaa
attribute [local simp] Try.underlying62 Try.underlying64 Try.underlying58 Try.underlying5 Try.underlying88 Try.underlying3 Try.underlying9 Try.underlying4 Try.underlying21
theorem wrap_i32 (x : Int) (h : -2147483648 ≤ x ∧ x ≤ 2147483647) : IntKind.i32.wrap x = x := by
  simp [IntKind.wrap, IntKind.signed, IntKind.bits]
  omega
def figV (r : Int) : Int := if 48 ≤ r ∧ r ≤ 57 then r - 48 else if 97 ≤ r ∧ r ≤ 102 then r - 87 else 16
set_option maxRecDepth 100000 in
set_option maxHeartbeats 2000000 in
theorem figure_den (r : Int) (h : 0 ≤ r ∧ r ≤ 2147483647) (ob : List Ob) : Den Try.prog 58 [.c (.v (.int .i32 r))] ob (fun x ob' => x = .c (iC (figV r)) ∧ ob' = ob) := by
  refine den_of Try.func58 rfl rfl (by simp [Try.ntmps58]) (fun X hX hO => ?_)
  rw [Try.ntmps58] at hX
  simp only [Try.results58]
  have w1 := wrap_i32 (r - 48) (by omega)
  have w2 := wrap_in (r - 48) (by omega)
  have w3 := wrap_i32 (r - 97) (by omega)
  have w4 := wrap_in (r - 97) (by omega)
  have w5 := wrap_in (r - 97 + 10) (by omega)
  repeat' (first 
    | with_reducible refine awp_scope ?_
    | with_reducible refine awp_seq ?_
    | with_reducible refine awp_block ?_
    | (with_reducible refine awp_label ?_; try simp only [thenA, inBlockA, noGotoA])
    | (with_reducible refine awp_skip ?_; try simp only [thenA, inBlockA, noGotoA])
    | (with_reducible refine awp_exit ?_; simp only [thenA, inBlockA, noGotoA, if_true, Nat.reduceEqDiff, if_false, ↓reduceIte])
    | (with_reducible refine awp_ret ?_; (try simp only [thenA, inBlockA, noGotoA]); (try simp [-List.reduceReplicate, Nat.add_one_le_iff, -getElem?_pos, -getElem?_neg, List.getElem?_cons_zero, List.getElem?_cons_succ, iC, w1, w2, w3, w4, w5]))
    | (with_reducible refine awp_reg 24 hX [0, 2, 3, 13] ?_; simp [-List.reduceReplicate, Nat.add_one_le_iff, -getElem?_pos, -getElem?_neg, List.getElem?_cons_zero, List.getElem?_cons_succ, iC, w1, w2, w3, w4, w5])
    | (with_reducible refine awp_drw 24 hX [0, 2, 3, 13] Tab.mixed (by kernel_rfl) ?_; simp [-List.reduceReplicate, Nat.add_one_le_iff, -getElem?_pos, -getElem?_neg, List.getElem?_cons_zero, List.getElem?_cons_succ, iC, w1, w2, w3, w4, w5])
    | (with_reducible refine awp_if_b rfl (fun hc => ?_) (fun hc => ?_) <;> (try simp [-getElem?_pos, -getElem?_neg] at hc) <;> (try (exfalso; omega)))
    | (with_reducible refine GuardK_b (fun hc => ?_) (fun hc => ?_) <;> (try simp only [Bool.not_eq_true', Bool.not_eq_false', decide_eq_true_eq, decide_eq_false_iff_not] at hc) <;> (first | (exfalso; omega) | skip) <;> simp [-List.reduceReplicate, Nat.add_one_le_iff, -getElem?_pos, -getElem?_neg, List.getElem?_cons_zero, List.getElem?_cons_succ, iC, w1, w2, w3, w4, w5, hc])
    | (with_reducible refine DGuard_b _ _ _ _ _ _ _ _ _ _ (fun hc => ?_) (fun hc => ?_) <;> (try simp only [Bool.not_eq_true', Bool.not_eq_false', decide_eq_true_eq, decide_eq_false_iff_not] at hc) <;> (first | (exfalso; omega) | skip) <;> simp [-List.reduceReplicate, Nat.add_one_le_iff, -getElem?_pos, -getElem?_neg, List.getElem?_cons_zero, List.getElem?_cons_succ, iC, w1, w2, w3, w4, w5, hc])
    | (with_reducible refine DEv_cut _ _ _ _ _ _ _ _ _ _ _ _ (by kernel_rfl) ?_; simp [-List.reduceReplicate, Nat.add_one_le_iff, -getElem?_pos, -getElem?_neg, List.getElem?_cons_zero, List.getElem?_cons_succ, iC, w1, w2, w3, w4, w5])
    | (refine hother _ _ rfl ?_; simp only [inBlockA, thenA, noGotoA, Nat.reduceEqDiff, if_false, if_true, ↓reduceIte])
    | (refine hother2 _ _ rfl ?_; simp only [inBlockA, thenA, noGotoA, Nat.reduceEqDiff, if_false, if_true, ↓reduceIte])
    | (refine hother3 _ _ rfl ?_; simp only [inBlockA, thenA, noGotoA, Nat.reduceEqDiff, if_false, if_true, ↓reduceIte])
    | (refine And.intro (by omega) ?_)
    | (with_reducible change postOf _ _ _ _ _; simp [-List.reduceReplicate, Nat.add_one_le_iff, -getElem?_pos, -getElem?_neg, List.getElem?_cons_zero, List.getElem?_cons_succ, iC, w1, w2, w3, w4, w5])
    | fail)
  all_goals
    unfold figV
    repeat' split
    all_goals omega
def figB (b : UInt8) : Int := figV (b.toNat : Int)
theorem figV_lo (r : Int) : 0 ≤ figV r ∧ figV r ≤ 16 := by
  unfold figV
  repeat' split
  all_goals omega
theorem figV_hi (r : Int) (h : 128 ≤ r) : figV r = 16 := by
  unfold figV
  repeat' split
  all_goals omega
/-- The pairs among the first places. -/
def pairsTo (l : List UInt8) (i : Nat) : List Int := (List.range (i / 2)).map fun j => 16 * figB (l.getD (2 * j) 0) + figB (l.getD (2 * j + 1) 0)
theorem pairsTo_even (l : List UInt8) (i : Nat) (h : i % 2 = 0) : pairsTo l (i + 1) = pairsTo l i := by
  unfold pairsTo
  rw [show (i + 1) / 2 = i / 2 by omega]
theorem pairsTo_odd (l : List UInt8) (i : Nat) (h : i % 2 = 1) : pairsTo l (i + 1) = pairsTo l i ++ [16 * figB (l.getD (i - 1) 0) + figB (l.getD i 0)] := by
  unfold pairsTo
  rw [show (i + 1) / 2 = i / 2 + 1 by omega, List.range_succ, List.map_append]
  simp only [List.map_cons, List.map_nil]
  rw [show 2 * (i / 2) = i - 1 by omega, show i - 1 + 1 = i by omega]
theorem pairsTo_len (l : List UInt8) (i : Nat) : (pairsTo l i).length = i / 2 := by simp [pairsTo]
def hiB (l : List UInt8) : Nat → Int
  | 0 => 0
  | i + 1 => figB (l.getD i 0)
def okTo (l : List UInt8) (i : Nat) : Prop := ∀ (j : Nat) b, j < i → l[j]? = some b → figB b ≤ 15
theorem or4 : ∀ a b : Fin 16, orI .i64 ((a.val : Int) * 16) (b.val : Int) = 16 * (a.val : Int) + (b.val : Int) := by decide +kernel
end Go.Av
