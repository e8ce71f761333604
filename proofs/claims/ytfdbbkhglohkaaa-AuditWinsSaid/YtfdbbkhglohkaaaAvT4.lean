import Derived.Test.YtfdbbkhglohkaaaAvT3
set_option linter.unusedVariables false
set_option linter.unusedSimpArgs false
namespace Go.Av
open Go Go.Proofs Go.Proofs.Ytfdbbkhglohkaaa
attribute [local simp] Try.underlying22 Try.underlying23 Try.underlying3
def foldTo (v : List (List Int)) (o : List Int) : Nat → Int
  | 0 => -1
  | m + 1 => if m = 0 ∨ beats v ((o[m]?).getD 0) (foldTo v o m) = true then (o[m]?).getD 0 else foldTo v o m
set_option maxRecDepth 100000 in
set_option maxHeartbeats 2000000 in
theorem fold_den (v : List (List Int)) (o : List Int) (ob : List Ob) (hn : o.length ≤ 1000000) : Den Try.prog 17 [.c (rowsC v), .c (intsC o)] ob (fun r ob' => r = .c (iC (foldTo v o o.length)) ∧ ob' = ob) := by
  refine den_of Try.func17 rfl rfl (by simp [Try.ntmps17]) (fun X hX hO => ?_)
  rw [Try.ntmps17] at hX
  simp only [Try.results17]
  repeat' (first 
    | with_reducible refine awp_scope ?_
    | with_reducible refine awp_seq ?_
    | with_reducible refine awp_block ?_
    | (with_reducible refine awp_label ?_; simp only [thenA, inBlockA, noGotoA])
    | (with_reducible refine awp_skip ?_; simp only [thenA, inBlockA, noGotoA])
    | (with_reducible refine awp_exit ?_; simp only [thenA, inBlockA, noGotoA, if_true, Nat.reduceEqDiff, if_false, ↓reduceIte])
    | (with_reducible refine awp_ret ?_; (try simp only [thenA, inBlockA, noGotoA]); (try simp [-getElem?_pos, -getElem?_neg, intsC, rowsC, iC]))
    | (with_reducible refine awp_reg 26 hX [0, 1, 4, 5, 6, 7, 8, 9, 10, 11, 22] ?_; simp [-getElem?_pos, -getElem?_neg, intsC, rowsC, iC])
    | (with_reducible refine awp_drw 26 hX [0, 1, 4, 5, 6, 7, 8, 9, 10, 11, 22] Tab.mixed (by kernel_rfl) ?_; simp [-getElem?_pos, -getElem?_neg, intsC, rowsC, iC])
    | (with_reducible refine awp_if_b rfl (fun hc => ?_) (fun hc => ?_) <;> (try simp [-getElem?_pos, -getElem?_neg] at hc) <;> (try (exfalso; omega)))
    | (with_reducible refine GuardK_b (fun hc => ?_) (fun hc => ?_) <;> (try simp only [Bool.not_eq_true', Bool.not_eq_false', decide_eq_true_eq, decide_eq_false_iff_not] at hc) <;> (first | (exfalso; omega) | skip) <;> simp [-getElem?_pos, -getElem?_neg, intsC, rowsC, iC, hc])
    | (with_reducible refine DGuard_b _ _ _ _ _ _ _ _ (fun hc => ?_) (fun hc => ?_) <;> (try simp only [Bool.not_eq_true', Bool.not_eq_false', decide_eq_true_eq, decide_eq_false_iff_not] at hc) <;> (first | (exfalso; omega) | skip) <;> simp [-getElem?_pos, -getElem?_neg, intsC, rowsC, iC, hc])
    | (refine hother _ _ rfl ?_; simp only [inBlockA, thenA, noGotoA, Nat.reduceEqDiff, if_false, if_true, ↓reduceIte])
    | (refine hother2 _ _ rfl ?_; simp only [inBlockA, thenA, noGotoA, Nat.reduceEqDiff, if_false, if_true, ↓reduceIte])
    | (refine hother3 _ _ rfl ?_; simp only [inBlockA, thenA, noGotoA, Nat.reduceEqDiff, if_false, if_true, ↓reduceIte])
    | (refine And.intro (by omega) ?_)
    | (with_reducible change postOf _ _ _ _; simp [-getElem?_pos, -getElem?_neg, intsC, rowsC, iC])
    | fail)
  refine awp_for [0, 5, 8, 9, 10] (fun k (_ : Unit) => ⟨[(0, .c (rowsC v)), (5, .c (iC (foldTo v o k))), (8, .c (intsC o)), (9, .c (iC o.length)), (10, .c (iC k))], ob⟩) (fun _ _ => True) o.length () trivial (by simp [rowsC, intsC, iC, foldTo]) ?_
  intro k _ Q1 hk _ next hother
  have hwk := wrap_succ k (by omega)
  by_cases hlt : k < o.length
  · obtain ⟨x, hx⟩ := getI o k (by omega) (by omega)
    simp at hx
    have hs : foldTo v o (k + 1) = if k = 0 ∨ beats v x (foldTo v o k) = true then x else foldTo v o k := by simp [foldTo, hx]
    clear hother
    repeat' (first 
      | with_reducible refine awp_scope ?_
      | with_reducible refine awp_seq ?_
      | with_reducible refine awp_block ?_
      | (with_reducible refine awp_label ?_; simp only [thenA, inBlockA, noGotoA])
      | (with_reducible refine awp_skip ?_; simp only [thenA, inBlockA, noGotoA])
      | (with_reducible refine awp_exit ?_; simp only [thenA, inBlockA, noGotoA, if_true, Nat.reduceEqDiff, if_false, ↓reduceIte])
      | (with_reducible refine awp_ret ?_; (try simp only [thenA, inBlockA, noGotoA]); (try simp [-getElem?_pos, -getElem?_neg, rowsC, intsC, iC, bC, hwk, hlt, hx]))
      | (with_reducible refine awp_reg 26 hX [0, 1, 4, 5, 6, 7, 8, 9, 10, 11, 22] ?_; simp [-getElem?_pos, -getElem?_neg, rowsC, intsC, iC, bC, hwk, hlt, hx])
      | (with_reducible refine awp_drw 26 hX [0, 1, 4, 5, 6, 7, 8, 9, 10, 11, 22] Tab.mixed (by kernel_rfl) ?_; simp [-getElem?_pos, -getElem?_neg, rowsC, intsC, iC, bC, hwk, hlt, hx])
      | (refine (beats_den _ _ _ _).det ?_; simp [-getElem?_pos, -getElem?_neg, rowsC, intsC, iC, bC, hwk, hlt, hx])
      | (refine ⟨_, beats_den _ _ _ _, ?_⟩; simp [-getElem?_pos, -getElem?_neg, rowsC, intsC, iC, bC, hwk, hlt, hx])
      | (with_reducible refine awp_if_b rfl (fun hc => ?_) (fun hc => ?_) <;> (try simp [-getElem?_pos, -getElem?_neg] at hc) <;> (try (exfalso; omega)))
      | (with_reducible refine GuardK_b (fun hc => ?_) (fun hc => ?_) <;> (try simp only [Bool.not_eq_true', Bool.not_eq_false', decide_eq_true_eq, decide_eq_false_iff_not] at hc) <;> (first | (exfalso; omega) | skip) <;> simp [-getElem?_pos, -getElem?_neg, rowsC, intsC, iC, bC, hwk, hlt, hx, hc])
      | (with_reducible refine DGuard_b _ _ _ _ _ _ _ _ (fun hc => ?_) (fun hc => ?_) <;> (try simp only [Bool.not_eq_true', Bool.not_eq_false', decide_eq_true_eq, decide_eq_false_iff_not] at hc) <;> (first | (exfalso; omega) | skip) <;> simp [-getElem?_pos, -getElem?_neg, rowsC, intsC, iC, bC, hwk, hlt, hx, hc])
      | (refine hother _ _ rfl ?_; simp only [inBlockA, thenA, noGotoA, Nat.reduceEqDiff, if_false, if_true, ↓reduceIte])
      | (refine hother2 _ _ rfl ?_; simp only [inBlockA, thenA, noGotoA, Nat.reduceEqDiff, if_false, if_true, ↓reduceIte])
      | (refine hother3 _ _ rfl ?_; simp only [inBlockA, thenA, noGotoA, Nat.reduceEqDiff, if_false, if_true, ↓reduceIte])
      | (refine And.intro (by omega) ?_)
      | (with_reducible change postOf _ _ _ _; simp [-getElem?_pos, -getElem?_neg, rowsC, intsC, iC, bC, hwk, hlt, hx])
      | fail)
    · refine next _ () (by omega) trivial ?_; simp_all [rowsC, intsC, iC]
    · refine next _ () (by omega) trivial ?_; simp_all [rowsC, intsC, iC]
    · have h1 : k = 0 := by assumption
      subst h1
      refine next _ () (by omega) trivial ?_; simp_all [rowsC, intsC, iC, wrap_in 1]
  · repeat' (first 
      | with_reducible refine awp_scope ?_
      | with_reducible refine awp_seq ?_
      | with_reducible refine awp_block ?_
      | (with_reducible refine awp_label ?_; simp only [thenA, inBlockA, noGotoA])
      | (with_reducible refine awp_skip ?_; simp only [thenA, inBlockA, noGotoA])
      | (with_reducible refine awp_exit ?_; simp only [thenA, inBlockA, noGotoA, if_true, Nat.reduceEqDiff, if_false, ↓reduceIte])
      | (with_reducible refine awp_ret ?_; (try simp only [thenA, inBlockA, noGotoA]); (try simp [-getElem?_pos, -getElem?_neg, rowsC, intsC, iC, bC, hwk, hlt]))
      | (with_reducible refine awp_reg 26 hX [0, 1, 4, 5, 6, 7, 8, 9, 10, 11, 22] ?_; simp [-getElem?_pos, -getElem?_neg, rowsC, intsC, iC, bC, hwk, hlt])
      | (with_reducible refine awp_drw 26 hX [0, 1, 4, 5, 6, 7, 8, 9, 10, 11, 22] Tab.mixed (by kernel_rfl) ?_; simp [-getElem?_pos, -getElem?_neg, rowsC, intsC, iC, bC, hwk, hlt])
      | (with_reducible refine awp_if_b rfl (fun hc => ?_) (fun hc => ?_) <;> (try simp [-getElem?_pos, -getElem?_neg] at hc) <;> (try (exfalso; omega)))
      | (with_reducible refine GuardK_b (fun hc => ?_) (fun hc => ?_) <;> (try simp only [Bool.not_eq_true', Bool.not_eq_false', decide_eq_true_eq, decide_eq_false_iff_not] at hc) <;> (first | (exfalso; omega) | skip) <;> simp [-getElem?_pos, -getElem?_neg, rowsC, intsC, iC, bC, hwk, hlt, hc])
      | (with_reducible refine DGuard_b _ _ _ _ _ _ _ _ (fun hc => ?_) (fun hc => ?_) <;> (try simp only [Bool.not_eq_true', Bool.not_eq_false', decide_eq_true_eq, decide_eq_false_iff_not] at hc) <;> (first | (exfalso; omega) | skip) <;> simp [-getElem?_pos, -getElem?_neg, rowsC, intsC, iC, bC, hwk, hlt, hc])
      | (refine hother _ _ rfl ?_; simp only [inBlockA, thenA, noGotoA, Nat.reduceEqDiff, if_false, if_true, ↓reduceIte])
      | (refine hother2 _ _ rfl ?_; simp only [inBlockA, thenA, noGotoA, Nat.reduceEqDiff, if_false, if_true, ↓reduceIte])
      | (refine hother3 _ _ rfl ?_; simp only [inBlockA, thenA, noGotoA, Nat.reduceEqDiff, if_false, if_true, ↓reduceIte])
      | (refine And.intro (by omega) ?_)
      | (with_reducible change postOf _ _ _ _; simp [-getElem?_pos, -getElem?_neg, rowsC, intsC, iC, bC, hwk, hlt])
      | fail)
    have : k = o.length := by omega
    rw [this]
set_option maxRecDepth 100000 in
set_option maxHeartbeats 2000000 in
theorem fold40_den (v : List (List Int)) (o : List Int) (ob : List Ob) (hn : o.length ≤ 1000000) : Den Try.prog 18 [.c (rowsC v), .c (intsC o)] ob (fun r ob' => r = .c (iC (foldTo v o o.length)) ∧ ob' = ob) := by
  refine den_of Try.func18 rfl rfl (by simp [Try.ntmps18]) (fun X hX hO => ?_)
  rw [Try.ntmps18] at hX
  simp only [Try.results18]
  by_cases h0 : o = []
  · subst h0
    repeat' (first 
      | with_reducible refine awp_scope ?_
      | with_reducible refine awp_seq ?_
      | with_reducible refine awp_block ?_
      | (with_reducible refine awp_label ?_; simp only [thenA, inBlockA, noGotoA])
      | (with_reducible refine awp_skip ?_; simp only [thenA, inBlockA, noGotoA])
      | (with_reducible refine awp_exit ?_; simp only [thenA, inBlockA, noGotoA, if_true, Nat.reduceEqDiff, if_false, ↓reduceIte])
      | (with_reducible refine awp_ret ?_; (try simp only [thenA, inBlockA, noGotoA]); (try simp [-getElem?_pos, -getElem?_neg, intsC, rowsC, iC]))
      | (with_reducible refine awp_reg 31 hX [0, 1, 4, 5, 6, 9, 16, 22, 25, 28] ?_; simp [-getElem?_pos, -getElem?_neg, intsC, rowsC, iC])
      | (with_reducible refine awp_drw 31 hX [0, 1, 4, 5, 6, 9, 16, 22, 25, 28] Tab.mixed (by kernel_rfl) ?_; simp [-getElem?_pos, -getElem?_neg, intsC, rowsC, iC])
      | (with_reducible refine awp_if_b rfl (fun hc => ?_) (fun hc => ?_) <;> (try simp [-getElem?_pos, -getElem?_neg] at hc) <;> (try (exfalso; omega)))
      | (with_reducible refine GuardK_b (fun hc => ?_) (fun hc => ?_) <;> (try simp only [Bool.not_eq_true', Bool.not_eq_false', decide_eq_true_eq, decide_eq_false_iff_not] at hc) <;> (first | (exfalso; omega) | skip) <;> simp [-getElem?_pos, -getElem?_neg, intsC, rowsC, iC, hc])
      | (with_reducible refine DGuard_b _ _ _ _ _ _ _ _ (fun hc => ?_) (fun hc => ?_) <;> (try simp only [Bool.not_eq_true', Bool.not_eq_false', decide_eq_true_eq, decide_eq_false_iff_not] at hc) <;> (first | (exfalso; omega) | skip) <;> simp [-getElem?_pos, -getElem?_neg, intsC, rowsC, iC, hc])
      | (refine hother _ _ rfl ?_; simp only [inBlockA, thenA, noGotoA, Nat.reduceEqDiff, if_false, if_true, ↓reduceIte])
      | (refine hother2 _ _ rfl ?_; simp only [inBlockA, thenA, noGotoA, Nat.reduceEqDiff, if_false, if_true, ↓reduceIte])
      | (refine hother3 _ _ rfl ?_; simp only [inBlockA, thenA, noGotoA, Nat.reduceEqDiff, if_false, if_true, ↓reduceIte])
      | (refine And.intro (by omega) ?_)
      | (with_reducible change postOf _ _ _ _; simp [-getElem?_pos, -getElem?_neg, intsC, rowsC, iC])
      | fail)
    simp [foldTo]
  · have hpos : 0 < o.length := List.length_pos_iff.2 h0
    obtain ⟨x0, hx0⟩ := getI o 0 (by omega) (by omega)
    simp at hx0
    repeat' (first 
      | with_reducible refine awp_scope ?_
      | with_reducible refine awp_seq ?_
      | with_reducible refine awp_block ?_
      | (with_reducible refine awp_label ?_; simp only [thenA, inBlockA, noGotoA])
      | (with_reducible refine awp_skip ?_; simp only [thenA, inBlockA, noGotoA])
      | (with_reducible refine awp_exit ?_; simp only [thenA, inBlockA, noGotoA, if_true, Nat.reduceEqDiff, if_false, ↓reduceIte])
      | (with_reducible refine awp_ret ?_; (try simp only [thenA, inBlockA, noGotoA]); (try simp [-getElem?_pos, -getElem?_neg, intsC, rowsC, iC, h0, hpos, hx0]))
      | (with_reducible refine awp_reg 31 hX [0, 1, 4, 5, 6, 9, 16, 22, 25, 28] ?_; simp [-getElem?_pos, -getElem?_neg, intsC, rowsC, iC, h0, hpos, hx0])
      | (with_reducible refine awp_drw 31 hX [0, 1, 4, 5, 6, 9, 16, 22, 25, 28] Tab.mixed (by kernel_rfl) ?_; simp [-getElem?_pos, -getElem?_neg, intsC, rowsC, iC, h0, hpos, hx0])
      | (with_reducible refine awp_if_b rfl (fun hc => ?_) (fun hc => ?_) <;> (try simp [-getElem?_pos, -getElem?_neg] at hc) <;> (try (exfalso; omega)))
      | (with_reducible refine GuardK_b (fun hc => ?_) (fun hc => ?_) <;> (try simp only [Bool.not_eq_true', Bool.not_eq_false', decide_eq_true_eq, decide_eq_false_iff_not] at hc) <;> (first | (exfalso; omega) | skip) <;> simp [-getElem?_pos, -getElem?_neg, intsC, rowsC, iC, h0, hpos, hx0, hc])
      | (with_reducible refine DGuard_b _ _ _ _ _ _ _ _ (fun hc => ?_) (fun hc => ?_) <;> (try simp only [Bool.not_eq_true', Bool.not_eq_false', decide_eq_true_eq, decide_eq_false_iff_not] at hc) <;> (first | (exfalso; omega) | skip) <;> simp [-getElem?_pos, -getElem?_neg, intsC, rowsC, iC, h0, hpos, hx0, hc])
      | (refine hother _ _ rfl ?_; simp only [inBlockA, thenA, noGotoA, Nat.reduceEqDiff, if_false, if_true, ↓reduceIte])
      | (refine hother2 _ _ rfl ?_; simp only [inBlockA, thenA, noGotoA, Nat.reduceEqDiff, if_false, if_true, ↓reduceIte])
      | (refine hother3 _ _ rfl ?_; simp only [inBlockA, thenA, noGotoA, Nat.reduceEqDiff, if_false, if_true, ↓reduceIte])
      | (refine And.intro (by omega) ?_)
      | (with_reducible change postOf _ _ _ _; simp [-getElem?_pos, -getElem?_neg, intsC, rowsC, iC, h0, hpos, hx0])
      | fail)
    refine awp_for [0, 1, 5, 6] (fun k (_ : Unit) => ⟨[(0, .c (rowsC v)), (1, .c (intsC o)), (5, .c (iC (foldTo v o (k + 1)))), (6, .c (iC (k + 1 : Nat)))], ob⟩) (fun _ _ => True) (o.length - 1) () trivial (by simp [rowsC, intsC, iC, foldTo, hx0]) ?_
    intro k _ Q1 hk _ next hother
    have hwk := wrap_in ((k : Int) + 1 + 1) (by omega)
    by_cases hlt : k + 1 < o.length
    · obtain ⟨x, hx⟩ := getI o (k + 1 : Nat) (by omega) (by omega)
      simp at hx
      have hs : foldTo v o (k + 1 + 1) = if beats v x (foldTo v o (k + 1)) = true then x else foldTo v o (k + 1) := by rw [foldTo]; simp [hx]
      clear hother
      repeat' (first 
        | with_reducible refine awp_scope ?_
        | with_reducible refine awp_seq ?_
        | with_reducible refine awp_block ?_
        | (with_reducible refine awp_label ?_; simp only [thenA, inBlockA, noGotoA])
        | (with_reducible refine awp_skip ?_; simp only [thenA, inBlockA, noGotoA])
        | (with_reducible refine awp_exit ?_; simp only [thenA, inBlockA, noGotoA, if_true, Nat.reduceEqDiff, if_false, ↓reduceIte])
        | (with_reducible refine awp_ret ?_; (try simp only [thenA, inBlockA, noGotoA]); (try simp [-getElem?_pos, -getElem?_neg, rowsC, intsC, iC, bC, hwk, hlt, hx]))
        | (with_reducible refine awp_reg 31 hX [0, 1, 4, 5, 6, 9, 16, 22, 25, 28] ?_; simp [-getElem?_pos, -getElem?_neg, rowsC, intsC, iC, bC, hwk, hlt, hx])
        | (with_reducible refine awp_drw 31 hX [0, 1, 4, 5, 6, 9, 16, 22, 25, 28] Tab.mixed (by kernel_rfl) ?_; simp [-getElem?_pos, -getElem?_neg, rowsC, intsC, iC, bC, hwk, hlt, hx])
        | (refine (beats40_den _ _ _ _).det ?_; simp [-getElem?_pos, -getElem?_neg, rowsC, intsC, iC, bC, hwk, hlt, hx])
        | (refine ⟨_, beats40_den _ _ _ _, ?_⟩; simp [-getElem?_pos, -getElem?_neg, rowsC, intsC, iC, bC, hwk, hlt, hx])
        | (with_reducible refine awp_if_b rfl (fun hc => ?_) (fun hc => ?_) <;> (try simp [-getElem?_pos, -getElem?_neg] at hc) <;> (try (exfalso; omega)))
        | (with_reducible refine GuardK_b (fun hc => ?_) (fun hc => ?_) <;> (try simp only [Bool.not_eq_true', Bool.not_eq_false', decide_eq_true_eq, decide_eq_false_iff_not] at hc) <;> (first | (exfalso; omega) | skip) <;> simp [-getElem?_pos, -getElem?_neg, rowsC, intsC, iC, bC, hwk, hlt, hx, hc])
        | (with_reducible refine DGuard_b _ _ _ _ _ _ _ _ (fun hc => ?_) (fun hc => ?_) <;> (try simp only [Bool.not_eq_true', Bool.not_eq_false', decide_eq_true_eq, decide_eq_false_iff_not] at hc) <;> (first | (exfalso; omega) | skip) <;> simp [-getElem?_pos, -getElem?_neg, rowsC, intsC, iC, bC, hwk, hlt, hx, hc])
        | (refine hother _ _ rfl ?_; simp only [inBlockA, thenA, noGotoA, Nat.reduceEqDiff, if_false, if_true, ↓reduceIte])
        | (refine hother2 _ _ rfl ?_; simp only [inBlockA, thenA, noGotoA, Nat.reduceEqDiff, if_false, if_true, ↓reduceIte])
        | (refine hother3 _ _ rfl ?_; simp only [inBlockA, thenA, noGotoA, Nat.reduceEqDiff, if_false, if_true, ↓reduceIte])
        | (refine And.intro (by omega) ?_)
        | (with_reducible change postOf _ _ _ _; simp [-getElem?_pos, -getElem?_neg, rowsC, intsC, iC, bC, hwk, hlt, hx])
        | fail)
      · refine next _ () (by omega) trivial ?_; simp_all [rowsC, intsC, iC]
      · refine next _ () (by omega) trivial ?_; simp_all [rowsC, intsC, iC]
    · repeat' (first 
        | with_reducible refine awp_scope ?_
        | with_reducible refine awp_seq ?_
        | with_reducible refine awp_block ?_
        | (with_reducible refine awp_label ?_; simp only [thenA, inBlockA, noGotoA])
        | (with_reducible refine awp_skip ?_; simp only [thenA, inBlockA, noGotoA])
        | (with_reducible refine awp_exit ?_; simp only [thenA, inBlockA, noGotoA, if_true, Nat.reduceEqDiff, if_false, ↓reduceIte])
        | (with_reducible refine awp_ret ?_; (try simp only [thenA, inBlockA, noGotoA]); (try simp [-getElem?_pos, -getElem?_neg, rowsC, intsC, iC, bC, hwk, hlt]))
        | (with_reducible refine awp_reg 31 hX [0, 1, 4, 5, 6, 9, 16, 22, 25, 28] ?_; simp [-getElem?_pos, -getElem?_neg, rowsC, intsC, iC, bC, hwk, hlt])
        | (with_reducible refine awp_drw 31 hX [0, 1, 4, 5, 6, 9, 16, 22, 25, 28] Tab.mixed (by kernel_rfl) ?_; simp [-getElem?_pos, -getElem?_neg, rowsC, intsC, iC, bC, hwk, hlt])
        | (with_reducible refine awp_if_b rfl (fun hc => ?_) (fun hc => ?_) <;> (try simp [-getElem?_pos, -getElem?_neg] at hc) <;> (try (exfalso; omega)))
        | (with_reducible refine GuardK_b (fun hc => ?_) (fun hc => ?_) <;> (try simp only [Bool.not_eq_true', Bool.not_eq_false', decide_eq_true_eq, decide_eq_false_iff_not] at hc) <;> (first | (exfalso; omega) | skip) <;> simp [-getElem?_pos, -getElem?_neg, rowsC, intsC, iC, bC, hwk, hlt, hc])
        | (with_reducible refine DGuard_b _ _ _ _ _ _ _ _ (fun hc => ?_) (fun hc => ?_) <;> (try simp only [Bool.not_eq_true', Bool.not_eq_false', decide_eq_true_eq, decide_eq_false_iff_not] at hc) <;> (first | (exfalso; omega) | skip) <;> simp [-getElem?_pos, -getElem?_neg, rowsC, intsC, iC, bC, hwk, hlt, hc])
        | (refine hother _ _ rfl ?_; simp only [inBlockA, thenA, noGotoA, Nat.reduceEqDiff, if_false, if_true, ↓reduceIte])
        | (refine hother2 _ _ rfl ?_; simp only [inBlockA, thenA, noGotoA, Nat.reduceEqDiff, if_false, if_true, ↓reduceIte])
        | (refine hother3 _ _ rfl ?_; simp only [inBlockA, thenA, noGotoA, Nat.reduceEqDiff, if_false, if_true, ↓reduceIte])
        | (refine And.intro (by omega) ?_)
        | (with_reducible change postOf _ _ _ _; simp [-getElem?_pos, -getElem?_neg, rowsC, intsC, iC, bC, hwk, hlt])
        | fail)
      have : k + 1 = o.length := by omega
      rw [this]
def great (v : List (List Int)) : Bool := ((v.take 30).any fun r => decide (30 < r.length)) || decide (20 < v.length)
theorem great_no (v : List (List Int)) (h : great v = false) : v.length ≤ 20 ∧ ∀ r ∈ v, r.length ≤ 30 := by
  simp only [great, Bool.or_eq_false_iff, decide_eq_false_iff_not] at h
  obtain ⟨h1, h2⟩ := h
  refine ⟨by omega, fun r hr => ?_⟩
  rw [List.take_of_length_le (by omega)] at h1
  have := List.any_eq_false.1 h1 r hr
  simp at this
  omega
set_option maxRecDepth 100000 in
set_option maxHeartbeats 2000000 in
theorem great_den (v : List (List Int)) (ob : List Ob) : Den Try.prog 15 [.c (rowsC v)] ob (fun r ob' => r = .c (bC (great v)) ∧ ob' = ob) := by
  refine den_of Try.func15 rfl rfl (by simp [Try.ntmps15]) (fun X hX hO => ?_)
  rw [Try.ntmps15] at hX
  simp only [Try.results15]
  repeat' (first 
    | with_reducible refine awp_scope ?_
    | with_reducible refine awp_seq ?_
    | with_reducible refine awp_block ?_
    | (with_reducible refine awp_label ?_; simp only [thenA, inBlockA, noGotoA])
    | (with_reducible refine awp_skip ?_; simp only [thenA, inBlockA, noGotoA])
    | (with_reducible refine awp_exit ?_; simp only [thenA, inBlockA, noGotoA, if_true, Nat.reduceEqDiff, if_false, ↓reduceIte])
    | (with_reducible refine awp_ret ?_; (try simp only [thenA, inBlockA, noGotoA]); (try simp [-getElem?_pos, -getElem?_neg, rowsC, iC]))
    | (with_reducible refine awp_reg 23 hX [0, 2, 3, 7, 11, 16, 17, 19] ?_; simp [-getElem?_pos, -getElem?_neg, rowsC, iC])
    | (with_reducible refine awp_drw 23 hX [0, 2, 3, 7, 11, 16, 17, 19] Tab.mixed (by kernel_rfl) ?_; simp [-getElem?_pos, -getElem?_neg, rowsC, iC])
    | (with_reducible refine awp_if_b rfl (fun hc => ?_) (fun hc => ?_) <;> (try simp [-getElem?_pos, -getElem?_neg] at hc) <;> (try (exfalso; omega)))
    | (with_reducible refine GuardK_b (fun hc => ?_) (fun hc => ?_) <;> (try simp only [Bool.not_eq_true', Bool.not_eq_false', decide_eq_true_eq, decide_eq_false_iff_not] at hc) <;> (first | (exfalso; omega) | skip) <;> simp [-getElem?_pos, -getElem?_neg, rowsC, iC, hc])
    | (with_reducible refine DGuard_b _ _ _ _ _ _ _ _ (fun hc => ?_) (fun hc => ?_) <;> (try simp only [Bool.not_eq_true', Bool.not_eq_false', decide_eq_true_eq, decide_eq_false_iff_not] at hc) <;> (first | (exfalso; omega) | skip) <;> simp [-getElem?_pos, -getElem?_neg, rowsC, iC, hc])
    | (refine hother _ _ rfl ?_; simp only [inBlockA, thenA, noGotoA, Nat.reduceEqDiff, if_false, if_true, ↓reduceIte])
    | (refine hother2 _ _ rfl ?_; simp only [inBlockA, thenA, noGotoA, Nat.reduceEqDiff, if_false, if_true, ↓reduceIte])
    | (refine hother3 _ _ rfl ?_; simp only [inBlockA, thenA, noGotoA, Nat.reduceEqDiff, if_false, if_true, ↓reduceIte])
    | (refine And.intro (by omega) ?_)
    | (with_reducible change postOf _ _ _ _; simp [-getElem?_pos, -getElem?_neg, rowsC, iC])
    | fail)
  refine awp_for [0, 3] (fun k (_ : Unit) => ⟨[(0, .c (rowsC v)), (3, .c (iC k))], ob⟩) (fun k _ => k ≤ v.length ∧ ((v.take k).any fun r => decide (30 < r.length)) = false) 30 () (by simp) (by simp [rowsC, intsC, iC]) ?_
  intro k _ Q1 hk hH next hother
  have hwk := wrap_in ((k : Int) + 1) (by omega)
  have fin : k = 30 ∨ v.length ≤ k → decide (20 < (v.length : Int)) = great v := by
    intro h
    have e : v.take 30 = v.take k := by
      rcases h with h | h
      · rw [h]
      · rw [List.take_of_length_le h, List.take_of_length_le (by omega)]
    rw [great, e, hH.2, Bool.false_or]
    simp
    omega
  by_cases h30 : k < 30
  · by_cases hlt : k < v.length
    · obtain ⟨x, hx⟩ := getI v k (by omega) (by omega)
      simp at hx
      repeat' (first 
        | with_reducible refine awp_scope ?_
        | with_reducible refine awp_seq ?_
        | with_reducible refine awp_block ?_
        | (with_reducible refine awp_label ?_; simp only [thenA, inBlockA, noGotoA])
        | (with_reducible refine awp_skip ?_; simp only [thenA, inBlockA, noGotoA])
        | (with_reducible refine awp_exit ?_; simp only [thenA, inBlockA, noGotoA, if_true, Nat.reduceEqDiff, if_false, ↓reduceIte])
        | (with_reducible refine awp_ret ?_; (try simp only [thenA, inBlockA, noGotoA]); (try simp [-getElem?_pos, -getElem?_neg, rowsC, intsC, iC, bC, hwk, hlt, hx, h30, -List.any_eq_false]))
        | (with_reducible refine awp_reg 23 hX [0, 2, 3, 7, 11, 16, 17, 19] ?_; simp [-getElem?_pos, -getElem?_neg, rowsC, intsC, iC, bC, hwk, hlt, hx, h30, -List.any_eq_false])
        | (with_reducible refine awp_drw 23 hX [0, 2, 3, 7, 11, 16, 17, 19] Tab.mixed (by kernel_rfl) ?_; simp [-getElem?_pos, -getElem?_neg, rowsC, intsC, iC, bC, hwk, hlt, hx, h30, -List.any_eq_false])
        | (with_reducible refine awp_if_b rfl (fun hc => ?_) (fun hc => ?_) <;> (try simp [-getElem?_pos, -getElem?_neg] at hc) <;> (try (exfalso; omega)))
        | (with_reducible refine GuardK_b (fun hc => ?_) (fun hc => ?_) <;> (try simp only [Bool.not_eq_true', Bool.not_eq_false', decide_eq_true_eq, decide_eq_false_iff_not] at hc) <;> (first | (exfalso; omega) | skip) <;> simp [-getElem?_pos, -getElem?_neg, rowsC, intsC, iC, bC, hwk, hlt, hx, h30, -List.any_eq_false, hc])
        | (with_reducible refine DGuard_b _ _ _ _ _ _ _ _ (fun hc => ?_) (fun hc => ?_) <;> (try simp only [Bool.not_eq_true', Bool.not_eq_false', decide_eq_true_eq, decide_eq_false_iff_not] at hc) <;> (first | (exfalso; omega) | skip) <;> simp [-getElem?_pos, -getElem?_neg, rowsC, intsC, iC, bC, hwk, hlt, hx, h30, -List.any_eq_false, hc])
        | (refine hother _ _ rfl ?_; simp only [inBlockA, thenA, noGotoA, Nat.reduceEqDiff, if_false, if_true, ↓reduceIte])
        | (refine hother2 _ _ rfl ?_; simp only [inBlockA, thenA, noGotoA, Nat.reduceEqDiff, if_false, if_true, ↓reduceIte])
        | (refine hother3 _ _ rfl ?_; simp only [inBlockA, thenA, noGotoA, Nat.reduceEqDiff, if_false, if_true, ↓reduceIte])
        | (refine And.intro (by omega) ?_)
        | (with_reducible change postOf _ _ _ _; simp [-getElem?_pos, -getElem?_neg, rowsC, intsC, iC, bC, hwk, hlt, hx, h30, -List.any_eq_false])
        | fail)
      · have h : great v = true := by
          simp only [great, Bool.or_eq_true, List.any_eq_true]
          refine .inl ⟨x, ?_, by simp; omega⟩
          exact List.mem_of_getElem? (show (v.take 30)[k]? = some x by rw [List.getElem?_take_of_lt h30]; exact hx)
        simp [h]
      · refine next _ () (by omega) ⟨by omega, ?_⟩ (by simp [rowsC, iC])
        rw [List.take_add_one, List.any_append, hH.2, hx]
        simp
        omega
    · repeat' (first 
        | with_reducible refine awp_scope ?_
        | with_reducible refine awp_seq ?_
        | with_reducible refine awp_block ?_
        | (with_reducible refine awp_label ?_; simp only [thenA, inBlockA, noGotoA])
        | (with_reducible refine awp_skip ?_; simp only [thenA, inBlockA, noGotoA])
        | (with_reducible refine awp_exit ?_; simp only [thenA, inBlockA, noGotoA, if_true, Nat.reduceEqDiff, if_false, ↓reduceIte])
        | (with_reducible refine awp_ret ?_; (try simp only [thenA, inBlockA, noGotoA]); (try simp [-getElem?_pos, -getElem?_neg, rowsC, iC, bC, hwk, hlt, h30]))
        | (with_reducible refine awp_reg 23 hX [0, 2, 3, 7, 11, 16, 17, 19] ?_; simp [-getElem?_pos, -getElem?_neg, rowsC, iC, bC, hwk, hlt, h30])
        | (with_reducible refine awp_drw 23 hX [0, 2, 3, 7, 11, 16, 17, 19] Tab.mixed (by kernel_rfl) ?_; simp [-getElem?_pos, -getElem?_neg, rowsC, iC, bC, hwk, hlt, h30])
        | (with_reducible refine awp_if_b rfl (fun hc => ?_) (fun hc => ?_) <;> (try simp [-getElem?_pos, -getElem?_neg] at hc) <;> (try (exfalso; omega)))
        | (with_reducible refine GuardK_b (fun hc => ?_) (fun hc => ?_) <;> (try simp only [Bool.not_eq_true', Bool.not_eq_false', decide_eq_true_eq, decide_eq_false_iff_not] at hc) <;> (first | (exfalso; omega) | skip) <;> simp [-getElem?_pos, -getElem?_neg, rowsC, iC, bC, hwk, hlt, h30, hc])
        | (with_reducible refine DGuard_b _ _ _ _ _ _ _ _ (fun hc => ?_) (fun hc => ?_) <;> (try simp only [Bool.not_eq_true', Bool.not_eq_false', decide_eq_true_eq, decide_eq_false_iff_not] at hc) <;> (first | (exfalso; omega) | skip) <;> simp [-getElem?_pos, -getElem?_neg, rowsC, iC, bC, hwk, hlt, h30, hc])
        | (refine hother _ _ rfl ?_; simp only [inBlockA, thenA, noGotoA, Nat.reduceEqDiff, if_false, if_true, ↓reduceIte])
        | (refine hother2 _ _ rfl ?_; simp only [inBlockA, thenA, noGotoA, Nat.reduceEqDiff, if_false, if_true, ↓reduceIte])
        | (refine hother3 _ _ rfl ?_; simp only [inBlockA, thenA, noGotoA, Nat.reduceEqDiff, if_false, if_true, ↓reduceIte])
        | (refine And.intro (by omega) ?_)
        | (with_reducible change postOf _ _ _ _; simp [-getElem?_pos, -getElem?_neg, rowsC, iC, bC, hwk, hlt, h30])
        | fail)
      exact fin (.inr (by omega))
  · repeat' (first 
      | with_reducible refine awp_scope ?_
      | with_reducible refine awp_seq ?_
      | with_reducible refine awp_block ?_
      | (with_reducible refine awp_label ?_; simp only [thenA, inBlockA, noGotoA])
      | (with_reducible refine awp_skip ?_; simp only [thenA, inBlockA, noGotoA])
      | (with_reducible refine awp_exit ?_; simp only [thenA, inBlockA, noGotoA, if_true, Nat.reduceEqDiff, if_false, ↓reduceIte])
      | (with_reducible refine awp_ret ?_; (try simp only [thenA, inBlockA, noGotoA]); (try simp [-getElem?_pos, -getElem?_neg, rowsC, iC, bC, hwk, h30]))
      | (with_reducible refine awp_reg 23 hX [0, 2, 3, 7, 11, 16, 17, 19] ?_; simp [-getElem?_pos, -getElem?_neg, rowsC, iC, bC, hwk, h30])
      | (with_reducible refine awp_drw 23 hX [0, 2, 3, 7, 11, 16, 17, 19] Tab.mixed (by kernel_rfl) ?_; simp [-getElem?_pos, -getElem?_neg, rowsC, iC, bC, hwk, h30])
      | (with_reducible refine awp_if_b rfl (fun hc => ?_) (fun hc => ?_) <;> (try simp [-getElem?_pos, -getElem?_neg] at hc) <;> (try (exfalso; omega)))
      | (with_reducible refine GuardK_b (fun hc => ?_) (fun hc => ?_) <;> (try simp only [Bool.not_eq_true', Bool.not_eq_false', decide_eq_true_eq, decide_eq_false_iff_not] at hc) <;> (first | (exfalso; omega) | skip) <;> simp [-getElem?_pos, -getElem?_neg, rowsC, iC, bC, hwk, h30, hc])
      | (with_reducible refine DGuard_b _ _ _ _ _ _ _ _ (fun hc => ?_) (fun hc => ?_) <;> (try simp only [Bool.not_eq_true', Bool.not_eq_false', decide_eq_true_eq, decide_eq_false_iff_not] at hc) <;> (first | (exfalso; omega) | skip) <;> simp [-getElem?_pos, -getElem?_neg, rowsC, iC, bC, hwk, h30, hc])
      | (refine hother _ _ rfl ?_; simp only [inBlockA, thenA, noGotoA, Nat.reduceEqDiff, if_false, if_true, ↓reduceIte])
      | (refine hother2 _ _ rfl ?_; simp only [inBlockA, thenA, noGotoA, Nat.reduceEqDiff, if_false, if_true, ↓reduceIte])
      | (refine hother3 _ _ rfl ?_; simp only [inBlockA, thenA, noGotoA, Nat.reduceEqDiff, if_false, if_true, ↓reduceIte])
      | (refine And.intro (by omega) ?_)
      | (with_reducible change postOf _ _ _ _; simp [-getElem?_pos, -getElem?_neg, rowsC, iC, bC, hwk, h30])
      | fail)
    · exact fin (.inl (by omega))
    · exact fin (.inr (by omega))
end Go.Av
