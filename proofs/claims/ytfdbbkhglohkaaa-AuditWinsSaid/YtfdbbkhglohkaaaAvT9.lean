import Derived.Test.YtfdbbkhglohkaaaAvT8
set_option linter.unusedVariables false
set_option linter.unusedSimpArgs false
namespace Go.Av
open Go Go.Proofs Go.Proofs.Ytfdbbkhglohkaaa
attribute [local simp] Try.underlying22 Try.underlying23 Try.underlying3 Try.underlying4 Try.underlying40 Try.underlying9
set_option maxRecDepth 100000 in
set_option maxHeartbeats 2000000 in
theorem awake57_den (ob : List Ob) : Den Try.prog 29 [] ob (fun r ob' => r = .c (bC true) ∧ ob' = ob) := by
  have e1 : duelB [] = true := by decide
  have e2 : duelB [[0, 1], [-1, 0]] = true := by decide
  have e3 : awins [⟨#[97]⟩, ⟨#[98]⟩] [[0, 1], [-1, 0]] 0 = true := by decide +kernel
  have e4 : awins [⟨#[97]⟩, ⟨#[98]⟩] [[0, 1], [-1, 0]] 1 = false := by decide +kernel
  have c1 : ∀ ob, Den Try.prog 30 [.c (.v (.slice none 0 0))] ob (fun r ob' => r = .c (bC true) ∧ ob' = ob) := fun ob => by
    rw [← e1]; exact (duel_den [] ob (by decide)).le ⟨leM_c (leC_nil _), trivial⟩
  have c2 : ∀ ob, Den Try.prog 30 [.c (.sl [.sl [iC 0, iC 1] 2 true, .sl [iC (-1), iC 0] 2 true] 2 true)] ob (fun r ob' => r = .c (bC true) ∧ ob' = ob) := fun ob => by
    rw [← e2]; exact (duel_den [[0, 1], [-1, 0]] ob (by decide)).le ⟨leM_c (leC_sls ⟨leC_full _ _ _, leC_full _ _ _, trivial⟩), trivial⟩
  have c3 : ∀ ob, Den Try.prog 31 [.c (.sl [sC ⟨#[97]⟩, sC ⟨#[98]⟩] 2 true), .c (.sl [.sl [iC 0, iC 1] 2 true, .sl [iC (-1), iC 0] 2 true] 2 true), .c (iC 0)] ob (fun r ob' => r = .c (bC true) ∧ ob' = ob) := fun ob => by
    rw [← e3]; exact (auditWins_den [⟨#[97]⟩, ⟨#[98]⟩] [[0, 1], [-1, 0]] 0 ob (by decide)).le ⟨leM_c (leC_full _ _ _), leM_c (leC_sls ⟨leC_full _ _ _, leC_full _ _ _, trivial⟩), leM_refl _, trivial⟩
  have c4 : ∀ ob, Den Try.prog 31 [.c (.sl [sC ⟨#[97]⟩, sC ⟨#[98]⟩] 2 true), .c (.sl [.sl [iC 0, iC 1] 2 true, .sl [iC (-1), iC 0] 2 true] 2 true), .c (iC 1)] ob (fun r ob' => r = .c (bC false) ∧ ob' = ob) := fun ob => by
    rw [← e4]; exact (auditWins_den [⟨#[97]⟩, ⟨#[98]⟩] [[0, 1], [-1, 0]] 1 ob (by decide)).le ⟨leM_c (leC_full _ _ _), leM_c (leC_sls ⟨leC_full _ _ _, leC_full _ _ _, trivial⟩), leM_refl _, trivial⟩
  simp only [iC, sC, bC] at c1 c2 c3 c4
  refine den_of Try.func29 rfl rfl (by simp [Try.ntmps29]) (fun X hX hO => ?_)
  rw [Try.ntmps29] at hX
  simp only [Try.results29]
  repeat' (first 
    | with_reducible refine awp_scope ?_
    | with_reducible refine awp_seq ?_
    | with_reducible refine awp_block ?_
    | (with_reducible refine awp_label ?_; simp only [thenA, inBlockA, noGotoA])
    | (with_reducible refine awp_skip ?_; simp only [thenA, inBlockA, noGotoA])
    | (with_reducible refine awp_exit ?_; simp only [thenA, inBlockA, noGotoA, if_true, Nat.reduceEqDiff, if_false, ↓reduceIte])
    | (with_reducible refine awp_ret ?_; (try simp only [thenA, inBlockA, noGotoA]); (try simp [-getElem?_pos, -getElem?_neg, List.getElem?_cons_zero, List.getElem?_cons_succ, iC, bC, sC]))
    | (with_reducible refine awp_reg 21 hX [0, 1, 8, 9, 13, 14, 18, 19] ?_; simp [-getElem?_pos, -getElem?_neg, List.getElem?_cons_zero, List.getElem?_cons_succ, iC, bC, sC])
    | (with_reducible refine awp_drw 21 hX [0, 1, 8, 9, 13, 14, 18, 19] Tab.mixed (by kernel_rfl) ?_; simp [-getElem?_pos, -getElem?_neg, List.getElem?_cons_zero, List.getElem?_cons_succ, iC, bC, sC])
    | (refine (c1 _).det ?_; try simp [-getElem?_pos, -getElem?_neg, List.getElem?_cons_zero, List.getElem?_cons_succ, iC, bC, sC])
    | (refine ⟨_, c1 _, ?_⟩; simp [-getElem?_pos, -getElem?_neg, List.getElem?_cons_zero, List.getElem?_cons_succ, iC, bC, sC])
    | (refine (c2 _).det ?_; try simp [-getElem?_pos, -getElem?_neg, List.getElem?_cons_zero, List.getElem?_cons_succ, iC, bC, sC])
    | (refine ⟨_, c2 _, ?_⟩; simp [-getElem?_pos, -getElem?_neg, List.getElem?_cons_zero, List.getElem?_cons_succ, iC, bC, sC])
    | (refine (c3 _).det ?_; try simp [-getElem?_pos, -getElem?_neg, List.getElem?_cons_zero, List.getElem?_cons_succ, iC, bC, sC])
    | (refine ⟨_, c3 _, ?_⟩; simp [-getElem?_pos, -getElem?_neg, List.getElem?_cons_zero, List.getElem?_cons_succ, iC, bC, sC])
    | (refine (c4 _).det ?_; try simp [-getElem?_pos, -getElem?_neg, List.getElem?_cons_zero, List.getElem?_cons_succ, iC, bC, sC])
    | (refine ⟨_, c4 _, ?_⟩; simp [-getElem?_pos, -getElem?_neg, List.getElem?_cons_zero, List.getElem?_cons_succ, iC, bC, sC])
    | (with_reducible refine awp_if_b rfl (fun hc => ?_) (fun hc => ?_) <;> (try simp [-getElem?_pos, -getElem?_neg] at hc) <;> (try (exfalso; omega)))
    | (with_reducible refine GuardK_b (fun hc => ?_) (fun hc => ?_) <;> (try simp only [Bool.not_eq_true', Bool.not_eq_false', decide_eq_true_eq, decide_eq_false_iff_not] at hc) <;> (first | (exfalso; omega) | skip) <;> simp [-getElem?_pos, -getElem?_neg, List.getElem?_cons_zero, List.getElem?_cons_succ, iC, bC, sC, hc])
    | (with_reducible refine DGuard_b _ _ _ _ _ _ _ _ (fun hc => ?_) (fun hc => ?_) <;> (try simp only [Bool.not_eq_true', Bool.not_eq_false', decide_eq_true_eq, decide_eq_false_iff_not] at hc) <;> (first | (exfalso; omega) | skip) <;> simp [-getElem?_pos, -getElem?_neg, List.getElem?_cons_zero, List.getElem?_cons_succ, iC, bC, sC, hc])
    | (refine hother _ _ rfl ?_; simp only [inBlockA, thenA, noGotoA, Nat.reduceEqDiff, if_false, if_true, ↓reduceIte])
    | (refine hother2 _ _ rfl ?_; simp only [inBlockA, thenA, noGotoA, Nat.reduceEqDiff, if_false, if_true, ↓reduceIte])
    | (refine hother3 _ _ rfl ?_; simp only [inBlockA, thenA, noGotoA, Nat.reduceEqDiff, if_false, if_true, ↓reduceIte])
    | (refine And.intro (by omega) ?_)
    | (with_reducible change postOf _ _ _ _; simp [-getElem?_pos, -getElem?_neg, List.getElem?_cons_zero, List.getElem?_cons_succ, iC, bC, sC])
    | fail)
end Go.Av
