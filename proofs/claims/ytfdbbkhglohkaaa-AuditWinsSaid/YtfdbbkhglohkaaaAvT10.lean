import Derived.Test.YtfdbbkhglohkaaaAvT9
set_option linter.unusedVariables false
set_option linter.unusedSimpArgs false
namespace Go.Av
open Go Go.Proofs Go.Proofs.Ytfdbbkhglohkaaa
attribute [local simp] Try.underlying22 Try.underlying23 Try.underlying3 Try.underlying4 Try.underlying40 Try.underlying9
def lensOK (v : List (List Int)) (m : Nat) : Bool := (List.range m).all fun i => decide ((rowN v i).length = v.length)
def pairOK (v : List (List Int)) (i k : Nat) : Bool :=
  decide (-1 ≤ cellN v i k) && (decide (cellN v i k ≤ 1) && (decide (-1 ≤ cellN v k i) && (decide (cellN v k i ≤ 1) && decide (IntKind.i64.wrap (cellN v i k + cellN v k i) = 0))))
def pairTo (v : List (List Int)) (i m : Nat) : Bool := (List.range m).all (pairOK v i)
def wantTo (v : List (List Int)) (m : Nat) : Bool := lensOK v v.length && (List.range m).all fun i => pairTo v i v.length
theorem duel_want (v : List (List Int)) : duelB v = wantTo v v.length := by
  rw [Bool.eq_iff_iff]
  simp only [duelB, wantTo, lensOK, List.all_eq_true, List.mem_range, duelRow, Bool.and_eq_true, decide_eq_true_eq, duelTo, duelAt, pairTo, pairOK]
  constructor
  · intro h
    refine ⟨fun i hi => (h i hi).1.1, fun i hi k hk => ?_⟩
    have a := (h i hi).2 k (by rw [(h i hi).1.1]; exact hk)
    have b := (h k hk).2 i (by rw [(h k hk).1.1]; exact hi)
    have w1 := wrap_in (-cellN v k i) (by omega)
    have w2 := wrap_in (cellN v i k + cellN v k i) (by omega)
    omega
  · rintro ⟨hl, h⟩ i hi
    have d := h i hi i hi
    have w := wrap_in (cellN v i i + cellN v i i) (by omega)
    refine ⟨⟨hl i hi, by omega⟩, fun k hk => ?_⟩
    rw [hl i hi] at hk
    have a := h i hi k hk
    have w1 := wrap_in (-cellN v k i) (by omega)
    have w2 := wrap_in (cellN v i k + cellN v k i) (by omega)
    refine ⟨hl k hk, by omega, by omega, by omega⟩
theorem want_false (v : List (List Int)) (m n : Nat) (h : m ≤ n) (hf : wantTo v m = false) : wantTo v n = false := by
  unfold wantTo at *
  cases hl : lensOK v v.length with
  | false => rfl
  | true =>
    rw [hl, Bool.true_and] at hf
    rw [Bool.true_and]
    rw [List.all_eq_false] at hf ⊢
    obtain ⟨x, hx, hp⟩ := hf
    exact ⟨x, by simp at hx ⊢; omega, hp⟩
set_option maxRecDepth 100000 in
set_option maxHeartbeats 4000000 in
theorem auditDuels_den (v : List (List Int)) (ob : List Ob) : Den Try.prog 8 [.c (rowsC v)] ob (fun r ob' => r = .c (bC true) ∧ ob' = ob) := by
  refine den_of Try.func8 rfl rfl (by simp [Try.ntmps8]) (fun X hX hO => ?_)
  rw [Try.ntmps8] at hX
  simp only [Try.results8]
  by_cases hg : great v = true
  · repeat' (first 
      | with_reducible refine awp_scope ?_
      | with_reducible refine awp_seq ?_
      | with_reducible refine awp_block ?_
      | (with_reducible refine awp_label ?_; simp only [thenA, inBlockA, noGotoA])
      | (with_reducible refine awp_skip ?_; simp only [thenA, inBlockA, noGotoA])
      | (with_reducible refine awp_exit ?_; simp only [thenA, inBlockA, noGotoA, if_true, Nat.reduceEqDiff, if_false, ↓reduceIte])
      | (with_reducible refine awp_ret ?_; (try simp only [thenA, inBlockA, noGotoA]); (try simp [-getElem?_pos, -getElem?_neg, List.getElem?_cons_zero, List.getElem?_cons_succ, rowsC, intsC, bC, iC, hg]))
      | (with_reducible refine awp_reg 88 hX [0, 2, 3, 4, 5, 6, 7, 8, 10, 15, 22, 23, 32, 35, 41, 46, 47, 49, 61, 62, 63, 64, 65, 66, 67, 68, 69, 70, 71, 72, 73, 74] ?_; simp [-getElem?_pos, -getElem?_neg, List.getElem?_cons_zero, List.getElem?_cons_succ, rowsC, intsC, bC, iC, hg])
      | (with_reducible refine awp_drw 88 hX [0, 2, 3, 4, 5, 6, 7, 8, 10, 15, 22, 23, 32, 35, 41, 46, 47, 49, 61, 62, 63, 64, 65, 66, 67, 68, 69, 70, 71, 72, 73, 74] Tab.mixed (by kernel_rfl) ?_; simp [-getElem?_pos, -getElem?_neg, List.getElem?_cons_zero, List.getElem?_cons_succ, rowsC, intsC, bC, iC, hg])
      | (refine (great_den _ _).det ?_; try simp [-getElem?_pos, -getElem?_neg, List.getElem?_cons_zero, List.getElem?_cons_succ, rowsC, intsC, bC, iC, hg])
      | (refine ⟨_, great_den _ _, ?_⟩; simp [-getElem?_pos, -getElem?_neg, List.getElem?_cons_zero, List.getElem?_cons_succ, rowsC, intsC, bC, iC, hg])
      | (refine (awake57_den _).det ?_; try simp [-getElem?_pos, -getElem?_neg, List.getElem?_cons_zero, List.getElem?_cons_succ, rowsC, intsC, bC, iC, hg])
      | (refine ⟨_, awake57_den _, ?_⟩; simp [-getElem?_pos, -getElem?_neg, List.getElem?_cons_zero, List.getElem?_cons_succ, rowsC, intsC, bC, iC, hg])
      | (with_reducible refine awp_if_b rfl (fun hc => ?_) (fun hc => ?_) <;> (try simp [-getElem?_pos, -getElem?_neg] at hc) <;> (try (exfalso; omega)))
      | (with_reducible refine GuardK_b (fun hc => ?_) (fun hc => ?_) <;> (try simp only [Bool.not_eq_true', Bool.not_eq_false', decide_eq_true_eq, decide_eq_false_iff_not] at hc) <;> (first | (exfalso; omega) | skip) <;> simp [-getElem?_pos, -getElem?_neg, List.getElem?_cons_zero, List.getElem?_cons_succ, rowsC, intsC, bC, iC, hg, hc])
      | (with_reducible refine DGuard_b _ _ _ _ _ _ _ _ (fun hc => ?_) (fun hc => ?_) <;> (try simp only [Bool.not_eq_true', Bool.not_eq_false', decide_eq_true_eq, decide_eq_false_iff_not] at hc) <;> (first | (exfalso; omega) | skip) <;> simp [-getElem?_pos, -getElem?_neg, List.getElem?_cons_zero, List.getElem?_cons_succ, rowsC, intsC, bC, iC, hg, hc])
      | (refine hother _ _ rfl ?_; simp only [inBlockA, thenA, noGotoA, Nat.reduceEqDiff, if_false, if_true, ↓reduceIte])
      | (refine hother2 _ _ rfl ?_; simp only [inBlockA, thenA, noGotoA, Nat.reduceEqDiff, if_false, if_true, ↓reduceIte])
      | (refine hother3 _ _ rfl ?_; simp only [inBlockA, thenA, noGotoA, Nat.reduceEqDiff, if_false, if_true, ↓reduceIte])
      | (refine And.intro (by omega) ?_)
      | (with_reducible change postOf _ _ _ _; simp [-getElem?_pos, -getElem?_neg, List.getElem?_cons_zero, List.getElem?_cons_succ, rowsC, intsC, bC, iC, hg])
      | fail)
  have hg : great v = false := by simpa using hg
  obtain ⟨hv, hr⟩ := great_no v hg
  repeat' (first 
    | with_reducible refine awp_scope ?_
    | with_reducible refine awp_seq ?_
    | with_reducible refine awp_block ?_
    | (with_reducible refine awp_label ?_; simp only [thenA, inBlockA, noGotoA])
    | (with_reducible refine awp_skip ?_; simp only [thenA, inBlockA, noGotoA])
    | (with_reducible refine awp_exit ?_; simp only [thenA, inBlockA, noGotoA, if_true, Nat.reduceEqDiff, if_false, ↓reduceIte])
    | (with_reducible refine awp_ret ?_; (try simp only [thenA, inBlockA, noGotoA]); (try simp [-getElem?_pos, -getElem?_neg, List.getElem?_cons_zero, List.getElem?_cons_succ, rowsC, intsC, bC, iC, hg]))
    | (with_reducible refine awp_reg 88 hX [0, 2, 3, 4, 5, 6, 7, 8, 10, 15, 22, 23, 32, 35, 41, 46, 47, 49, 61, 62, 63, 64, 65, 66, 67, 68, 69, 70, 71, 72, 73, 74] ?_; simp [-getElem?_pos, -getElem?_neg, List.getElem?_cons_zero, List.getElem?_cons_succ, rowsC, intsC, bC, iC, hg])
    | (with_reducible refine awp_drw 88 hX [0, 2, 3, 4, 5, 6, 7, 8, 10, 15, 22, 23, 32, 35, 41, 46, 47, 49, 61, 62, 63, 64, 65, 66, 67, 68, 69, 70, 71, 72, 73, 74] Tab.mixed (by kernel_rfl) ?_; simp [-getElem?_pos, -getElem?_neg, List.getElem?_cons_zero, List.getElem?_cons_succ, rowsC, intsC, bC, iC, hg])
    | (refine (great_den _ _).det ?_; try simp [-getElem?_pos, -getElem?_neg, List.getElem?_cons_zero, List.getElem?_cons_succ, rowsC, intsC, bC, iC, hg])
    | (refine ⟨_, great_den _ _, ?_⟩; simp [-getElem?_pos, -getElem?_neg, List.getElem?_cons_zero, List.getElem?_cons_succ, rowsC, intsC, bC, iC, hg])
    | (refine (awake57_den _).det ?_; try simp [-getElem?_pos, -getElem?_neg, List.getElem?_cons_zero, List.getElem?_cons_succ, rowsC, intsC, bC, iC, hg])
    | (refine ⟨_, awake57_den _, ?_⟩; simp [-getElem?_pos, -getElem?_neg, List.getElem?_cons_zero, List.getElem?_cons_succ, rowsC, intsC, bC, iC, hg])
    | (with_reducible refine awp_if_b rfl (fun hc => ?_) (fun hc => ?_) <;> (try simp [-getElem?_pos, -getElem?_neg] at hc) <;> (try (exfalso; omega)))
    | (with_reducible refine GuardK_b (fun hc => ?_) (fun hc => ?_) <;> (try simp only [Bool.not_eq_true', Bool.not_eq_false', decide_eq_true_eq, decide_eq_false_iff_not] at hc) <;> (first | (exfalso; omega) | skip) <;> simp [-getElem?_pos, -getElem?_neg, List.getElem?_cons_zero, List.getElem?_cons_succ, rowsC, intsC, bC, iC, hg, hc])
    | (with_reducible refine DGuard_b _ _ _ _ _ _ _ _ (fun hc => ?_) (fun hc => ?_) <;> (try simp only [Bool.not_eq_true', Bool.not_eq_false', decide_eq_true_eq, decide_eq_false_iff_not] at hc) <;> (first | (exfalso; omega) | skip) <;> simp [-getElem?_pos, -getElem?_neg, List.getElem?_cons_zero, List.getElem?_cons_succ, rowsC, intsC, bC, iC, hg, hc])
    | (refine hother _ _ rfl ?_; simp only [inBlockA, thenA, noGotoA, Nat.reduceEqDiff, if_false, if_true, ↓reduceIte])
    | (refine hother2 _ _ rfl ?_; simp only [inBlockA, thenA, noGotoA, Nat.reduceEqDiff, if_false, if_true, ↓reduceIte])
    | (refine hother3 _ _ rfl ?_; simp only [inBlockA, thenA, noGotoA, Nat.reduceEqDiff, if_false, if_true, ↓reduceIte])
    | (refine And.intro (by omega) ?_)
    | (with_reducible change postOf _ _ _ _; simp [-getElem?_pos, -getElem?_neg, List.getElem?_cons_zero, List.getElem?_cons_succ, rowsC, intsC, bC, iC, hg])
    | fail)
  refine awp_for [0, 3, 4] (fun i (_ : Unit) => ⟨[(0, .c (rowsC v)), (3, .c (bC (lensOK v i))), (4, .c (iC i))], ob⟩) (fun _ _ => True) v.length () trivial (by simp [rowsC, bC, iC, lensOK]) ?_
  rintro i - Q1 hi - next hother
  have hwi := wrap_in ((i : Int) + 1) (by omega)
  by_cases hlt : i < v.length
  · obtain ⟨ri, hri⟩ := getI v (i : Nat) (by omega) (by omega)
    simp only [Int.toNat_natCast] at hri
    have er : rowN v i = ri := by simp [rowN, hri]
    have es : lensOK v (i + 1) = (lensOK v i && decide (ri.length = v.length)) := by rw [lensOK, all_range_succ, er]; rfl
    cases hb : lensOK v i <;> rw [hb] at es
    · repeat' (first 
        | with_reducible refine awp_scope ?_
        | with_reducible refine awp_seq ?_
        | with_reducible refine awp_block ?_
        | (with_reducible refine awp_label ?_; simp only [thenA, inBlockA, noGotoA])
        | (with_reducible refine awp_skip ?_; simp only [thenA, inBlockA, noGotoA])
        | (with_reducible refine awp_exit ?_; simp only [thenA, inBlockA, noGotoA, if_true, Nat.reduceEqDiff, if_false, ↓reduceIte])
        | (with_reducible refine awp_ret ?_; (try simp only [thenA, inBlockA, noGotoA]); (try simp [-getElem?_pos, -getElem?_neg, List.getElem?_cons_zero, List.getElem?_cons_succ, rowsC, intsC, bC, iC, hlt, hri, hb, hwi]))
        | (with_reducible refine awp_reg 88 hX [0, 2, 3, 4, 5, 6, 7, 8, 10, 15, 22, 23, 32, 35, 41, 46, 47, 49, 61, 62, 63, 64, 65, 66, 67, 68, 69, 70, 71, 72, 73, 74] ?_; simp [-getElem?_pos, -getElem?_neg, List.getElem?_cons_zero, List.getElem?_cons_succ, rowsC, intsC, bC, iC, hlt, hri, hb, hwi])
        | (with_reducible refine awp_drw 88 hX [0, 2, 3, 4, 5, 6, 7, 8, 10, 15, 22, 23, 32, 35, 41, 46, 47, 49, 61, 62, 63, 64, 65, 66, 67, 68, 69, 70, 71, 72, 73, 74] Tab.mixed (by kernel_rfl) ?_; simp [-getElem?_pos, -getElem?_neg, List.getElem?_cons_zero, List.getElem?_cons_succ, rowsC, intsC, bC, iC, hlt, hri, hb, hwi])
        | (with_reducible refine awp_if_b rfl (fun hc => ?_) (fun hc => ?_) <;> (try simp [-getElem?_pos, -getElem?_neg] at hc) <;> (try (exfalso; omega)))
        | (with_reducible refine GuardK_b (fun hc => ?_) (fun hc => ?_) <;> (try simp only [Bool.not_eq_true', Bool.not_eq_false', decide_eq_true_eq, decide_eq_false_iff_not] at hc) <;> (first | (exfalso; omega) | skip) <;> simp [-getElem?_pos, -getElem?_neg, List.getElem?_cons_zero, List.getElem?_cons_succ, rowsC, intsC, bC, iC, hlt, hri, hb, hwi, hc])
        | (with_reducible refine DGuard_b _ _ _ _ _ _ _ _ (fun hc => ?_) (fun hc => ?_) <;> (try simp only [Bool.not_eq_true', Bool.not_eq_false', decide_eq_true_eq, decide_eq_false_iff_not] at hc) <;> (first | (exfalso; omega) | skip) <;> simp [-getElem?_pos, -getElem?_neg, List.getElem?_cons_zero, List.getElem?_cons_succ, rowsC, intsC, bC, iC, hlt, hri, hb, hwi, hc])
        | (refine hother _ _ rfl ?_; simp only [inBlockA, thenA, noGotoA, Nat.reduceEqDiff, if_false, if_true, ↓reduceIte])
        | (refine hother2 _ _ rfl ?_; simp only [inBlockA, thenA, noGotoA, Nat.reduceEqDiff, if_false, if_true, ↓reduceIte])
        | (refine hother3 _ _ rfl ?_; simp only [inBlockA, thenA, noGotoA, Nat.reduceEqDiff, if_false, if_true, ↓reduceIte])
        | (refine And.intro (by omega) ?_)
        | (with_reducible change postOf _ _ _ _; simp [-getElem?_pos, -getElem?_neg, List.getElem?_cons_zero, List.getElem?_cons_succ, rowsC, intsC, bC, iC, hlt, hri, hb, hwi])
        | fail)
      refine next _ () (by omega) trivial ?_; simp [rowsC, bC, iC, es]
    · by_cases hlr : ri.length = v.length
      · repeat' (first 
          | with_reducible refine awp_scope ?_
          | with_reducible refine awp_seq ?_
          | with_reducible refine awp_block ?_
          | (with_reducible refine awp_label ?_; simp only [thenA, inBlockA, noGotoA])
          | (with_reducible refine awp_skip ?_; simp only [thenA, inBlockA, noGotoA])
          | (with_reducible refine awp_exit ?_; simp only [thenA, inBlockA, noGotoA, if_true, Nat.reduceEqDiff, if_false, ↓reduceIte])
          | (with_reducible refine awp_ret ?_; (try simp only [thenA, inBlockA, noGotoA]); (try simp [-getElem?_pos, -getElem?_neg, List.getElem?_cons_zero, List.getElem?_cons_succ, rowsC, intsC, bC, iC, hlt, hri, hb, hwi, hlr]))
          | (with_reducible refine awp_reg 88 hX [0, 2, 3, 4, 5, 6, 7, 8, 10, 15, 22, 23, 32, 35, 41, 46, 47, 49, 61, 62, 63, 64, 65, 66, 67, 68, 69, 70, 71, 72, 73, 74] ?_; simp [-getElem?_pos, -getElem?_neg, List.getElem?_cons_zero, List.getElem?_cons_succ, rowsC, intsC, bC, iC, hlt, hri, hb, hwi, hlr])
          | (with_reducible refine awp_drw 88 hX [0, 2, 3, 4, 5, 6, 7, 8, 10, 15, 22, 23, 32, 35, 41, 46, 47, 49, 61, 62, 63, 64, 65, 66, 67, 68, 69, 70, 71, 72, 73, 74] Tab.mixed (by kernel_rfl) ?_; simp [-getElem?_pos, -getElem?_neg, List.getElem?_cons_zero, List.getElem?_cons_succ, rowsC, intsC, bC, iC, hlt, hri, hb, hwi, hlr])
          | (with_reducible refine awp_if_b rfl (fun hc => ?_) (fun hc => ?_) <;> (try simp [-getElem?_pos, -getElem?_neg] at hc) <;> (try (exfalso; omega)))
          | (with_reducible refine GuardK_b (fun hc => ?_) (fun hc => ?_) <;> (try simp only [Bool.not_eq_true', Bool.not_eq_false', decide_eq_true_eq, decide_eq_false_iff_not] at hc) <;> (first | (exfalso; omega) | skip) <;> simp [-getElem?_pos, -getElem?_neg, List.getElem?_cons_zero, List.getElem?_cons_succ, rowsC, intsC, bC, iC, hlt, hri, hb, hwi, hlr, hc])
          | (with_reducible refine DGuard_b _ _ _ _ _ _ _ _ (fun hc => ?_) (fun hc => ?_) <;> (try simp only [Bool.not_eq_true', Bool.not_eq_false', decide_eq_true_eq, decide_eq_false_iff_not] at hc) <;> (first | (exfalso; omega) | skip) <;> simp [-getElem?_pos, -getElem?_neg, List.getElem?_cons_zero, List.getElem?_cons_succ, rowsC, intsC, bC, iC, hlt, hri, hb, hwi, hlr, hc])
          | (refine hother _ _ rfl ?_; simp only [inBlockA, thenA, noGotoA, Nat.reduceEqDiff, if_false, if_true, ↓reduceIte])
          | (refine hother2 _ _ rfl ?_; simp only [inBlockA, thenA, noGotoA, Nat.reduceEqDiff, if_false, if_true, ↓reduceIte])
          | (refine hother3 _ _ rfl ?_; simp only [inBlockA, thenA, noGotoA, Nat.reduceEqDiff, if_false, if_true, ↓reduceIte])
          | (refine And.intro (by omega) ?_)
          | (with_reducible change postOf _ _ _ _; simp [-getElem?_pos, -getElem?_neg, List.getElem?_cons_zero, List.getElem?_cons_succ, rowsC, intsC, bC, iC, hlt, hri, hb, hwi, hlr])
          | fail)
        refine next _ () (by omega) trivial ?_; simp [rowsC, bC, iC, es, hlr]
      · repeat' (first 
          | with_reducible refine awp_scope ?_
          | with_reducible refine awp_seq ?_
          | with_reducible refine awp_block ?_
          | (with_reducible refine awp_label ?_; simp only [thenA, inBlockA, noGotoA])
          | (with_reducible refine awp_skip ?_; simp only [thenA, inBlockA, noGotoA])
          | (with_reducible refine awp_exit ?_; simp only [thenA, inBlockA, noGotoA, if_true, Nat.reduceEqDiff, if_false, ↓reduceIte])
          | (with_reducible refine awp_ret ?_; (try simp only [thenA, inBlockA, noGotoA]); (try simp [-getElem?_pos, -getElem?_neg, List.getElem?_cons_zero, List.getElem?_cons_succ, rowsC, intsC, bC, iC, hlt, hri, hb, hwi, hlr]))
          | (with_reducible refine awp_reg 88 hX [0, 2, 3, 4, 5, 6, 7, 8, 10, 15, 22, 23, 32, 35, 41, 46, 47, 49, 61, 62, 63, 64, 65, 66, 67, 68, 69, 70, 71, 72, 73, 74] ?_; simp [-getElem?_pos, -getElem?_neg, List.getElem?_cons_zero, List.getElem?_cons_succ, rowsC, intsC, bC, iC, hlt, hri, hb, hwi, hlr])
          | (with_reducible refine awp_drw 88 hX [0, 2, 3, 4, 5, 6, 7, 8, 10, 15, 22, 23, 32, 35, 41, 46, 47, 49, 61, 62, 63, 64, 65, 66, 67, 68, 69, 70, 71, 72, 73, 74] Tab.mixed (by kernel_rfl) ?_; simp [-getElem?_pos, -getElem?_neg, List.getElem?_cons_zero, List.getElem?_cons_succ, rowsC, intsC, bC, iC, hlt, hri, hb, hwi, hlr])
          | (with_reducible refine awp_if_b rfl (fun hc => ?_) (fun hc => ?_) <;> (try simp [-getElem?_pos, -getElem?_neg] at hc) <;> (try (exfalso; omega)))
          | (with_reducible refine GuardK_b (fun hc => ?_) (fun hc => ?_) <;> (try simp only [Bool.not_eq_true', Bool.not_eq_false', decide_eq_true_eq, decide_eq_false_iff_not] at hc) <;> (first | (exfalso; omega) | skip) <;> simp [-getElem?_pos, -getElem?_neg, List.getElem?_cons_zero, List.getElem?_cons_succ, rowsC, intsC, bC, iC, hlt, hri, hb, hwi, hlr, hc])
          | (with_reducible refine DGuard_b _ _ _ _ _ _ _ _ (fun hc => ?_) (fun hc => ?_) <;> (try simp only [Bool.not_eq_true', Bool.not_eq_false', decide_eq_true_eq, decide_eq_false_iff_not] at hc) <;> (first | (exfalso; omega) | skip) <;> simp [-getElem?_pos, -getElem?_neg, List.getElem?_cons_zero, List.getElem?_cons_succ, rowsC, intsC, bC, iC, hlt, hri, hb, hwi, hlr, hc])
          | (refine hother _ _ rfl ?_; simp only [inBlockA, thenA, noGotoA, Nat.reduceEqDiff, if_false, if_true, ↓reduceIte])
          | (refine hother2 _ _ rfl ?_; simp only [inBlockA, thenA, noGotoA, Nat.reduceEqDiff, if_false, if_true, ↓reduceIte])
          | (refine hother3 _ _ rfl ?_; simp only [inBlockA, thenA, noGotoA, Nat.reduceEqDiff, if_false, if_true, ↓reduceIte])
          | (refine And.intro (by omega) ?_)
          | (with_reducible change postOf _ _ _ _; simp [-getElem?_pos, -getElem?_neg, List.getElem?_cons_zero, List.getElem?_cons_succ, rowsC, intsC, bC, iC, hlt, hri, hb, hwi, hlr])
          | fail)
        refine next _ () (by omega) trivial ?_; simp [rowsC, bC, iC, es, hlr]; try omega
  have hiv : i = v.length := by omega
  subst hiv
  repeat' (first 
    | with_reducible refine awp_scope ?_
    | with_reducible refine awp_seq ?_
    | with_reducible refine awp_block ?_
    | (with_reducible refine awp_label ?_; simp only [thenA, inBlockA, noGotoA])
    | (with_reducible refine awp_skip ?_; simp only [thenA, inBlockA, noGotoA])
    | (with_reducible refine awp_exit ?_; simp only [thenA, inBlockA, noGotoA, if_true, Nat.reduceEqDiff, if_false, ↓reduceIte])
    | (with_reducible refine awp_ret ?_; (try simp only [thenA, inBlockA, noGotoA]); (try simp [-getElem?_pos, -getElem?_neg, List.getElem?_cons_zero, List.getElem?_cons_succ, rowsC, intsC, bC, iC, hlt]))
    | (with_reducible refine awp_reg 88 hX [0, 2, 3, 4, 5, 6, 7, 8, 10, 15, 22, 23, 32, 35, 41, 46, 47, 49, 61, 62, 63, 64, 65, 66, 67, 68, 69, 70, 71, 72, 73, 74] ?_; simp [-getElem?_pos, -getElem?_neg, List.getElem?_cons_zero, List.getElem?_cons_succ, rowsC, intsC, bC, iC, hlt])
    | (with_reducible refine awp_drw 88 hX [0, 2, 3, 4, 5, 6, 7, 8, 10, 15, 22, 23, 32, 35, 41, 46, 47, 49, 61, 62, 63, 64, 65, 66, 67, 68, 69, 70, 71, 72, 73, 74] Tab.mixed (by kernel_rfl) ?_; simp [-getElem?_pos, -getElem?_neg, List.getElem?_cons_zero, List.getElem?_cons_succ, rowsC, intsC, bC, iC, hlt])
    | (with_reducible refine awp_if_b rfl (fun hc => ?_) (fun hc => ?_) <;> (try simp [-getElem?_pos, -getElem?_neg] at hc) <;> (try (exfalso; omega)))
    | (with_reducible refine GuardK_b (fun hc => ?_) (fun hc => ?_) <;> (try simp only [Bool.not_eq_true', Bool.not_eq_false', decide_eq_true_eq, decide_eq_false_iff_not] at hc) <;> (first | (exfalso; omega) | skip) <;> simp [-getElem?_pos, -getElem?_neg, List.getElem?_cons_zero, List.getElem?_cons_succ, rowsC, intsC, bC, iC, hlt, hc])
    | (with_reducible refine DGuard_b _ _ _ _ _ _ _ _ (fun hc => ?_) (fun hc => ?_) <;> (try simp only [Bool.not_eq_true', Bool.not_eq_false', decide_eq_true_eq, decide_eq_false_iff_not] at hc) <;> (first | (exfalso; omega) | skip) <;> simp [-getElem?_pos, -getElem?_neg, List.getElem?_cons_zero, List.getElem?_cons_succ, rowsC, intsC, bC, iC, hlt, hc])
    | (refine hother _ _ rfl ?_; simp only [inBlockA, thenA, noGotoA, Nat.reduceEqDiff, if_false, if_true, ↓reduceIte])
    | (refine hother2 _ _ rfl ?_; simp only [inBlockA, thenA, noGotoA, Nat.reduceEqDiff, if_false, if_true, ↓reduceIte])
    | (refine hother3 _ _ rfl ?_; simp only [inBlockA, thenA, noGotoA, Nat.reduceEqDiff, if_false, if_true, ↓reduceIte])
    | (refine And.intro (by omega) ?_)
    | (with_reducible change postOf _ _ _ _; simp [-getElem?_pos, -getElem?_neg, List.getElem?_cons_zero, List.getElem?_cons_succ, rowsC, intsC, bC, iC, hlt])
    | fail)
  clear next hother
  refine awp_for [0, 3, 5] (fun i (_ : Unit) => ⟨[(0, .c (rowsC v)), (3, .c (bC (wantTo v i))), (5, .c (iC i))], ob⟩) (fun _ _ => True) v.length () trivial (by simp [rowsC, bC, iC, wantTo]) ?_
  rintro i - Q1 hi - next hother
  have hwi := wrap_in ((i : Int) + 1) (by omega)
  by_cases hlt : i < v.length ∧ wantTo v i = true
  · obtain ⟨hlt, hwt⟩ := hlt
    have hl : lensOK v v.length = true := by unfold wantTo at hwt; simp only [Bool.and_eq_true] at hwt; exact hwt.1
    repeat' (first 
      | with_reducible refine awp_scope ?_
      | with_reducible refine awp_seq ?_
      | with_reducible refine awp_block ?_
      | (with_reducible refine awp_label ?_; simp only [thenA, inBlockA, noGotoA])
      | (with_reducible refine awp_skip ?_; simp only [thenA, inBlockA, noGotoA])
      | (with_reducible refine awp_exit ?_; simp only [thenA, inBlockA, noGotoA, if_true, Nat.reduceEqDiff, if_false, ↓reduceIte])
      | (with_reducible refine awp_ret ?_; (try simp only [thenA, inBlockA, noGotoA]); (try simp [-getElem?_pos, -getElem?_neg, List.getElem?_cons_zero, List.getElem?_cons_succ, rowsC, intsC, bC, iC, hlt, hwt]))
      | (with_reducible refine awp_reg 88 hX [0, 2, 3, 4, 5, 6, 7, 8, 10, 15, 22, 23, 32, 35, 41, 46, 47, 49, 61, 62, 63, 64, 65, 66, 67, 68, 69, 70, 71, 72, 73, 74] ?_; simp [-getElem?_pos, -getElem?_neg, List.getElem?_cons_zero, List.getElem?_cons_succ, rowsC, intsC, bC, iC, hlt, hwt])
      | (with_reducible refine awp_drw 88 hX [0, 2, 3, 4, 5, 6, 7, 8, 10, 15, 22, 23, 32, 35, 41, 46, 47, 49, 61, 62, 63, 64, 65, 66, 67, 68, 69, 70, 71, 72, 73, 74] Tab.mixed (by kernel_rfl) ?_; simp [-getElem?_pos, -getElem?_neg, List.getElem?_cons_zero, List.getElem?_cons_succ, rowsC, intsC, bC, iC, hlt, hwt])
      | (with_reducible refine awp_if_b rfl (fun hc => ?_) (fun hc => ?_) <;> (try simp [-getElem?_pos, -getElem?_neg] at hc) <;> (try (exfalso; omega)))
      | (with_reducible refine GuardK_b (fun hc => ?_) (fun hc => ?_) <;> (try simp only [Bool.not_eq_true', Bool.not_eq_false', decide_eq_true_eq, decide_eq_false_iff_not] at hc) <;> (first | (exfalso; omega) | skip) <;> simp [-getElem?_pos, -getElem?_neg, List.getElem?_cons_zero, List.getElem?_cons_succ, rowsC, intsC, bC, iC, hlt, hwt, hc])
      | (with_reducible refine DGuard_b _ _ _ _ _ _ _ _ (fun hc => ?_) (fun hc => ?_) <;> (try simp only [Bool.not_eq_true', Bool.not_eq_false', decide_eq_true_eq, decide_eq_false_iff_not] at hc) <;> (first | (exfalso; omega) | skip) <;> simp [-getElem?_pos, -getElem?_neg, List.getElem?_cons_zero, List.getElem?_cons_succ, rowsC, intsC, bC, iC, hlt, hwt, hc])
      | (refine hother _ _ rfl ?_; simp only [inBlockA, thenA, noGotoA, Nat.reduceEqDiff, if_false, if_true, ↓reduceIte])
      | (refine hother2 _ _ rfl ?_; simp only [inBlockA, thenA, noGotoA, Nat.reduceEqDiff, if_false, if_true, ↓reduceIte])
      | (refine hother3 _ _ rfl ?_; simp only [inBlockA, thenA, noGotoA, Nat.reduceEqDiff, if_false, if_true, ↓reduceIte])
      | (refine And.intro (by omega) ?_)
      | (with_reducible change postOf _ _ _ _; simp [-getElem?_pos, -getElem?_neg, List.getElem?_cons_zero, List.getElem?_cons_succ, rowsC, intsC, bC, iC, hlt, hwt])
      | fail)
    refine awp_for [0, 3, 5, 6] (fun k (_ : Unit) => ⟨[(0, .c (rowsC v)), (3, .c (bC (pairTo v i k))), (5, .c (iC i)), (6, .c (iC k))], ob⟩) (fun _ _ => True) v.length () trivial (by simp [rowsC, bC, iC, pairTo]) ?_
    rintro k - Q2 hk - next2 hother2
    have hwk := wrap_in ((k : Int) + 1) (by omega)
    by_cases hkl : k < v.length
    · obtain ⟨ri, hri⟩ := getI v (i : Nat) (by omega) (by omega)
      obtain ⟨rk, hrk⟩ := getI v (k : Nat) (by omega) (by omega)
      simp only [Int.toNat_natCast] at hri hrk
      have er : rowN v i = ri := by simp [rowN, hri]
      have ek : rowN v k = rk := by simp [rowN, hrk]
      have hli : ri.length = v.length := by
        have := List.all_eq_true.1 hl i (by simpa using hlt)
        rw [er] at this; simpa using this
      have hlk : rk.length = v.length := by
        have := List.all_eq_true.1 hl k (by simpa using hkl)
        rw [ek] at this; simpa using this
      obtain ⟨x, hx⟩ := getI ri (k : Nat) (by omega) (by omega)
      obtain ⟨y, hy⟩ := getI rk (i : Nat) (by omega) (by omega)
      simp only [Int.toNat_natCast] at hx hy
      have ex : cellN v i k = x := by simp [cellN, er, hx]
      have ey : cellN v k i = y := by simp [cellN, ek, hy]
      have es : pairTo v i (k + 1) = (pairTo v i k && pairOK v i k) := by rw [pairTo, all_range_succ]; rfl
      have ep : pairOK v i k = (decide (-1 ≤ x) && (decide (x ≤ 1) && (decide (-1 ≤ y) && (decide (y ≤ 1) && decide (IntKind.i64.wrap (x + y) = 0))))) := by unfold pairOK; rw [ex, ey]
      cases hb : pairTo v i k <;> rw [hb] at es
      · repeat' (first 
          | with_reducible refine awp_scope ?_
          | with_reducible refine awp_seq ?_
          | with_reducible refine awp_block ?_
          | (with_reducible refine awp_label ?_; simp only [thenA, inBlockA, noGotoA])
          | (with_reducible refine awp_skip ?_; simp only [thenA, inBlockA, noGotoA])
          | (with_reducible refine awp_exit ?_; simp only [thenA, inBlockA, noGotoA, if_true, Nat.reduceEqDiff, if_false, ↓reduceIte])
          | (with_reducible refine awp_ret ?_; (try simp only [thenA, inBlockA, noGotoA]); (try simp [-getElem?_pos, -getElem?_neg, List.getElem?_cons_zero, List.getElem?_cons_succ, rowsC, intsC, bC, iC, hkl, hlt, hri, hrk, hli, hlk, hx, hy, hb, hwk]))
          | (with_reducible refine awp_reg 88 hX [0, 2, 3, 4, 5, 6, 7, 8, 10, 15, 22, 23, 32, 35, 41, 46, 47, 49, 61, 62, 63, 64, 65, 66, 67, 68, 69, 70, 71, 72, 73, 74] ?_; simp [-getElem?_pos, -getElem?_neg, List.getElem?_cons_zero, List.getElem?_cons_succ, rowsC, intsC, bC, iC, hkl, hlt, hri, hrk, hli, hlk, hx, hy, hb, hwk])
          | (with_reducible refine awp_drw 88 hX [0, 2, 3, 4, 5, 6, 7, 8, 10, 15, 22, 23, 32, 35, 41, 46, 47, 49, 61, 62, 63, 64, 65, 66, 67, 68, 69, 70, 71, 72, 73, 74] Tab.mixed (by kernel_rfl) ?_; simp [-getElem?_pos, -getElem?_neg, List.getElem?_cons_zero, List.getElem?_cons_succ, rowsC, intsC, bC, iC, hkl, hlt, hri, hrk, hli, hlk, hx, hy, hb, hwk])
          | (with_reducible refine awp_if_b rfl (fun hc => ?_) (fun hc => ?_) <;> (try simp [-getElem?_pos, -getElem?_neg] at hc) <;> (try (exfalso; omega)))
          | (with_reducible refine GuardK_b (fun hc => ?_) (fun hc => ?_) <;> (try simp only [Bool.not_eq_true', Bool.not_eq_false', decide_eq_true_eq, decide_eq_false_iff_not] at hc) <;> (first | (exfalso; omega) | skip) <;> simp [-getElem?_pos, -getElem?_neg, List.getElem?_cons_zero, List.getElem?_cons_succ, rowsC, intsC, bC, iC, hkl, hlt, hri, hrk, hli, hlk, hx, hy, hb, hwk, hc])
          | (with_reducible refine DGuard_b _ _ _ _ _ _ _ _ (fun hc => ?_) (fun hc => ?_) <;> (try simp only [Bool.not_eq_true', Bool.not_eq_false', decide_eq_true_eq, decide_eq_false_iff_not] at hc) <;> (first | (exfalso; omega) | skip) <;> simp [-getElem?_pos, -getElem?_neg, List.getElem?_cons_zero, List.getElem?_cons_succ, rowsC, intsC, bC, iC, hkl, hlt, hri, hrk, hli, hlk, hx, hy, hb, hwk, hc])
          | (refine hother _ _ rfl ?_; simp only [inBlockA, thenA, noGotoA, Nat.reduceEqDiff, if_false, if_true, ↓reduceIte])
          | (refine hother2 _ _ rfl ?_; simp only [inBlockA, thenA, noGotoA, Nat.reduceEqDiff, if_false, if_true, ↓reduceIte])
          | (refine hother3 _ _ rfl ?_; simp only [inBlockA, thenA, noGotoA, Nat.reduceEqDiff, if_false, if_true, ↓reduceIte])
          | (refine And.intro (by omega) ?_)
          | (with_reducible change postOf _ _ _ _; simp [-getElem?_pos, -getElem?_neg, List.getElem?_cons_zero, List.getElem?_cons_succ, rowsC, intsC, bC, iC, hkl, hlt, hri, hrk, hli, hlk, hx, hy, hb, hwk])
          | fail)
        refine next2 _ () (by omega) trivial ?_; simp [rowsC, bC, iC, es]
      · repeat' (first 
          | with_reducible refine awp_scope ?_
          | with_reducible refine awp_seq ?_
          | with_reducible refine awp_block ?_
          | (with_reducible refine awp_label ?_; simp only [thenA, inBlockA, noGotoA])
          | (with_reducible refine awp_skip ?_; simp only [thenA, inBlockA, noGotoA])
          | (with_reducible refine awp_exit ?_; simp only [thenA, inBlockA, noGotoA, if_true, Nat.reduceEqDiff, if_false, ↓reduceIte])
          | (with_reducible refine awp_ret ?_; (try simp only [thenA, inBlockA, noGotoA]); (try simp [-getElem?_pos, -getElem?_neg, List.getElem?_cons_zero, List.getElem?_cons_succ, rowsC, intsC, bC, iC, hkl, hlt, hri, hrk, hli, hlk, hx, hy, hb, hwk]))
          | (with_reducible refine awp_reg 88 hX [0, 2, 3, 4, 5, 6, 7, 8, 10, 15, 22, 23, 32, 35, 41, 46, 47, 49, 61, 62, 63, 64, 65, 66, 67, 68, 69, 70, 71, 72, 73, 74] ?_; simp [-getElem?_pos, -getElem?_neg, List.getElem?_cons_zero, List.getElem?_cons_succ, rowsC, intsC, bC, iC, hkl, hlt, hri, hrk, hli, hlk, hx, hy, hb, hwk])
          | (with_reducible refine awp_drw 88 hX [0, 2, 3, 4, 5, 6, 7, 8, 10, 15, 22, 23, 32, 35, 41, 46, 47, 49, 61, 62, 63, 64, 65, 66, 67, 68, 69, 70, 71, 72, 73, 74] Tab.mixed (by kernel_rfl) ?_; simp [-getElem?_pos, -getElem?_neg, List.getElem?_cons_zero, List.getElem?_cons_succ, rowsC, intsC, bC, iC, hkl, hlt, hri, hrk, hli, hlk, hx, hy, hb, hwk])
          | (with_reducible refine awp_if_b rfl (fun hc => ?_) (fun hc => ?_) <;> (try simp [-getElem?_pos, -getElem?_neg] at hc) <;> (try (exfalso; omega)))
          | (with_reducible refine GuardK_b (fun hc => ?_) (fun hc => ?_) <;> (try simp only [Bool.not_eq_true', Bool.not_eq_false', decide_eq_true_eq, decide_eq_false_iff_not] at hc) <;> (first | (exfalso; omega) | skip) <;> simp [-getElem?_pos, -getElem?_neg, List.getElem?_cons_zero, List.getElem?_cons_succ, rowsC, intsC, bC, iC, hkl, hlt, hri, hrk, hli, hlk, hx, hy, hb, hwk, hc])
          | (with_reducible refine DGuard_b _ _ _ _ _ _ _ _ (fun hc => ?_) (fun hc => ?_) <;> (try simp only [Bool.not_eq_true', Bool.not_eq_false', decide_eq_true_eq, decide_eq_false_iff_not] at hc) <;> (first | (exfalso; omega) | skip) <;> simp [-getElem?_pos, -getElem?_neg, List.getElem?_cons_zero, List.getElem?_cons_succ, rowsC, intsC, bC, iC, hkl, hlt, hri, hrk, hli, hlk, hx, hy, hb, hwk, hc])
          | (refine hother _ _ rfl ?_; simp only [inBlockA, thenA, noGotoA, Nat.reduceEqDiff, if_false, if_true, ↓reduceIte])
          | (refine hother2 _ _ rfl ?_; simp only [inBlockA, thenA, noGotoA, Nat.reduceEqDiff, if_false, if_true, ↓reduceIte])
          | (refine hother3 _ _ rfl ?_; simp only [inBlockA, thenA, noGotoA, Nat.reduceEqDiff, if_false, if_true, ↓reduceIte])
          | (refine And.intro (by omega) ?_)
          | (with_reducible change postOf _ _ _ _; simp [-getElem?_pos, -getElem?_neg, List.getElem?_cons_zero, List.getElem?_cons_succ, rowsC, intsC, bC, iC, hkl, hlt, hri, hrk, hli, hlk, hx, hy, hb, hwk])
          | fail)
        all_goals
          refine next2 _ () (by omega) trivial ?_
          simp [rowsC, bC, iC, es, ep]
        all_goals first
          | omega
          | (rw [Bool.eq_iff_iff]; simp; omega)
    · have hkv : k = v.length := by omega
      subst hkv
      repeat' (first 
        | with_reducible refine awp_scope ?_
        | with_reducible refine awp_seq ?_
        | with_reducible refine awp_block ?_
        | (with_reducible refine awp_label ?_; simp only [thenA, inBlockA, noGotoA])
        | (with_reducible refine awp_skip ?_; simp only [thenA, inBlockA, noGotoA])
        | (with_reducible refine awp_exit ?_; simp only [thenA, inBlockA, noGotoA, if_true, Nat.reduceEqDiff, if_false, ↓reduceIte])
        | (with_reducible refine awp_ret ?_; (try simp only [thenA, inBlockA, noGotoA]); (try simp [-getElem?_pos, -getElem?_neg, List.getElem?_cons_zero, List.getElem?_cons_succ, rowsC, intsC, bC, iC, hkl, hwi]))
        | (with_reducible refine awp_reg 88 hX [0, 2, 3, 4, 5, 6, 7, 8, 10, 15, 22, 23, 32, 35, 41, 46, 47, 49, 61, 62, 63, 64, 65, 66, 67, 68, 69, 70, 71, 72, 73, 74] ?_; simp [-getElem?_pos, -getElem?_neg, List.getElem?_cons_zero, List.getElem?_cons_succ, rowsC, intsC, bC, iC, hkl, hwi])
        | (with_reducible refine awp_drw 88 hX [0, 2, 3, 4, 5, 6, 7, 8, 10, 15, 22, 23, 32, 35, 41, 46, 47, 49, 61, 62, 63, 64, 65, 66, 67, 68, 69, 70, 71, 72, 73, 74] Tab.mixed (by kernel_rfl) ?_; simp [-getElem?_pos, -getElem?_neg, List.getElem?_cons_zero, List.getElem?_cons_succ, rowsC, intsC, bC, iC, hkl, hwi])
        | (with_reducible refine awp_if_b rfl (fun hc => ?_) (fun hc => ?_) <;> (try simp [-getElem?_pos, -getElem?_neg] at hc) <;> (try (exfalso; omega)))
        | (with_reducible refine GuardK_b (fun hc => ?_) (fun hc => ?_) <;> (try simp only [Bool.not_eq_true', Bool.not_eq_false', decide_eq_true_eq, decide_eq_false_iff_not] at hc) <;> (first | (exfalso; omega) | skip) <;> simp [-getElem?_pos, -getElem?_neg, List.getElem?_cons_zero, List.getElem?_cons_succ, rowsC, intsC, bC, iC, hkl, hwi, hc])
        | (with_reducible refine DGuard_b _ _ _ _ _ _ _ _ (fun hc => ?_) (fun hc => ?_) <;> (try simp only [Bool.not_eq_true', Bool.not_eq_false', decide_eq_true_eq, decide_eq_false_iff_not] at hc) <;> (first | (exfalso; omega) | skip) <;> simp [-getElem?_pos, -getElem?_neg, List.getElem?_cons_zero, List.getElem?_cons_succ, rowsC, intsC, bC, iC, hkl, hwi, hc])
        | (refine hother _ _ rfl ?_; simp only [inBlockA, thenA, noGotoA, Nat.reduceEqDiff, if_false, if_true, ↓reduceIte])
        | (refine hother2 _ _ rfl ?_; simp only [inBlockA, thenA, noGotoA, Nat.reduceEqDiff, if_false, if_true, ↓reduceIte])
        | (refine hother3 _ _ rfl ?_; simp only [inBlockA, thenA, noGotoA, Nat.reduceEqDiff, if_false, if_true, ↓reduceIte])
        | (refine And.intro (by omega) ?_)
        | (with_reducible change postOf _ _ _ _; simp [-getElem?_pos, -getElem?_neg, List.getElem?_cons_zero, List.getElem?_cons_succ, rowsC, intsC, bC, iC, hkl, hwi])
        | fail)
      refine next _ () (by omega) trivial ?_
      unfold wantTo at hwt ⊢
      rw [all_range_succ, ← Bool.and_assoc, hwt]
      simp [rowsC, bC, iC]
  · by_cases h : i < v.length
    · have hf : wantTo v i = false := by simpa [h] using hlt
      have hw : duelB v = false := by rw [duel_want, want_false v i v.length hi hf]
      repeat' (first 
        | with_reducible refine awp_scope ?_
        | with_reducible refine awp_seq ?_
        | with_reducible refine awp_block ?_
        | (with_reducible refine awp_label ?_; simp only [thenA, inBlockA, noGotoA])
        | (with_reducible refine awp_skip ?_; simp only [thenA, inBlockA, noGotoA])
        | (with_reducible refine awp_exit ?_; simp only [thenA, inBlockA, noGotoA, if_true, Nat.reduceEqDiff, if_false, ↓reduceIte])
        | (with_reducible refine awp_ret ?_; (try simp only [thenA, inBlockA, noGotoA]); (try simp [-getElem?_pos, -getElem?_neg, List.getElem?_cons_zero, List.getElem?_cons_succ, rowsC, intsC, bC, iC, hw, hf, h]))
        | (with_reducible refine awp_reg 88 hX [0, 2, 3, 4, 5, 6, 7, 8, 10, 15, 22, 23, 32, 35, 41, 46, 47, 49, 61, 62, 63, 64, 65, 66, 67, 68, 69, 70, 71, 72, 73, 74] ?_; simp [-getElem?_pos, -getElem?_neg, List.getElem?_cons_zero, List.getElem?_cons_succ, rowsC, intsC, bC, iC, hw, hf, h])
        | (with_reducible refine awp_drw 88 hX [0, 2, 3, 4, 5, 6, 7, 8, 10, 15, 22, 23, 32, 35, 41, 46, 47, 49, 61, 62, 63, 64, 65, 66, 67, 68, 69, 70, 71, 72, 73, 74] Tab.mixed (by kernel_rfl) ?_; simp [-getElem?_pos, -getElem?_neg, List.getElem?_cons_zero, List.getElem?_cons_succ, rowsC, intsC, bC, iC, hw, hf, h])
        | (refine (duel_den _ _ (by omega)).det ?_; try simp [-getElem?_pos, -getElem?_neg, List.getElem?_cons_zero, List.getElem?_cons_succ, rowsC, intsC, bC, iC, hw, hf, h])
        | (refine ⟨_, duel_den _ _ (by omega), ?_⟩; simp [-getElem?_pos, -getElem?_neg, List.getElem?_cons_zero, List.getElem?_cons_succ, rowsC, intsC, bC, iC, hw, hf, h])
        | (refine (awake57_den _).det ?_; try simp [-getElem?_pos, -getElem?_neg, List.getElem?_cons_zero, List.getElem?_cons_succ, rowsC, intsC, bC, iC, hw, hf, h])
        | (refine ⟨_, awake57_den _, ?_⟩; simp [-getElem?_pos, -getElem?_neg, List.getElem?_cons_zero, List.getElem?_cons_succ, rowsC, intsC, bC, iC, hw, hf, h])
        | (with_reducible refine awp_if_b rfl (fun hc => ?_) (fun hc => ?_) <;> (try simp [-getElem?_pos, -getElem?_neg] at hc) <;> (try (exfalso; omega)))
        | (with_reducible refine GuardK_b (fun hc => ?_) (fun hc => ?_) <;> (try simp only [Bool.not_eq_true', Bool.not_eq_false', decide_eq_true_eq, decide_eq_false_iff_not] at hc) <;> (first | (exfalso; omega) | skip) <;> simp [-getElem?_pos, -getElem?_neg, List.getElem?_cons_zero, List.getElem?_cons_succ, rowsC, intsC, bC, iC, hw, hf, h, hc])
        | (with_reducible refine DGuard_b _ _ _ _ _ _ _ _ (fun hc => ?_) (fun hc => ?_) <;> (try simp only [Bool.not_eq_true', Bool.not_eq_false', decide_eq_true_eq, decide_eq_false_iff_not] at hc) <;> (first | (exfalso; omega) | skip) <;> simp [-getElem?_pos, -getElem?_neg, List.getElem?_cons_zero, List.getElem?_cons_succ, rowsC, intsC, bC, iC, hw, hf, h, hc])
        | (refine hother _ _ rfl ?_; simp only [inBlockA, thenA, noGotoA, Nat.reduceEqDiff, if_false, if_true, ↓reduceIte])
        | (refine hother2 _ _ rfl ?_; simp only [inBlockA, thenA, noGotoA, Nat.reduceEqDiff, if_false, if_true, ↓reduceIte])
        | (refine hother3 _ _ rfl ?_; simp only [inBlockA, thenA, noGotoA, Nat.reduceEqDiff, if_false, if_true, ↓reduceIte])
        | (refine And.intro (by omega) ?_)
        | (with_reducible change postOf _ _ _ _; simp [-getElem?_pos, -getElem?_neg, List.getElem?_cons_zero, List.getElem?_cons_succ, rowsC, intsC, bC, iC, hw, hf, h])
        | fail)
    · have hiv : i = v.length := by omega
      subst hiv
      have hw : wantTo v v.length = duelB v := (duel_want v).symm
      repeat' (first 
        | with_reducible refine awp_scope ?_
        | with_reducible refine awp_seq ?_
        | with_reducible refine awp_block ?_
        | (with_reducible refine awp_label ?_; simp only [thenA, inBlockA, noGotoA])
        | (with_reducible refine awp_skip ?_; simp only [thenA, inBlockA, noGotoA])
        | (with_reducible refine awp_exit ?_; simp only [thenA, inBlockA, noGotoA, if_true, Nat.reduceEqDiff, if_false, ↓reduceIte])
        | (with_reducible refine awp_ret ?_; (try simp only [thenA, inBlockA, noGotoA]); (try simp [-getElem?_pos, -getElem?_neg, List.getElem?_cons_zero, List.getElem?_cons_succ, rowsC, intsC, bC, iC, hw, h]))
        | (with_reducible refine awp_reg 88 hX [0, 2, 3, 4, 5, 6, 7, 8, 10, 15, 22, 23, 32, 35, 41, 46, 47, 49, 61, 62, 63, 64, 65, 66, 67, 68, 69, 70, 71, 72, 73, 74] ?_; simp [-getElem?_pos, -getElem?_neg, List.getElem?_cons_zero, List.getElem?_cons_succ, rowsC, intsC, bC, iC, hw, h])
        | (with_reducible refine awp_drw 88 hX [0, 2, 3, 4, 5, 6, 7, 8, 10, 15, 22, 23, 32, 35, 41, 46, 47, 49, 61, 62, 63, 64, 65, 66, 67, 68, 69, 70, 71, 72, 73, 74] Tab.mixed (by kernel_rfl) ?_; simp [-getElem?_pos, -getElem?_neg, List.getElem?_cons_zero, List.getElem?_cons_succ, rowsC, intsC, bC, iC, hw, h])
        | (refine (duel_den _ _ (by omega)).det ?_; try simp [-getElem?_pos, -getElem?_neg, List.getElem?_cons_zero, List.getElem?_cons_succ, rowsC, intsC, bC, iC, hw, h])
        | (refine ⟨_, duel_den _ _ (by omega), ?_⟩; simp [-getElem?_pos, -getElem?_neg, List.getElem?_cons_zero, List.getElem?_cons_succ, rowsC, intsC, bC, iC, hw, h])
        | (refine (awake57_den _).det ?_; try simp [-getElem?_pos, -getElem?_neg, List.getElem?_cons_zero, List.getElem?_cons_succ, rowsC, intsC, bC, iC, hw, h])
        | (refine ⟨_, awake57_den _, ?_⟩; simp [-getElem?_pos, -getElem?_neg, List.getElem?_cons_zero, List.getElem?_cons_succ, rowsC, intsC, bC, iC, hw, h])
        | (with_reducible refine awp_if_b rfl (fun hc => ?_) (fun hc => ?_) <;> (try simp [-getElem?_pos, -getElem?_neg] at hc) <;> (try (exfalso; omega)))
        | (with_reducible refine GuardK_b (fun hc => ?_) (fun hc => ?_) <;> (try simp only [Bool.not_eq_true', Bool.not_eq_false', decide_eq_true_eq, decide_eq_false_iff_not] at hc) <;> (first | (exfalso; omega) | skip) <;> simp [-getElem?_pos, -getElem?_neg, List.getElem?_cons_zero, List.getElem?_cons_succ, rowsC, intsC, bC, iC, hw, h, hc])
        | (with_reducible refine DGuard_b _ _ _ _ _ _ _ _ (fun hc => ?_) (fun hc => ?_) <;> (try simp only [Bool.not_eq_true', Bool.not_eq_false', decide_eq_true_eq, decide_eq_false_iff_not] at hc) <;> (first | (exfalso; omega) | skip) <;> simp [-getElem?_pos, -getElem?_neg, List.getElem?_cons_zero, List.getElem?_cons_succ, rowsC, intsC, bC, iC, hw, h, hc])
        | (refine hother _ _ rfl ?_; simp only [inBlockA, thenA, noGotoA, Nat.reduceEqDiff, if_false, if_true, ↓reduceIte])
        | (refine hother2 _ _ rfl ?_; simp only [inBlockA, thenA, noGotoA, Nat.reduceEqDiff, if_false, if_true, ↓reduceIte])
        | (refine hother3 _ _ rfl ?_; simp only [inBlockA, thenA, noGotoA, Nat.reduceEqDiff, if_false, if_true, ↓reduceIte])
        | (refine And.intro (by omega) ?_)
        | (with_reducible change postOf _ _ _ _; simp [-getElem?_pos, -getElem?_neg, List.getElem?_cons_zero, List.getElem?_cons_succ, rowsC, intsC, bC, iC, hw, h])
        | fail)
end Go.Av
