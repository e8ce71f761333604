import Derived.Test.YtfdbbkhglohkaaaAvT6
set_option linter.unusedVariables false
set_option linter.unusedSimpArgs false
namespace Go.Av
open Go Go.Proofs Go.Proofs.Ytfdbbkhglohkaaa
attribute [local simp] Try.underlying22 Try.underlying23 Try.underlying3 Try.underlying4
def rowN (v : List (List Int)) (i : Nat) : List Int := (v[i]?).getD []
def cellN (v : List (List Int)) (i k : Nat) : Int := ((rowN v i)[k]?).getD 0
def duelAt (v : List (List Int)) (i k : Nat) : Bool :=
  decide ((rowN v k).length = v.length) && (decide (cellN v i k = IntKind.i64.wrap (-cellN v k i)) && (decide (-1 ≤ cellN v i k) && decide (cellN v i k ≤ 1)))
def duelTo (v : List (List Int)) (i : Nat) (m : Nat) : Bool := (List.range m).all (duelAt v i)
def duelRow (v : List (List Int)) (i : Nat) : Bool := (decide ((rowN v i).length = v.length) && decide (cellN v i i = 0)) && duelTo v i (rowN v i).length
def duelB (v : List (List Int)) : Bool := (List.range v.length).all (duelRow v)
theorem all_range_succ (p : Nat → Bool) (m : Nat) : (List.range (m + 1)).all p = ((List.range m).all p && p m) := by
  rw [List.range_succ, List.all_append]; simp
theorem all_range_false (p : Nat → Bool) (n m : Nat) (h : m < n) (hp : p m = false) : (List.range n).all p = false := by
  rw [List.all_eq_false]
  exact ⟨m, by simpa using h, by simp [hp]⟩
set_option maxRecDepth 100000 in
set_option maxHeartbeats 4000000 in
theorem duel_den (v : List (List Int)) (ob : List Ob) (hn : v.length ≤ 1000000) : Den Try.prog 30 [.c (rowsC v)] ob (fun r ob' => r = .c (bC (duelB v)) ∧ ob' = ob) := by
  refine den_of Try.func30 rfl rfl (by simp [Try.ntmps30]) (fun X hX hO => ?_)
  rw [Try.ntmps30] at hX
  simp only [Try.results30]
  repeat' (first 
    | with_reducible refine awp_scope ?_
    | with_reducible refine awp_seq ?_
    | with_reducible refine awp_block ?_
    | (with_reducible refine awp_label ?_; simp only [thenA, inBlockA, noGotoA])
    | (with_reducible refine awp_skip ?_; simp only [thenA, inBlockA, noGotoA])
    | (with_reducible refine awp_exit ?_; simp only [thenA, inBlockA, noGotoA, if_true, Nat.reduceEqDiff, if_false, ↓reduceIte])
    | (with_reducible refine awp_ret ?_; (try simp only [thenA, inBlockA, noGotoA]); (try simp [-getElem?_pos, -getElem?_neg, List.getElem?_cons_zero, List.getElem?_cons_succ, rowsC, intsC, bC, iC]))
    | (with_reducible refine awp_reg 69 hX [0, 2, 3, 4, 5, 6, 7, 8, 9, 17, 24, 26, 27, 28, 32, 33, 37, 38, 41, 42, 43, 45, 46, 47, 48, 49, 50, 51, 52, 53, 54, 56, 57, 58, 59, 66] ?_; simp [-getElem?_pos, -getElem?_neg, List.getElem?_cons_zero, List.getElem?_cons_succ, rowsC, intsC, bC, iC])
    | (with_reducible refine awp_drw 69 hX [0, 2, 3, 4, 5, 6, 7, 8, 9, 17, 24, 26, 27, 28, 32, 33, 37, 38, 41, 42, 43, 45, 46, 47, 48, 49, 50, 51, 52, 53, 54, 56, 57, 58, 59, 66] Tab.mixed (by kernel_rfl) ?_; simp [-getElem?_pos, -getElem?_neg, List.getElem?_cons_zero, List.getElem?_cons_succ, rowsC, intsC, bC, iC])
    | (with_reducible refine awp_if_b rfl (fun hc => ?_) (fun hc => ?_) <;> (try simp [-getElem?_pos, -getElem?_neg] at hc) <;> (try (exfalso; omega)))
    | (with_reducible refine GuardK_b (fun hc => ?_) (fun hc => ?_) <;> (try simp only [Bool.not_eq_true', Bool.not_eq_false', decide_eq_true_eq, decide_eq_false_iff_not] at hc) <;> (first | (exfalso; omega) | skip) <;> simp [-getElem?_pos, -getElem?_neg, List.getElem?_cons_zero, List.getElem?_cons_succ, rowsC, intsC, bC, iC, hc])
    | (with_reducible refine DGuard_b _ _ _ _ _ _ _ _ (fun hc => ?_) (fun hc => ?_) <;> (try simp only [Bool.not_eq_true', Bool.not_eq_false', decide_eq_true_eq, decide_eq_false_iff_not] at hc) <;> (first | (exfalso; omega) | skip) <;> simp [-getElem?_pos, -getElem?_neg, List.getElem?_cons_zero, List.getElem?_cons_succ, rowsC, intsC, bC, iC, hc])
    | (refine hother _ _ rfl ?_; simp only [inBlockA, thenA, noGotoA, Nat.reduceEqDiff, if_false, if_true, ↓reduceIte])
    | (refine hother2 _ _ rfl ?_; simp only [inBlockA, thenA, noGotoA, Nat.reduceEqDiff, if_false, if_true, ↓reduceIte])
    | (refine hother3 _ _ rfl ?_; simp only [inBlockA, thenA, noGotoA, Nat.reduceEqDiff, if_false, if_true, ↓reduceIte])
    | (refine And.intro (by omega) ?_)
    | (with_reducible change postOf _ _ _ _; simp [-getElem?_pos, -getElem?_neg, List.getElem?_cons_zero, List.getElem?_cons_succ, rowsC, intsC, bC, iC])
    | fail)
  refine awp_for [0, 6, 7, 8] (fun i (_ : Unit) => ⟨[(0, .c (rowsC v)), (6, .c (rowsC v)), (7, .c (iC v.length)), (8, .c (iC i))], ob⟩) (fun i _ => (List.range i).all (duelRow v) = true) v.length () (by simp) (by simp [rowsC, intsC, iC]) ?_
  rintro i - Q1 hi hH next hother
  have hwi := wrap_in ((i : Int) + 1) (by omega)
  by_cases hlt : i < v.length
  · obtain ⟨ri, hri⟩ := getI v (i : Nat) (by omega) (by omega)
    simp only [Int.toNat_natCast] at hri
    have er : rowN v i = ri := by simp [rowN, hri]
    have bad : duelRow v i = false → duelB v = false := all_range_false _ _ _ hlt
    by_cases hlr : ri.length = v.length
    · obtain ⟨x0, hx0⟩ := getI ri (i : Nat) (by omega) (by omega)
      simp only [Int.toNat_natCast] at hx0
      have ex : cellN v i i = x0 := by simp [cellN, er, hx0]
      by_cases hz : x0 = 0
      · repeat' (first 
          | with_reducible refine awp_scope ?_
          | with_reducible refine awp_seq ?_
          | with_reducible refine awp_block ?_
          | (with_reducible refine awp_label ?_; simp only [thenA, inBlockA, noGotoA])
          | (with_reducible refine awp_skip ?_; simp only [thenA, inBlockA, noGotoA])
          | (with_reducible refine awp_exit ?_; simp only [thenA, inBlockA, noGotoA, if_true, Nat.reduceEqDiff, if_false, ↓reduceIte])
          | (with_reducible refine awp_ret ?_; (try simp only [thenA, inBlockA, noGotoA]); (try simp [-getElem?_pos, -getElem?_neg, List.getElem?_cons_zero, List.getElem?_cons_succ, rowsC, intsC, bC, iC, hlt, hri, hlr, hx0, hz]))
          | (with_reducible refine awp_reg 69 hX [0, 2, 3, 4, 5, 6, 7, 8, 9, 17, 24, 26, 27, 28, 32, 33, 37, 38, 41, 42, 43, 45, 46, 47, 48, 49, 50, 51, 52, 53, 54, 56, 57, 58, 59, 66] ?_; simp [-getElem?_pos, -getElem?_neg, List.getElem?_cons_zero, List.getElem?_cons_succ, rowsC, intsC, bC, iC, hlt, hri, hlr, hx0, hz])
          | (with_reducible refine awp_drw 69 hX [0, 2, 3, 4, 5, 6, 7, 8, 9, 17, 24, 26, 27, 28, 32, 33, 37, 38, 41, 42, 43, 45, 46, 47, 48, 49, 50, 51, 52, 53, 54, 56, 57, 58, 59, 66] Tab.mixed (by kernel_rfl) ?_; simp [-getElem?_pos, -getElem?_neg, List.getElem?_cons_zero, List.getElem?_cons_succ, rowsC, intsC, bC, iC, hlt, hri, hlr, hx0, hz])
          | (with_reducible refine awp_if_b rfl (fun hc => ?_) (fun hc => ?_) <;> (try simp [-getElem?_pos, -getElem?_neg] at hc) <;> (try (exfalso; omega)))
          | (with_reducible refine GuardK_b (fun hc => ?_) (fun hc => ?_) <;> (try simp only [Bool.not_eq_true', Bool.not_eq_false', decide_eq_true_eq, decide_eq_false_iff_not] at hc) <;> (first | (exfalso; omega) | skip) <;> simp [-getElem?_pos, -getElem?_neg, List.getElem?_cons_zero, List.getElem?_cons_succ, rowsC, intsC, bC, iC, hlt, hri, hlr, hx0, hz, hc])
          | (with_reducible refine DGuard_b _ _ _ _ _ _ _ _ (fun hc => ?_) (fun hc => ?_) <;> (try simp only [Bool.not_eq_true', Bool.not_eq_false', decide_eq_true_eq, decide_eq_false_iff_not] at hc) <;> (first | (exfalso; omega) | skip) <;> simp [-getElem?_pos, -getElem?_neg, List.getElem?_cons_zero, List.getElem?_cons_succ, rowsC, intsC, bC, iC, hlt, hri, hlr, hx0, hz, hc])
          | (refine hother _ _ rfl ?_; simp only [inBlockA, thenA, noGotoA, Nat.reduceEqDiff, if_false, if_true, ↓reduceIte])
          | (refine hother2 _ _ rfl ?_; simp only [inBlockA, thenA, noGotoA, Nat.reduceEqDiff, if_false, if_true, ↓reduceIte])
          | (refine hother3 _ _ rfl ?_; simp only [inBlockA, thenA, noGotoA, Nat.reduceEqDiff, if_false, if_true, ↓reduceIte])
          | (refine And.intro (by omega) ?_)
          | (with_reducible change postOf _ _ _ _; simp [-getElem?_pos, -getElem?_neg, List.getElem?_cons_zero, List.getElem?_cons_succ, rowsC, intsC, bC, iC, hlt, hri, hlr, hx0, hz])
          | fail)
        refine awp_for [0, 3, 4, 6, 7, 8, 26, 27] (fun k (_ : Unit) => ⟨[(0, .c (rowsC v)), (3, .c (iC i)), (4, .c (intsC ri)), (6, .c (rowsC v)), (7, .c (iC v.length)), (8, .c (iC i)), (26, .c (iC v.length)), (27, .c (iC k))], ob⟩) (fun k _ => duelTo v i k = true) v.length () (by simp [duelTo]) (by simp [rowsC, intsC, iC, hlr]) ?_
        rintro k - Q2 hk hK next2 hother2
        have hwk := wrap_in ((k : Int) + 1) (by omega)
        by_cases hkl : k < v.length
        · obtain ⟨rk, hrk⟩ := getI v (k : Nat) (by omega) (by omega)
          obtain ⟨x, hx⟩ := getI ri (k : Nat) (by omega) (by omega)
          simp only [Int.toNat_natCast] at hrk hx
          have ek : rowN v k = rk := by simp [rowN, hrk]
          have exk : cellN v i k = x := by simp [cellN, er, hx]
          have badk : duelAt v i k = false → duelB v = false := fun h => bad (by
            unfold duelRow duelTo
            rw [er, hlr, all_range_false _ _ k hkl h, Bool.and_false])
          by_cases hlk : rk.length = v.length
          · obtain ⟨y, hy⟩ := getI rk (i : Nat) (by omega) (by omega)
            simp only [Int.toNat_natCast] at hy
            have eyk : cellN v k i = y := by simp [cellN, ek, hy]
            have ed : duelAt v i k = (decide (x = IntKind.i64.wrap (-y)) && (decide (-1 ≤ x) && decide (x ≤ 1))) := by
              unfold duelAt; rw [ek, exk, eyk]; simp [hlk]
            repeat' (first 
              | with_reducible refine awp_scope ?_
              | with_reducible refine awp_seq ?_
              | with_reducible refine awp_block ?_
              | (with_reducible refine awp_label ?_; simp only [thenA, inBlockA, noGotoA])
              | (with_reducible refine awp_skip ?_; simp only [thenA, inBlockA, noGotoA])
              | (with_reducible refine awp_exit ?_; simp only [thenA, inBlockA, noGotoA, if_true, Nat.reduceEqDiff, if_false, ↓reduceIte])
              | (with_reducible refine awp_ret ?_; (try simp only [thenA, inBlockA, noGotoA]); (try simp [-getElem?_pos, -getElem?_neg, List.getElem?_cons_zero, List.getElem?_cons_succ, rowsC, intsC, bC, iC, hkl, hrk, hx, hlr, hlk, hy, hlt, hwk]))
              | (with_reducible refine awp_reg 69 hX [0, 2, 3, 4, 5, 6, 7, 8, 9, 17, 24, 26, 27, 28, 32, 33, 37, 38, 41, 42, 43, 45, 46, 47, 48, 49, 50, 51, 52, 53, 54, 56, 57, 58, 59, 66] ?_; simp [-getElem?_pos, -getElem?_neg, List.getElem?_cons_zero, List.getElem?_cons_succ, rowsC, intsC, bC, iC, hkl, hrk, hx, hlr, hlk, hy, hlt, hwk])
              | (with_reducible refine awp_drw 69 hX [0, 2, 3, 4, 5, 6, 7, 8, 9, 17, 24, 26, 27, 28, 32, 33, 37, 38, 41, 42, 43, 45, 46, 47, 48, 49, 50, 51, 52, 53, 54, 56, 57, 58, 59, 66] Tab.mixed (by kernel_rfl) ?_; simp [-getElem?_pos, -getElem?_neg, List.getElem?_cons_zero, List.getElem?_cons_succ, rowsC, intsC, bC, iC, hkl, hrk, hx, hlr, hlk, hy, hlt, hwk])
              | (with_reducible refine awp_if_b rfl (fun hc => ?_) (fun hc => ?_) <;> (try simp [-getElem?_pos, -getElem?_neg] at hc) <;> (try (exfalso; omega)))
              | (with_reducible refine GuardK_b (fun hc => ?_) (fun hc => ?_) <;> (try simp only [Bool.not_eq_true', Bool.not_eq_false', decide_eq_true_eq, decide_eq_false_iff_not] at hc) <;> (first | (exfalso; omega) | skip) <;> simp [-getElem?_pos, -getElem?_neg, List.getElem?_cons_zero, List.getElem?_cons_succ, rowsC, intsC, bC, iC, hkl, hrk, hx, hlr, hlk, hy, hlt, hwk, hc])
              | (with_reducible refine DGuard_b _ _ _ _ _ _ _ _ (fun hc => ?_) (fun hc => ?_) <;> (try simp only [Bool.not_eq_true', Bool.not_eq_false', decide_eq_true_eq, decide_eq_false_iff_not] at hc) <;> (first | (exfalso; omega) | skip) <;> simp [-getElem?_pos, -getElem?_neg, List.getElem?_cons_zero, List.getElem?_cons_succ, rowsC, intsC, bC, iC, hkl, hrk, hx, hlr, hlk, hy, hlt, hwk, hc])
              | (refine hother _ _ rfl ?_; simp only [inBlockA, thenA, noGotoA, Nat.reduceEqDiff, if_false, if_true, ↓reduceIte])
              | (refine hother2 _ _ rfl ?_; simp only [inBlockA, thenA, noGotoA, Nat.reduceEqDiff, if_false, if_true, ↓reduceIte])
              | (refine hother3 _ _ rfl ?_; simp only [inBlockA, thenA, noGotoA, Nat.reduceEqDiff, if_false, if_true, ↓reduceIte])
              | (refine And.intro (by omega) ?_)
              | (with_reducible change postOf _ _ _ _; simp [-getElem?_pos, -getElem?_neg, List.getElem?_cons_zero, List.getElem?_cons_succ, rowsC, intsC, bC, iC, hkl, hrk, hx, hlr, hlk, hy, hlt, hwk])
              | fail)
            · exact badk (by rw [ed]; simp; omega)
            · refine next2 _ () (by omega) ?_ (by simp [rowsC, intsC, iC, hlr])
              rw [duelTo, all_range_succ, ← duelTo, hK, ed]
              simp
              omega
            · exact badk (by rw [ed]; simp; omega)
            · exact badk (by rw [ed]; simp; omega)
          · repeat' (first 
              | with_reducible refine awp_scope ?_
              | with_reducible refine awp_seq ?_
              | with_reducible refine awp_block ?_
              | (with_reducible refine awp_label ?_; simp only [thenA, inBlockA, noGotoA])
              | (with_reducible refine awp_skip ?_; simp only [thenA, inBlockA, noGotoA])
              | (with_reducible refine awp_exit ?_; simp only [thenA, inBlockA, noGotoA, if_true, Nat.reduceEqDiff, if_false, ↓reduceIte])
              | (with_reducible refine awp_ret ?_; (try simp only [thenA, inBlockA, noGotoA]); (try simp [-getElem?_pos, -getElem?_neg, List.getElem?_cons_zero, List.getElem?_cons_succ, rowsC, intsC, bC, iC, hkl, hrk, hx, hlr, hlk, hlt, hwk]))
              | (with_reducible refine awp_reg 69 hX [0, 2, 3, 4, 5, 6, 7, 8, 9, 17, 24, 26, 27, 28, 32, 33, 37, 38, 41, 42, 43, 45, 46, 47, 48, 49, 50, 51, 52, 53, 54, 56, 57, 58, 59, 66] ?_; simp [-getElem?_pos, -getElem?_neg, List.getElem?_cons_zero, List.getElem?_cons_succ, rowsC, intsC, bC, iC, hkl, hrk, hx, hlr, hlk, hlt, hwk])
              | (with_reducible refine awp_drw 69 hX [0, 2, 3, 4, 5, 6, 7, 8, 9, 17, 24, 26, 27, 28, 32, 33, 37, 38, 41, 42, 43, 45, 46, 47, 48, 49, 50, 51, 52, 53, 54, 56, 57, 58, 59, 66] Tab.mixed (by kernel_rfl) ?_; simp [-getElem?_pos, -getElem?_neg, List.getElem?_cons_zero, List.getElem?_cons_succ, rowsC, intsC, bC, iC, hkl, hrk, hx, hlr, hlk, hlt, hwk])
              | (with_reducible refine awp_if_b rfl (fun hc => ?_) (fun hc => ?_) <;> (try simp [-getElem?_pos, -getElem?_neg] at hc) <;> (try (exfalso; omega)))
              | (with_reducible refine GuardK_b (fun hc => ?_) (fun hc => ?_) <;> (try simp only [Bool.not_eq_true', Bool.not_eq_false', decide_eq_true_eq, decide_eq_false_iff_not] at hc) <;> (first | (exfalso; omega) | skip) <;> simp [-getElem?_pos, -getElem?_neg, List.getElem?_cons_zero, List.getElem?_cons_succ, rowsC, intsC, bC, iC, hkl, hrk, hx, hlr, hlk, hlt, hwk, hc])
              | (with_reducible refine DGuard_b _ _ _ _ _ _ _ _ (fun hc => ?_) (fun hc => ?_) <;> (try simp only [Bool.not_eq_true', Bool.not_eq_false', decide_eq_true_eq, decide_eq_false_iff_not] at hc) <;> (first | (exfalso; omega) | skip) <;> simp [-getElem?_pos, -getElem?_neg, List.getElem?_cons_zero, List.getElem?_cons_succ, rowsC, intsC, bC, iC, hkl, hrk, hx, hlr, hlk, hlt, hwk, hc])
              | (refine hother _ _ rfl ?_; simp only [inBlockA, thenA, noGotoA, Nat.reduceEqDiff, if_false, if_true, ↓reduceIte])
              | (refine hother2 _ _ rfl ?_; simp only [inBlockA, thenA, noGotoA, Nat.reduceEqDiff, if_false, if_true, ↓reduceIte])
              | (refine hother3 _ _ rfl ?_; simp only [inBlockA, thenA, noGotoA, Nat.reduceEqDiff, if_false, if_true, ↓reduceIte])
              | (refine And.intro (by omega) ?_)
              | (with_reducible change postOf _ _ _ _; simp [-getElem?_pos, -getElem?_neg, List.getElem?_cons_zero, List.getElem?_cons_succ, rowsC, intsC, bC, iC, hkl, hrk, hx, hlr, hlk, hlt, hwk])
              | fail)
            exact badk (by unfold duelAt; rw [ek]; simp [hlk])
        · repeat' (first 
            | with_reducible refine awp_scope ?_
            | with_reducible refine awp_seq ?_
            | with_reducible refine awp_block ?_
            | (with_reducible refine awp_label ?_; simp only [thenA, inBlockA, noGotoA])
            | (with_reducible refine awp_skip ?_; simp only [thenA, inBlockA, noGotoA])
            | (with_reducible refine awp_exit ?_; simp only [thenA, inBlockA, noGotoA, if_true, Nat.reduceEqDiff, if_false, ↓reduceIte])
            | (with_reducible refine awp_ret ?_; (try simp only [thenA, inBlockA, noGotoA]); (try simp [-getElem?_pos, -getElem?_neg, List.getElem?_cons_zero, List.getElem?_cons_succ, rowsC, intsC, bC, iC, hkl, hlr, hlt, hwi]))
            | (with_reducible refine awp_reg 69 hX [0, 2, 3, 4, 5, 6, 7, 8, 9, 17, 24, 26, 27, 28, 32, 33, 37, 38, 41, 42, 43, 45, 46, 47, 48, 49, 50, 51, 52, 53, 54, 56, 57, 58, 59, 66] ?_; simp [-getElem?_pos, -getElem?_neg, List.getElem?_cons_zero, List.getElem?_cons_succ, rowsC, intsC, bC, iC, hkl, hlr, hlt, hwi])
            | (with_reducible refine awp_drw 69 hX [0, 2, 3, 4, 5, 6, 7, 8, 9, 17, 24, 26, 27, 28, 32, 33, 37, 38, 41, 42, 43, 45, 46, 47, 48, 49, 50, 51, 52, 53, 54, 56, 57, 58, 59, 66] Tab.mixed (by kernel_rfl) ?_; simp [-getElem?_pos, -getElem?_neg, List.getElem?_cons_zero, List.getElem?_cons_succ, rowsC, intsC, bC, iC, hkl, hlr, hlt, hwi])
            | (with_reducible refine awp_if_b rfl (fun hc => ?_) (fun hc => ?_) <;> (try simp [-getElem?_pos, -getElem?_neg] at hc) <;> (try (exfalso; omega)))
            | (with_reducible refine GuardK_b (fun hc => ?_) (fun hc => ?_) <;> (try simp only [Bool.not_eq_true', Bool.not_eq_false', decide_eq_true_eq, decide_eq_false_iff_not] at hc) <;> (first | (exfalso; omega) | skip) <;> simp [-getElem?_pos, -getElem?_neg, List.getElem?_cons_zero, List.getElem?_cons_succ, rowsC, intsC, bC, iC, hkl, hlr, hlt, hwi, hc])
            | (with_reducible refine DGuard_b _ _ _ _ _ _ _ _ (fun hc => ?_) (fun hc => ?_) <;> (try simp only [Bool.not_eq_true', Bool.not_eq_false', decide_eq_true_eq, decide_eq_false_iff_not] at hc) <;> (first | (exfalso; omega) | skip) <;> simp [-getElem?_pos, -getElem?_neg, List.getElem?_cons_zero, List.getElem?_cons_succ, rowsC, intsC, bC, iC, hkl, hlr, hlt, hwi, hc])
            | (refine hother _ _ rfl ?_; simp only [inBlockA, thenA, noGotoA, Nat.reduceEqDiff, if_false, if_true, ↓reduceIte])
            | (refine hother2 _ _ rfl ?_; simp only [inBlockA, thenA, noGotoA, Nat.reduceEqDiff, if_false, if_true, ↓reduceIte])
            | (refine hother3 _ _ rfl ?_; simp only [inBlockA, thenA, noGotoA, Nat.reduceEqDiff, if_false, if_true, ↓reduceIte])
            | (refine And.intro (by omega) ?_)
            | (with_reducible change postOf _ _ _ _; simp [-getElem?_pos, -getElem?_neg, List.getElem?_cons_zero, List.getElem?_cons_succ, rowsC, intsC, bC, iC, hkl, hlr, hlt, hwi])
            | fail)
          have hkv : k = v.length := by omega
          subst hkv
          refine next _ () (by omega) ?_ (by simp [rowsC, intsC, iC])
          rw [all_range_succ, hH, duelRow, er, hlr, hK, ex, hz]
          simp
      · repeat' (first 
          | with_reducible refine awp_scope ?_
          | with_reducible refine awp_seq ?_
          | with_reducible refine awp_block ?_
          | (with_reducible refine awp_label ?_; simp only [thenA, inBlockA, noGotoA])
          | (with_reducible refine awp_skip ?_; simp only [thenA, inBlockA, noGotoA])
          | (with_reducible refine awp_exit ?_; simp only [thenA, inBlockA, noGotoA, if_true, Nat.reduceEqDiff, if_false, ↓reduceIte])
          | (with_reducible refine awp_ret ?_; (try simp only [thenA, inBlockA, noGotoA]); (try simp [-getElem?_pos, -getElem?_neg, List.getElem?_cons_zero, List.getElem?_cons_succ, rowsC, intsC, bC, iC, hlt, hri, hlr, hx0, hz]))
          | (with_reducible refine awp_reg 69 hX [0, 2, 3, 4, 5, 6, 7, 8, 9, 17, 24, 26, 27, 28, 32, 33, 37, 38, 41, 42, 43, 45, 46, 47, 48, 49, 50, 51, 52, 53, 54, 56, 57, 58, 59, 66] ?_; simp [-getElem?_pos, -getElem?_neg, List.getElem?_cons_zero, List.getElem?_cons_succ, rowsC, intsC, bC, iC, hlt, hri, hlr, hx0, hz])
          | (with_reducible refine awp_drw 69 hX [0, 2, 3, 4, 5, 6, 7, 8, 9, 17, 24, 26, 27, 28, 32, 33, 37, 38, 41, 42, 43, 45, 46, 47, 48, 49, 50, 51, 52, 53, 54, 56, 57, 58, 59, 66] Tab.mixed (by kernel_rfl) ?_; simp [-getElem?_pos, -getElem?_neg, List.getElem?_cons_zero, List.getElem?_cons_succ, rowsC, intsC, bC, iC, hlt, hri, hlr, hx0, hz])
          | (with_reducible refine awp_if_b rfl (fun hc => ?_) (fun hc => ?_) <;> (try simp [-getElem?_pos, -getElem?_neg] at hc) <;> (try (exfalso; omega)))
          | (with_reducible refine GuardK_b (fun hc => ?_) (fun hc => ?_) <;> (try simp only [Bool.not_eq_true', Bool.not_eq_false', decide_eq_true_eq, decide_eq_false_iff_not] at hc) <;> (first | (exfalso; omega) | skip) <;> simp [-getElem?_pos, -getElem?_neg, List.getElem?_cons_zero, List.getElem?_cons_succ, rowsC, intsC, bC, iC, hlt, hri, hlr, hx0, hz, hc])
          | (with_reducible refine DGuard_b _ _ _ _ _ _ _ _ (fun hc => ?_) (fun hc => ?_) <;> (try simp only [Bool.not_eq_true', Bool.not_eq_false', decide_eq_true_eq, decide_eq_false_iff_not] at hc) <;> (first | (exfalso; omega) | skip) <;> simp [-getElem?_pos, -getElem?_neg, List.getElem?_cons_zero, List.getElem?_cons_succ, rowsC, intsC, bC, iC, hlt, hri, hlr, hx0, hz, hc])
          | (refine hother _ _ rfl ?_; simp only [inBlockA, thenA, noGotoA, Nat.reduceEqDiff, if_false, if_true, ↓reduceIte])
          | (refine hother2 _ _ rfl ?_; simp only [inBlockA, thenA, noGotoA, Nat.reduceEqDiff, if_false, if_true, ↓reduceIte])
          | (refine hother3 _ _ rfl ?_; simp only [inBlockA, thenA, noGotoA, Nat.reduceEqDiff, if_false, if_true, ↓reduceIte])
          | (refine And.intro (by omega) ?_)
          | (with_reducible change postOf _ _ _ _; simp [-getElem?_pos, -getElem?_neg, List.getElem?_cons_zero, List.getElem?_cons_succ, rowsC, intsC, bC, iC, hlt, hri, hlr, hx0, hz])
          | fail)
        exact bad (by unfold duelRow; rw [ex]; simp [hz])
    · repeat' (first 
        | with_reducible refine awp_scope ?_
        | with_reducible refine awp_seq ?_
        | with_reducible refine awp_block ?_
        | (with_reducible refine awp_label ?_; simp only [thenA, inBlockA, noGotoA])
        | (with_reducible refine awp_skip ?_; simp only [thenA, inBlockA, noGotoA])
        | (with_reducible refine awp_exit ?_; simp only [thenA, inBlockA, noGotoA, if_true, Nat.reduceEqDiff, if_false, ↓reduceIte])
        | (with_reducible refine awp_ret ?_; (try simp only [thenA, inBlockA, noGotoA]); (try simp [-getElem?_pos, -getElem?_neg, List.getElem?_cons_zero, List.getElem?_cons_succ, rowsC, intsC, bC, iC, hlt, hri, hlr]))
        | (with_reducible refine awp_reg 69 hX [0, 2, 3, 4, 5, 6, 7, 8, 9, 17, 24, 26, 27, 28, 32, 33, 37, 38, 41, 42, 43, 45, 46, 47, 48, 49, 50, 51, 52, 53, 54, 56, 57, 58, 59, 66] ?_; simp [-getElem?_pos, -getElem?_neg, List.getElem?_cons_zero, List.getElem?_cons_succ, rowsC, intsC, bC, iC, hlt, hri, hlr])
        | (with_reducible refine awp_drw 69 hX [0, 2, 3, 4, 5, 6, 7, 8, 9, 17, 24, 26, 27, 28, 32, 33, 37, 38, 41, 42, 43, 45, 46, 47, 48, 49, 50, 51, 52, 53, 54, 56, 57, 58, 59, 66] Tab.mixed (by kernel_rfl) ?_; simp [-getElem?_pos, -getElem?_neg, List.getElem?_cons_zero, List.getElem?_cons_succ, rowsC, intsC, bC, iC, hlt, hri, hlr])
        | (with_reducible refine awp_if_b rfl (fun hc => ?_) (fun hc => ?_) <;> (try simp [-getElem?_pos, -getElem?_neg] at hc) <;> (try (exfalso; omega)))
        | (with_reducible refine GuardK_b (fun hc => ?_) (fun hc => ?_) <;> (try simp only [Bool.not_eq_true', Bool.not_eq_false', decide_eq_true_eq, decide_eq_false_iff_not] at hc) <;> (first | (exfalso; omega) | skip) <;> simp [-getElem?_pos, -getElem?_neg, List.getElem?_cons_zero, List.getElem?_cons_succ, rowsC, intsC, bC, iC, hlt, hri, hlr, hc])
        | (with_reducible refine DGuard_b _ _ _ _ _ _ _ _ (fun hc => ?_) (fun hc => ?_) <;> (try simp only [Bool.not_eq_true', Bool.not_eq_false', decide_eq_true_eq, decide_eq_false_iff_not] at hc) <;> (first | (exfalso; omega) | skip) <;> simp [-getElem?_pos, -getElem?_neg, List.getElem?_cons_zero, List.getElem?_cons_succ, rowsC, intsC, bC, iC, hlt, hri, hlr, hc])
        | (refine hother _ _ rfl ?_; simp only [inBlockA, thenA, noGotoA, Nat.reduceEqDiff, if_false, if_true, ↓reduceIte])
        | (refine hother2 _ _ rfl ?_; simp only [inBlockA, thenA, noGotoA, Nat.reduceEqDiff, if_false, if_true, ↓reduceIte])
        | (refine hother3 _ _ rfl ?_; simp only [inBlockA, thenA, noGotoA, Nat.reduceEqDiff, if_false, if_true, ↓reduceIte])
        | (refine And.intro (by omega) ?_)
        | (with_reducible change postOf _ _ _ _; simp [-getElem?_pos, -getElem?_neg, List.getElem?_cons_zero, List.getElem?_cons_succ, rowsC, intsC, bC, iC, hlt, hri, hlr])
        | fail)
      exact bad (by unfold duelRow; rw [er]; simp [hlr])
  · repeat' (first 
      | with_reducible refine awp_scope ?_
      | with_reducible refine awp_seq ?_
      | with_reducible refine awp_block ?_
      | (with_reducible refine awp_label ?_; simp only [thenA, inBlockA, noGotoA])
      | (with_reducible refine awp_skip ?_; simp only [thenA, inBlockA, noGotoA])
      | (with_reducible refine awp_exit ?_; simp only [thenA, inBlockA, noGotoA, if_true, Nat.reduceEqDiff, if_false, ↓reduceIte])
      | (with_reducible refine awp_ret ?_; (try simp only [thenA, inBlockA, noGotoA]); (try simp [-getElem?_pos, -getElem?_neg, List.getElem?_cons_zero, List.getElem?_cons_succ, rowsC, intsC, bC, iC, hlt]))
      | (with_reducible refine awp_reg 69 hX [0, 2, 3, 4, 5, 6, 7, 8, 9, 17, 24, 26, 27, 28, 32, 33, 37, 38, 41, 42, 43, 45, 46, 47, 48, 49, 50, 51, 52, 53, 54, 56, 57, 58, 59, 66] ?_; simp [-getElem?_pos, -getElem?_neg, List.getElem?_cons_zero, List.getElem?_cons_succ, rowsC, intsC, bC, iC, hlt])
      | (with_reducible refine awp_drw 69 hX [0, 2, 3, 4, 5, 6, 7, 8, 9, 17, 24, 26, 27, 28, 32, 33, 37, 38, 41, 42, 43, 45, 46, 47, 48, 49, 50, 51, 52, 53, 54, 56, 57, 58, 59, 66] Tab.mixed (by kernel_rfl) ?_; simp [-getElem?_pos, -getElem?_neg, List.getElem?_cons_zero, List.getElem?_cons_succ, rowsC, intsC, bC, iC, hlt])
      | (with_reducible refine awp_if_b rfl (fun hc => ?_) (fun hc => ?_) <;> (try simp [-getElem?_pos, -getElem?_neg] at hc) <;> (try (exfalso; omega)))
      | (with_reducible refine GuardK_b (fun hc => ?_) (fun hc => ?_) <;> (try simp only [Bool.not_eq_true', Bool.not_eq_false', decide_eq_true_eq, decide_eq_false_iff_not] at hc) <;> (first | (exfalso; omega) | skip) <;> simp [-getElem?_pos, -getElem?_neg, List.getElem?_cons_zero, List.getElem?_cons_succ, rowsC, intsC, bC, iC, hlt, hc])
      | (with_reducible refine DGuard_b _ _ _ _ _ _ _ _ (fun hc => ?_) (fun hc => ?_) <;> (try simp only [Bool.not_eq_true', Bool.not_eq_false', decide_eq_true_eq, decide_eq_false_iff_not] at hc) <;> (first | (exfalso; omega) | skip) <;> simp [-getElem?_pos, -getElem?_neg, List.getElem?_cons_zero, List.getElem?_cons_succ, rowsC, intsC, bC, iC, hlt, hc])
      | (refine hother _ _ rfl ?_; simp only [inBlockA, thenA, noGotoA, Nat.reduceEqDiff, if_false, if_true, ↓reduceIte])
      | (refine hother2 _ _ rfl ?_; simp only [inBlockA, thenA, noGotoA, Nat.reduceEqDiff, if_false, if_true, ↓reduceIte])
      | (refine hother3 _ _ rfl ?_; simp only [inBlockA, thenA, noGotoA, Nat.reduceEqDiff, if_false, if_true, ↓reduceIte])
      | (refine And.intro (by omega) ?_)
      | (with_reducible change postOf _ _ _ _; simp [-getElem?_pos, -getElem?_neg, List.getElem?_cons_zero, List.getElem?_cons_succ, rowsC, intsC, bC, iC, hlt])
      | fail)
    have hiv : i = v.length := by omega
    rw [duelB, ← hiv, hH]
end Go.Av
