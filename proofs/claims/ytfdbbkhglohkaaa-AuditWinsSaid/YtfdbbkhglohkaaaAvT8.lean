import Derived.Test.YtfdbbkhglohkaaaAvT7
set_option linter.unusedVariables false
set_option linter.unusedSimpArgs false
namespace Go.Av
open Go Go.Proofs Go.Proofs.Ytfdbbkhglohkaaa
attribute [local simp] Try.underlying22 Try.underlying23 Try.underlying3 Try.underlying4 Try.underlying40 Try.underlying9
def sC (s : ByteArray) : C := .v (.string s)
def strsC (l : List ByteArray) : C := .sl (l.map sC) l.length false
def less (a b : ByteArray) : Bool := Op.bytesLess a.toList b.toList
def winsAll (v : List (List Int)) (m : Nat) : List Int := (List.range m).map fun (i : Nat) => (winsTo v i v.length : Int)
theorem winsAll_succ (v : List (List Int)) (m : Nat) : winsAll v (m + 1) = winsAll v m ++ [(winsTo v m v.length : Int)] := by
  simp [winsAll, List.range_succ]
theorem winsAll_len (v : List (List Int)) (m : Nat) : (winsAll v m).length = m := by simp [winsAll]
theorem winsAll_get (v : List (List Int)) (m i : Nat) (h : i < m) : (winsAll v m)[i]? = some (winsTo v i v.length : Int) := by simp [winsAll, h]
set_option maxRecDepth 100000 in
set_option maxHeartbeats 4000000 in
theorem cupWins_own (v : List (List Int)) (ob : List Ob) (hn : v.length ≤ 1000000) : Den Try.prog 54 [.c (rowsC v)] ob (fun r ob' => ∃ g o, r = .ms ob.length g 0 (winsAll v v.length).length ∧ ob' = ob ++ [o] ∧ o.gen = g ∧ o.cs = up ((winsAll v v.length).map iC)) := by
  refine den_of Try.func54 rfl rfl (by simp [Try.ntmps54]) (fun X hX hO => ?_)
  rw [Try.ntmps54] at hX
  simp only [Try.results54]
  generalize hQ : (fun (r : M) (ob' : List Ob) => ∃ g o, r = .ms ob.length g 0 (winsAll v v.length).length ∧ ob' = ob ++ [o] ∧ o.gen = g ∧ o.cs = up ((winsAll v v.length).map iC)) = Q
  repeat' (first 
    | with_reducible refine awp_scope ?_
    | with_reducible refine awp_seq ?_
    | with_reducible refine awp_block ?_
    | (with_reducible refine awp_label ?_; simp only [thenA, inBlockA, noGotoA])
    | (with_reducible refine awp_skip ?_; simp only [thenA, inBlockA, noGotoA])
    | (with_reducible refine awp_exit ?_; simp only [thenA, inBlockA, noGotoA, if_true, Nat.reduceEqDiff, if_false, ↓reduceIte])
    | (with_reducible refine awp_ret ?_; (try simp only [thenA, inBlockA, noGotoA]); (try simp [-getElem?_pos, -getElem?_neg, List.getElem?_cons_zero, List.getElem?_cons_succ, rowsC, iC]))
    | (with_reducible refine awp_reg 35 hX [0, 2, 3, 4, 5, 6, 8, 9, 10, 13, 14, 15, 19, 25] ?_; simp [-getElem?_pos, -getElem?_neg, List.getElem?_cons_zero, List.getElem?_cons_succ, rowsC, iC])
    | (with_reducible refine awp_drw 35 hX [0, 2, 3, 4, 5, 6, 8, 9, 10, 13, 14, 15, 19, 25] Tab.mixed (by kernel_rfl) ?_; simp [-getElem?_pos, -getElem?_neg, List.getElem?_cons_zero, List.getElem?_cons_succ, rowsC, iC])
    | (with_reducible refine awp_if_b rfl (fun hc => ?_) (fun hc => ?_) <;> (try simp [-getElem?_pos, -getElem?_neg] at hc) <;> (try (exfalso; omega)))
    | (with_reducible refine GuardK_b (fun hc => ?_) (fun hc => ?_) <;> (try simp only [Bool.not_eq_true', Bool.not_eq_false', decide_eq_true_eq, decide_eq_false_iff_not] at hc) <;> (first | (exfalso; omega) | skip) <;> simp [-getElem?_pos, -getElem?_neg, List.getElem?_cons_zero, List.getElem?_cons_succ, rowsC, iC, hc])
    | (with_reducible refine DGuard_b _ _ _ _ _ _ _ _ (fun hc => ?_) (fun hc => ?_) <;> (try simp only [Bool.not_eq_true', Bool.not_eq_false', decide_eq_true_eq, decide_eq_false_iff_not] at hc) <;> (first | (exfalso; omega) | skip) <;> simp [-getElem?_pos, -getElem?_neg, List.getElem?_cons_zero, List.getElem?_cons_succ, rowsC, iC, hc])
    | (refine hother _ _ rfl ?_; simp only [inBlockA, thenA, noGotoA, Nat.reduceEqDiff, if_false, if_true, ↓reduceIte])
    | (refine hother2 _ _ rfl ?_; simp only [inBlockA, thenA, noGotoA, Nat.reduceEqDiff, if_false, if_true, ↓reduceIte])
    | (refine hother3 _ _ rfl ?_; simp only [inBlockA, thenA, noGotoA, Nat.reduceEqDiff, if_false, if_true, ↓reduceIte])
    | (refine And.intro (by omega) ?_)
    | (with_reducible change postOf _ _ _ _; simp [-getElem?_pos, -getElem?_neg, List.getElem?_cons_zero, List.getElem?_cons_succ, rowsC, iC])
    | fail)
  refine awp_nil 3 3 1 (by simp) ?_
  simp
  refine awp_for [0, 3, 8, 9] (fun i (p : Nat × Bool) => ⟨[(0, .c (rowsC v)), (3, .ms ob.length p.1 0 (winsAll v i).length), (8, .c (iC v.length)), (9, .c (iC i))], ob ++ [⟨3, 1, p.2, p.1, up ((winsAll v i).map iC), none⟩]⟩) (fun i _ => True) v.length (0, true) trivial (by simp [rowsC, winsAll, iC, up]) ?_
  rintro i ⟨g, b⟩ Q1 hi - next hother
  have hwi := wrap_in ((i : Int) + 1) (by omega)
  have hl := winsAll_len v i
  by_cases hlt : i < v.length
  · repeat' (first 
      | with_reducible refine awp_scope ?_
      | with_reducible refine awp_seq ?_
      | with_reducible refine awp_block ?_
      | (with_reducible refine awp_label ?_; simp only [thenA, inBlockA, noGotoA])
      | (with_reducible refine awp_skip ?_; simp only [thenA, inBlockA, noGotoA])
      | (with_reducible refine awp_exit ?_; simp only [thenA, inBlockA, noGotoA, if_true, Nat.reduceEqDiff, if_false, ↓reduceIte])
      | (with_reducible refine awp_ret ?_; (try simp only [thenA, inBlockA, noGotoA]); (try simp [-getElem?_pos, -getElem?_neg, List.getElem?_cons_zero, List.getElem?_cons_succ, rowsC, iC, bC, hlt, hl]))
      | (with_reducible refine awp_reg 35 hX [0, 2, 3, 4, 5, 6, 8, 9, 10, 13, 14, 15, 19, 25] ?_; simp [-getElem?_pos, -getElem?_neg, List.getElem?_cons_zero, List.getElem?_cons_succ, rowsC, iC, bC, hlt, hl])
      | (with_reducible refine awp_drw 35 hX [0, 2, 3, 4, 5, 6, 8, 9, 10, 13, 14, 15, 19, 25] Tab.mixed (by kernel_rfl) ?_; simp [-getElem?_pos, -getElem?_neg, List.getElem?_cons_zero, List.getElem?_cons_succ, rowsC, iC, bC, hlt, hl])
      | (with_reducible refine awp_if_b rfl (fun hc => ?_) (fun hc => ?_) <;> (try simp [-getElem?_pos, -getElem?_neg] at hc) <;> (try (exfalso; omega)))
      | (with_reducible refine GuardK_b (fun hc => ?_) (fun hc => ?_) <;> (try simp only [Bool.not_eq_true', Bool.not_eq_false', decide_eq_true_eq, decide_eq_false_iff_not] at hc) <;> (first | (exfalso; omega) | skip) <;> simp [-getElem?_pos, -getElem?_neg, List.getElem?_cons_zero, List.getElem?_cons_succ, rowsC, iC, bC, hlt, hl, hc])
      | (with_reducible refine DGuard_b _ _ _ _ _ _ _ _ (fun hc => ?_) (fun hc => ?_) <;> (try simp only [Bool.not_eq_true', Bool.not_eq_false', decide_eq_true_eq, decide_eq_false_iff_not] at hc) <;> (first | (exfalso; omega) | skip) <;> simp [-getElem?_pos, -getElem?_neg, List.getElem?_cons_zero, List.getElem?_cons_succ, rowsC, iC, bC, hlt, hl, hc])
      | (refine hother _ _ rfl ?_; simp only [inBlockA, thenA, noGotoA, Nat.reduceEqDiff, if_false, if_true, ↓reduceIte])
      | (refine hother2 _ _ rfl ?_; simp only [inBlockA, thenA, noGotoA, Nat.reduceEqDiff, if_false, if_true, ↓reduceIte])
      | (refine hother3 _ _ rfl ?_; simp only [inBlockA, thenA, noGotoA, Nat.reduceEqDiff, if_false, if_true, ↓reduceIte])
      | (refine And.intro (by omega) ?_)
      | (with_reducible change postOf _ _ _ _; simp [-getElem?_pos, -getElem?_neg, List.getElem?_cons_zero, List.getElem?_cons_succ, rowsC, iC, bC, hlt, hl])
      | fail)
    refine awp_for [0, 3, 4, 5, 8, 9, 13, 14] (fun k (_ : Unit) => ⟨[(0, .c (rowsC v)), (3, .ms ob.length g 0 i), (4, .c (iC i)), (5, .c (iC (winsTo v i k))), (8, .c (iC v.length)), (9, .c (iC i)), (13, .c (iC v.length)), (14, .c (iC k))], ob ++ [⟨3, 1, b, g, up ((winsAll v i).map iC), none⟩]⟩) (fun _ _ => True) v.length () trivial (by simp [rowsC, iC, winsTo]) ?_
    rintro k - Q2 hk - next2 hother2
    have hw := winsTo_le v i k
    have hwk := wrap_in ((k : Int) + 1) (by omega)
    have hww := wrap_in ((winsTo v i k : Int) + 1) (by omega)
    have hs := winsTo_succ v i k
    by_cases hkl : k < v.length
    · repeat' (first 
        | with_reducible refine awp_scope ?_
        | with_reducible refine awp_seq ?_
        | with_reducible refine awp_block ?_
        | (with_reducible refine awp_label ?_; simp only [thenA, inBlockA, noGotoA])
        | (with_reducible refine awp_skip ?_; simp only [thenA, inBlockA, noGotoA])
        | (with_reducible refine awp_exit ?_; simp only [thenA, inBlockA, noGotoA, if_true, Nat.reduceEqDiff, if_false, ↓reduceIte])
        | (with_reducible refine awp_ret ?_; (try simp only [thenA, inBlockA, noGotoA]); (try simp [-getElem?_pos, -getElem?_neg, List.getElem?_cons_zero, List.getElem?_cons_succ, rowsC, iC, bC, hwk, hww, hkl]))
        | (with_reducible refine awp_reg 35 hX [0, 2, 3, 4, 5, 6, 8, 9, 10, 13, 14, 15, 19, 25] ?_; simp [-getElem?_pos, -getElem?_neg, List.getElem?_cons_zero, List.getElem?_cons_succ, rowsC, iC, bC, hwk, hww, hkl])
        | (with_reducible refine awp_drw 35 hX [0, 2, 3, 4, 5, 6, 8, 9, 10, 13, 14, 15, 19, 25] Tab.mixed (by kernel_rfl) ?_; simp [-getElem?_pos, -getElem?_neg, List.getElem?_cons_zero, List.getElem?_cons_succ, rowsC, iC, bC, hwk, hww, hkl])
        | (refine (beats_den _ _ _ _).det ?_; try simp [-getElem?_pos, -getElem?_neg, List.getElem?_cons_zero, List.getElem?_cons_succ, rowsC, iC, bC, hwk, hww, hkl])
        | (refine ⟨_, beats_den _ _ _ _, ?_⟩; simp [-getElem?_pos, -getElem?_neg, List.getElem?_cons_zero, List.getElem?_cons_succ, rowsC, iC, bC, hwk, hww, hkl])
        | (with_reducible refine awp_if_b rfl (fun hc => ?_) (fun hc => ?_) <;> (try simp [-getElem?_pos, -getElem?_neg] at hc) <;> (try (exfalso; omega)))
        | (with_reducible refine GuardK_b (fun hc => ?_) (fun hc => ?_) <;> (try simp only [Bool.not_eq_true', Bool.not_eq_false', decide_eq_true_eq, decide_eq_false_iff_not] at hc) <;> (first | (exfalso; omega) | skip) <;> simp [-getElem?_pos, -getElem?_neg, List.getElem?_cons_zero, List.getElem?_cons_succ, rowsC, iC, bC, hwk, hww, hkl, hc])
        | (with_reducible refine DGuard_b _ _ _ _ _ _ _ _ (fun hc => ?_) (fun hc => ?_) <;> (try simp only [Bool.not_eq_true', Bool.not_eq_false', decide_eq_true_eq, decide_eq_false_iff_not] at hc) <;> (first | (exfalso; omega) | skip) <;> simp [-getElem?_pos, -getElem?_neg, List.getElem?_cons_zero, List.getElem?_cons_succ, rowsC, iC, bC, hwk, hww, hkl, hc])
        | (refine hother _ _ rfl ?_; simp only [inBlockA, thenA, noGotoA, Nat.reduceEqDiff, if_false, if_true, ↓reduceIte])
        | (refine hother2 _ _ rfl ?_; simp only [inBlockA, thenA, noGotoA, Nat.reduceEqDiff, if_false, if_true, ↓reduceIte])
        | (refine hother3 _ _ rfl ?_; simp only [inBlockA, thenA, noGotoA, Nat.reduceEqDiff, if_false, if_true, ↓reduceIte])
        | (refine And.intro (by omega) ?_)
        | (with_reducible change postOf _ _ _ _; simp [-getElem?_pos, -getElem?_neg, List.getElem?_cons_zero, List.getElem?_cons_succ, rowsC, iC, bC, hwk, hww, hkl])
        | fail)
      · refine next2 _ () (by omega) trivial ?_; simp_all [rowsC, iC]
      · refine next2 _ () (by omega) trivial ?_; simp_all [rowsC, iC]
      · refine next2 _ () (by omega) trivial ?_; simp_all [rowsC, iC]
    · have hkv : k = v.length := by omega
      subst hkv
      repeat' (first 
        | with_reducible refine awp_scope ?_
        | with_reducible refine awp_seq ?_
        | with_reducible refine awp_block ?_
        | (with_reducible refine awp_label ?_; simp only [thenA, inBlockA, noGotoA])
        | (with_reducible refine awp_skip ?_; simp only [thenA, inBlockA, noGotoA])
        | (with_reducible refine awp_exit ?_; simp only [thenA, inBlockA, noGotoA, if_true, Nat.reduceEqDiff, if_false, ↓reduceIte])
        | (with_reducible refine awp_ret ?_; (try simp only [thenA, inBlockA, noGotoA]); (try simp [-getElem?_pos, -getElem?_neg, List.getElem?_cons_zero, List.getElem?_cons_succ, rowsC, iC, bC, hwi, hkl, hl, roomB]))
        | (with_reducible refine awp_reg 35 hX [0, 2, 3, 4, 5, 6, 8, 9, 10, 13, 14, 15, 19, 25] ?_; simp [-getElem?_pos, -getElem?_neg, List.getElem?_cons_zero, List.getElem?_cons_succ, rowsC, iC, bC, hwi, hkl, hl, roomB])
        | (with_reducible refine awp_drw 35 hX [0, 2, 3, 4, 5, 6, 8, 9, 10, 13, 14, 15, 19, 25] Tab.mixed (by kernel_rfl) ?_; simp [-getElem?_pos, -getElem?_neg, List.getElem?_cons_zero, List.getElem?_cons_succ, rowsC, iC, bC, hwi, hkl, hl, roomB])
        | (with_reducible refine awp_if_b rfl (fun hc => ?_) (fun hc => ?_) <;> (try simp [-getElem?_pos, -getElem?_neg] at hc) <;> (try (exfalso; omega)))
        | (with_reducible refine GuardK_b (fun hc => ?_) (fun hc => ?_) <;> (try simp only [Bool.not_eq_true', Bool.not_eq_false', decide_eq_true_eq, decide_eq_false_iff_not] at hc) <;> (first | (exfalso; omega) | skip) <;> simp [-getElem?_pos, -getElem?_neg, List.getElem?_cons_zero, List.getElem?_cons_succ, rowsC, iC, bC, hwi, hkl, hl, roomB, hc])
        | (with_reducible refine DGuard_b _ _ _ _ _ _ _ _ (fun hc => ?_) (fun hc => ?_) <;> (try simp only [Bool.not_eq_true', Bool.not_eq_false', decide_eq_true_eq, decide_eq_false_iff_not] at hc) <;> (first | (exfalso; omega) | skip) <;> simp [-getElem?_pos, -getElem?_neg, List.getElem?_cons_zero, List.getElem?_cons_succ, rowsC, iC, bC, hwi, hkl, hl, roomB, hc])
        | (refine hother _ _ rfl ?_; simp only [inBlockA, thenA, noGotoA, Nat.reduceEqDiff, if_false, if_true, ↓reduceIte])
        | (refine hother2 _ _ rfl ?_; simp only [inBlockA, thenA, noGotoA, Nat.reduceEqDiff, if_false, if_true, ↓reduceIte])
        | (refine hother3 _ _ rfl ?_; simp only [inBlockA, thenA, noGotoA, Nat.reduceEqDiff, if_false, if_true, ↓reduceIte])
        | (refine And.intro (by omega) ?_)
        | (with_reducible change postOf _ _ _ _; simp [-getElem?_pos, -getElem?_neg, List.getElem?_cons_zero, List.getElem?_cons_succ, rowsC, iC, bC, hwi, hkl, hl, roomB])
        | fail)
      refine next _ (g + 1, false) (by omega) trivial ?_
      rw [winsAll_succ]
      simp [rowsC, iC, hl]
  · repeat' (first 
      | with_reducible refine awp_scope ?_
      | with_reducible refine awp_seq ?_
      | with_reducible refine awp_block ?_
      | (with_reducible refine awp_label ?_; simp only [thenA, inBlockA, noGotoA])
      | (with_reducible refine awp_skip ?_; simp only [thenA, inBlockA, noGotoA])
      | (with_reducible refine awp_exit ?_; simp only [thenA, inBlockA, noGotoA, if_true, Nat.reduceEqDiff, if_false, ↓reduceIte])
      | (with_reducible refine awp_ret ?_; (try simp only [thenA, inBlockA, noGotoA]); (try simp [-getElem?_pos, -getElem?_neg, List.getElem?_cons_zero, List.getElem?_cons_succ, rowsC, iC, bC, hlt]))
      | (with_reducible refine awp_reg 35 hX [0, 2, 3, 4, 5, 6, 8, 9, 10, 13, 14, 15, 19, 25] ?_; simp [-getElem?_pos, -getElem?_neg, List.getElem?_cons_zero, List.getElem?_cons_succ, rowsC, iC, bC, hlt])
      | (with_reducible refine awp_drw 35 hX [0, 2, 3, 4, 5, 6, 8, 9, 10, 13, 14, 15, 19, 25] Tab.mixed (by kernel_rfl) ?_; simp [-getElem?_pos, -getElem?_neg, List.getElem?_cons_zero, List.getElem?_cons_succ, rowsC, iC, bC, hlt])
      | (with_reducible refine awp_if_b rfl (fun hc => ?_) (fun hc => ?_) <;> (try simp [-getElem?_pos, -getElem?_neg] at hc) <;> (try (exfalso; omega)))
      | (with_reducible refine GuardK_b (fun hc => ?_) (fun hc => ?_) <;> (try simp only [Bool.not_eq_true', Bool.not_eq_false', decide_eq_true_eq, decide_eq_false_iff_not] at hc) <;> (first | (exfalso; omega) | skip) <;> simp [-getElem?_pos, -getElem?_neg, List.getElem?_cons_zero, List.getElem?_cons_succ, rowsC, iC, bC, hlt, hc])
      | (with_reducible refine DGuard_b _ _ _ _ _ _ _ _ (fun hc => ?_) (fun hc => ?_) <;> (try simp only [Bool.not_eq_true', Bool.not_eq_false', decide_eq_true_eq, decide_eq_false_iff_not] at hc) <;> (first | (exfalso; omega) | skip) <;> simp [-getElem?_pos, -getElem?_neg, List.getElem?_cons_zero, List.getElem?_cons_succ, rowsC, iC, bC, hlt, hc])
      | (refine hother _ _ rfl ?_; simp only [inBlockA, thenA, noGotoA, Nat.reduceEqDiff, if_false, if_true, ↓reduceIte])
      | (refine hother2 _ _ rfl ?_; simp only [inBlockA, thenA, noGotoA, Nat.reduceEqDiff, if_false, if_true, ↓reduceIte])
      | (refine hother3 _ _ rfl ?_; simp only [inBlockA, thenA, noGotoA, Nat.reduceEqDiff, if_false, if_true, ↓reduceIte])
      | (refine And.intro (by omega) ?_)
      | (with_reducible change postOf _ _ _ _; simp [-getElem?_pos, -getElem?_neg, List.getElem?_cons_zero, List.getElem?_cons_succ, rowsC, iC, bC, hlt])
      | fail)
    have e : i = v.length := by omega
    subst e
    subst hQ
    exact ⟨g, _, rfl, rfl, rfl, rfl⟩
theorem cupWins_den (v : List (List Int)) (ob : List Ob) (hn : v.length ≤ 1000000) : Den Try.prog 54 [.c (rowsC v)] ob (fun r ob' => r = .c (intsC (winsAll v v.length)) ∧ ob' = ob) :=
  (cupWins_own v ob hn).freeze fun r ob' ⟨g, o, h1, h2, h3, h4⟩ => ⟨g, _, o, _, h1, h2, h3, h4, by simp [intsC], rfl⟩
def keyN (keys : List ByteArray) (i : Nat) : ByteArray := (keys[i]?).getD ByteArray.empty
def worse (keys : List ByteArray) (v : List (List Int)) (at_ i : Nat) : Bool :=
  decide (winsTo v at_ v.length < winsTo v i v.length) || (decide (winsTo v i v.length = winsTo v at_ v.length) && less (keyN keys i) (keyN keys at_))
def awins (keys : List ByteArray) (v : List (List Int)) (a : Int) : Bool :=
  (((decide (0 ≤ a) && decide (a < keys.length)) && decide (v.length = keys.length)) && (List.range v.length).all fun i => !worse keys v a.toNat i) && (tops v).all fun t => decide (t = a)
set_option maxRecDepth 100000 in
set_option maxHeartbeats 4000000 in
theorem auditWins_den (keys : List ByteArray) (v : List (List Int)) (a : Int) (ob : List Ob) (hn : v.length ≤ 1000000) : Den Try.prog 31 [.c (strsC keys), .c (rowsC v), .c (iC a)] ob (fun r ob' => r = .c (bC (awins keys v a)) ∧ ob' = ob) := by
  refine den_of Try.func31 rfl rfl (by simp [Try.ntmps31]) (fun X hX hO => ?_)
  rw [Try.ntmps31] at hX
  simp only [Try.results31]
  have hwl := winsAll_len v v.length
  by_cases h1 : 0 ≤ a ∧ a < keys.length ∧ v.length = keys.length
  · obtain ⟨h1, h2, h3⟩ := h1
    obtain ⟨n, rfl⟩ : ∃ n : Nat, a = n := ⟨a.toNat, by omega⟩
    have hnk : n < keys.length := by omega
    have e3 := h3.symm
    obtain ⟨ka, hka⟩ := getI keys (n : Nat) (by omega) (by omega)
    simp only [Int.toNat_natCast] at hka
    have eka : keyN keys n = ka := by simp [keyN, hka]
    have hwn := winsAll_get v v.length n (by omega)
    have pre : ((decide (0 ≤ (n : Int)) && decide ((n : Int) < keys.length)) && decide (v.length = keys.length)) = true := by
      simp; omega
    have hf : awins keys v n = (((List.range v.length).all fun i => !worse keys v n i) && (tops v).all fun t => decide (t = n)) := by
      unfold awins
      rw [pre]
      simp
    have htl : (tops v).length ≤ v.length := topsTo_len v _
    repeat' (first 
      | with_reducible refine awp_scope ?_
      | with_reducible refine awp_seq ?_
      | with_reducible refine awp_block ?_
      | (with_reducible refine awp_label ?_; simp only [thenA, inBlockA, noGotoA])
      | (with_reducible refine awp_skip ?_; simp only [thenA, inBlockA, noGotoA])
      | (with_reducible refine awp_exit ?_; simp only [thenA, inBlockA, noGotoA, if_true, Nat.reduceEqDiff, if_false, ↓reduceIte])
      | (with_reducible refine awp_ret ?_; (try simp only [thenA, inBlockA, noGotoA]); (try simp [-getElem?_pos, -getElem?_neg, List.getElem?_cons_zero, List.getElem?_cons_succ, strsC, rowsC, intsC, bC, iC, sC, h1, h2, e3, hwl]))
      | (with_reducible refine awp_reg 73 hX [0, 1, 2, 6, 7, 8, 9, 11, 20, 21, 27, 28, 29, 30, 31, 32, 39, 40, 41, 46, 47, 48, 50, 52, 60, 63, 64, 65, 66, 71] ?_; simp [-getElem?_pos, -getElem?_neg, List.getElem?_cons_zero, List.getElem?_cons_succ, strsC, rowsC, intsC, bC, iC, sC, h1, h2, e3, hwl])
      | (with_reducible refine awp_drw 73 hX [0, 1, 2, 6, 7, 8, 9, 11, 20, 21, 27, 28, 29, 30, 31, 32, 39, 40, 41, 46, 47, 48, 50, 52, 60, 63, 64, 65, 66, 71] Tab.mixed (by kernel_rfl) ?_; simp [-getElem?_pos, -getElem?_neg, List.getElem?_cons_zero, List.getElem?_cons_succ, strsC, rowsC, intsC, bC, iC, sC, h1, h2, e3, hwl])
      | (refine (cupWins_den _ _ (by omega)).det ?_; try simp [-getElem?_pos, -getElem?_neg, List.getElem?_cons_zero, List.getElem?_cons_succ, strsC, rowsC, intsC, bC, iC, sC, h1, h2, e3, hwl])
      | (refine ⟨_, cupWins_den _ _ (by omega), ?_⟩; simp [-getElem?_pos, -getElem?_neg, List.getElem?_cons_zero, List.getElem?_cons_succ, strsC, rowsC, intsC, bC, iC, sC, h1, h2, e3, hwl])
      | (with_reducible refine awp_if_b rfl (fun hc => ?_) (fun hc => ?_) <;> (try simp [-getElem?_pos, -getElem?_neg] at hc) <;> (try (exfalso; omega)))
      | (with_reducible refine GuardK_b (fun hc => ?_) (fun hc => ?_) <;> (try simp only [Bool.not_eq_true', Bool.not_eq_false', decide_eq_true_eq, decide_eq_false_iff_not] at hc) <;> (first | (exfalso; omega) | skip) <;> simp [-getElem?_pos, -getElem?_neg, List.getElem?_cons_zero, List.getElem?_cons_succ, strsC, rowsC, intsC, bC, iC, sC, h1, h2, e3, hwl, hc])
      | (with_reducible refine DGuard_b _ _ _ _ _ _ _ _ (fun hc => ?_) (fun hc => ?_) <;> (try simp only [Bool.not_eq_true', Bool.not_eq_false', decide_eq_true_eq, decide_eq_false_iff_not] at hc) <;> (first | (exfalso; omega) | skip) <;> simp [-getElem?_pos, -getElem?_neg, List.getElem?_cons_zero, List.getElem?_cons_succ, strsC, rowsC, intsC, bC, iC, sC, h1, h2, e3, hwl, hc])
      | (refine hother _ _ rfl ?_; simp only [inBlockA, thenA, noGotoA, Nat.reduceEqDiff, if_false, if_true, ↓reduceIte])
      | (refine hother2 _ _ rfl ?_; simp only [inBlockA, thenA, noGotoA, Nat.reduceEqDiff, if_false, if_true, ↓reduceIte])
      | (refine hother3 _ _ rfl ?_; simp only [inBlockA, thenA, noGotoA, Nat.reduceEqDiff, if_false, if_true, ↓reduceIte])
      | (refine And.intro (by omega) ?_)
      | (with_reducible change postOf _ _ _ _; simp [-getElem?_pos, -getElem?_neg, List.getElem?_cons_zero, List.getElem?_cons_succ, strsC, rowsC, intsC, bC, iC, sC, h1, h2, e3, hwl])
      | fail)
    refine awp_for [0, 1, 2, 7, 29, 30, 31] (fun i (_ : Unit) => ⟨[(0, .c (strsC keys)), (1, .c (rowsC v)), (2, .c (iC n)), (7, .c (intsC (winsAll v v.length))), (29, .c (intsC (winsAll v v.length))), (30, .c (iC v.length)), (31, .c (iC i))], ob⟩)
      (fun i _ => ((List.range i).all fun i => !worse keys v n i) = true) v.length () (by simp) (by simp [strsC, rowsC, intsC, iC, sC, hwl, e3]) ?_
    rintro i - Q1 hi hH next hother
    have hwi := wrap_in ((i : Int) + 1) (by omega)
    by_cases hlt : i < v.length
    · have hwi2 := winsAll_get v v.length i (by omega)
      obtain ⟨ki, hki⟩ := getI keys (i : Nat) (by omega) (by omega)
      simp only [Int.toNat_natCast] at hki
      have eki : keyN keys i = ki := by simp [keyN, hki]
      have bad : worse keys v n i = true → awins keys v n = false := fun h => by
        rw [hf, all_range_false _ _ i hlt (by simp [h])]; rfl
      have ew : worse keys v n i = (decide (winsTo v n v.length < winsTo v i v.length) || (decide (winsTo v i v.length = winsTo v n v.length) && less ki ka)) := by
        unfold worse; rw [eka, eki]
      cases hlb : less ki ka
      all_goals
        have hlb' := hlb
        unfold less at hlb'
        repeat' (first 
          | with_reducible refine awp_scope ?_
          | with_reducible refine awp_seq ?_
          | with_reducible refine awp_block ?_
          | (with_reducible refine awp_label ?_; simp only [thenA, inBlockA, noGotoA])
          | (with_reducible refine awp_skip ?_; simp only [thenA, inBlockA, noGotoA])
          | (with_reducible refine awp_exit ?_; simp only [thenA, inBlockA, noGotoA, if_true, Nat.reduceEqDiff, if_false, ↓reduceIte])
          | (with_reducible refine awp_ret ?_; (try simp only [thenA, inBlockA, noGotoA]); (try simp [-getElem?_pos, -getElem?_neg, List.getElem?_cons_zero, List.getElem?_cons_succ, strsC, rowsC, intsC, bC, iC, sC, hwl, e3, hlt, hwi, hwi2, hwn, hki, hka, hlb']))
          | (with_reducible refine awp_reg 73 hX [0, 1, 2, 6, 7, 8, 9, 11, 20, 21, 27, 28, 29, 30, 31, 32, 39, 40, 41, 46, 47, 48, 50, 52, 60, 63, 64, 65, 66, 71] ?_; simp [-getElem?_pos, -getElem?_neg, List.getElem?_cons_zero, List.getElem?_cons_succ, strsC, rowsC, intsC, bC, iC, sC, hwl, e3, hlt, hwi, hwi2, hwn, hki, hka, hlb'])
          | (with_reducible refine awp_drw 73 hX [0, 1, 2, 6, 7, 8, 9, 11, 20, 21, 27, 28, 29, 30, 31, 32, 39, 40, 41, 46, 47, 48, 50, 52, 60, 63, 64, 65, 66, 71] Tab.mixed (by kernel_rfl) ?_; simp [-getElem?_pos, -getElem?_neg, List.getElem?_cons_zero, List.getElem?_cons_succ, strsC, rowsC, intsC, bC, iC, sC, hwl, e3, hlt, hwi, hwi2, hwn, hki, hka, hlb'])
          | (with_reducible refine awp_if_b rfl (fun hc => ?_) (fun hc => ?_) <;> (try simp [-getElem?_pos, -getElem?_neg] at hc) <;> (try (exfalso; omega)))
          | (with_reducible refine GuardK_b (fun hc => ?_) (fun hc => ?_) <;> (try simp only [Bool.not_eq_true', Bool.not_eq_false', decide_eq_true_eq, decide_eq_false_iff_not] at hc) <;> (first | (exfalso; omega) | skip) <;> simp [-getElem?_pos, -getElem?_neg, List.getElem?_cons_zero, List.getElem?_cons_succ, strsC, rowsC, intsC, bC, iC, sC, hwl, e3, hlt, hwi, hwi2, hwn, hki, hka, hlb', hc])
          | (with_reducible refine DGuard_b _ _ _ _ _ _ _ _ (fun hc => ?_) (fun hc => ?_) <;> (try simp only [Bool.not_eq_true', Bool.not_eq_false', decide_eq_true_eq, decide_eq_false_iff_not] at hc) <;> (first | (exfalso; omega) | skip) <;> simp [-getElem?_pos, -getElem?_neg, List.getElem?_cons_zero, List.getElem?_cons_succ, strsC, rowsC, intsC, bC, iC, sC, hwl, e3, hlt, hwi, hwi2, hwn, hki, hka, hlb', hc])
          | (refine hother _ _ rfl ?_; simp only [inBlockA, thenA, noGotoA, Nat.reduceEqDiff, if_false, if_true, ↓reduceIte])
          | (refine hother2 _ _ rfl ?_; simp only [inBlockA, thenA, noGotoA, Nat.reduceEqDiff, if_false, if_true, ↓reduceIte])
          | (refine hother3 _ _ rfl ?_; simp only [inBlockA, thenA, noGotoA, Nat.reduceEqDiff, if_false, if_true, ↓reduceIte])
          | (refine And.intro (by omega) ?_)
          | (with_reducible change postOf _ _ _ _; simp [-getElem?_pos, -getElem?_neg, List.getElem?_cons_zero, List.getElem?_cons_succ, strsC, rowsC, intsC, bC, iC, sC, hwl, e3, hlt, hwi, hwi2, hwn, hki, hka, hlb'])
          | fail)
        all_goals first
          | exact bad (by rw [ew, hlb]; simp; omega)
          | (refine next _ () (by omega) ?_ (by simp [strsC, rowsC, intsC, iC, sC, hwl, e3]); rw [all_range_succ, hH, ew, hlb]; simp; omega)
    · repeat' (first 
        | with_reducible refine awp_scope ?_
        | with_reducible refine awp_seq ?_
        | with_reducible refine awp_block ?_
        | (with_reducible refine awp_label ?_; simp only [thenA, inBlockA, noGotoA])
        | (with_reducible refine awp_skip ?_; simp only [thenA, inBlockA, noGotoA])
        | (with_reducible refine awp_exit ?_; simp only [thenA, inBlockA, noGotoA, if_true, Nat.reduceEqDiff, if_false, ↓reduceIte])
        | (with_reducible refine awp_ret ?_; (try simp only [thenA, inBlockA, noGotoA]); (try simp [-getElem?_pos, -getElem?_neg, List.getElem?_cons_zero, List.getElem?_cons_succ, strsC, rowsC, intsC, bC, iC, sC, hwl, e3, hlt]))
        | (with_reducible refine awp_reg 73 hX [0, 1, 2, 6, 7, 8, 9, 11, 20, 21, 27, 28, 29, 30, 31, 32, 39, 40, 41, 46, 47, 48, 50, 52, 60, 63, 64, 65, 66, 71] ?_; simp [-getElem?_pos, -getElem?_neg, List.getElem?_cons_zero, List.getElem?_cons_succ, strsC, rowsC, intsC, bC, iC, sC, hwl, e3, hlt])
        | (with_reducible refine awp_drw 73 hX [0, 1, 2, 6, 7, 8, 9, 11, 20, 21, 27, 28, 29, 30, 31, 32, 39, 40, 41, 46, 47, 48, 50, 52, 60, 63, 64, 65, 66, 71] Tab.mixed (by kernel_rfl) ?_; simp [-getElem?_pos, -getElem?_neg, List.getElem?_cons_zero, List.getElem?_cons_succ, strsC, rowsC, intsC, bC, iC, sC, hwl, e3, hlt])
        | (with_reducible refine awp_if_b rfl (fun hc => ?_) (fun hc => ?_) <;> (try simp [-getElem?_pos, -getElem?_neg] at hc) <;> (try (exfalso; omega)))
        | (with_reducible refine GuardK_b (fun hc => ?_) (fun hc => ?_) <;> (try simp only [Bool.not_eq_true', Bool.not_eq_false', decide_eq_true_eq, decide_eq_false_iff_not] at hc) <;> (first | (exfalso; omega) | skip) <;> simp [-getElem?_pos, -getElem?_neg, List.getElem?_cons_zero, List.getElem?_cons_succ, strsC, rowsC, intsC, bC, iC, sC, hwl, e3, hlt, hc])
        | (with_reducible refine DGuard_b _ _ _ _ _ _ _ _ (fun hc => ?_) (fun hc => ?_) <;> (try simp only [Bool.not_eq_true', Bool.not_eq_false', decide_eq_true_eq, decide_eq_false_iff_not] at hc) <;> (first | (exfalso; omega) | skip) <;> simp [-getElem?_pos, -getElem?_neg, List.getElem?_cons_zero, List.getElem?_cons_succ, strsC, rowsC, intsC, bC, iC, sC, hwl, e3, hlt, hc])
        | (refine hother _ _ rfl ?_; simp only [inBlockA, thenA, noGotoA, Nat.reduceEqDiff, if_false, if_true, ↓reduceIte])
        | (refine hother2 _ _ rfl ?_; simp only [inBlockA, thenA, noGotoA, Nat.reduceEqDiff, if_false, if_true, ↓reduceIte])
        | (refine hother3 _ _ rfl ?_; simp only [inBlockA, thenA, noGotoA, Nat.reduceEqDiff, if_false, if_true, ↓reduceIte])
        | (refine And.intro (by omega) ?_)
        | (with_reducible change postOf _ _ _ _; simp [-getElem?_pos, -getElem?_neg, List.getElem?_cons_zero, List.getElem?_cons_succ, strsC, rowsC, intsC, bC, iC, sC, hwl, e3, hlt])
        | fail)
      have hiv : i = v.length := by omega
      subst hiv
      rw [hH, Bool.true_and] at hf
      repeat' (first 
        | with_reducible refine awp_scope ?_
        | with_reducible refine awp_seq ?_
        | with_reducible refine awp_block ?_
        | (with_reducible refine awp_label ?_; simp only [thenA, inBlockA, noGotoA])
        | (with_reducible refine awp_skip ?_; simp only [thenA, inBlockA, noGotoA])
        | (with_reducible refine awp_exit ?_; simp only [thenA, inBlockA, noGotoA, if_true, Nat.reduceEqDiff, if_false, ↓reduceIte])
        | (with_reducible refine awp_ret ?_; (try simp only [thenA, inBlockA, noGotoA]); (try simp [-getElem?_pos, -getElem?_neg, List.getElem?_cons_zero, List.getElem?_cons_succ, strsC, rowsC, intsC, bC, iC, sC, hwl, e3, hlt]))
        | (with_reducible refine awp_reg 73 hX [0, 1, 2, 6, 7, 8, 9, 11, 20, 21, 27, 28, 29, 30, 31, 32, 39, 40, 41, 46, 47, 48, 50, 52, 60, 63, 64, 65, 66, 71] ?_; simp [-getElem?_pos, -getElem?_neg, List.getElem?_cons_zero, List.getElem?_cons_succ, strsC, rowsC, intsC, bC, iC, sC, hwl, e3, hlt])
        | (with_reducible refine awp_drw 73 hX [0, 1, 2, 6, 7, 8, 9, 11, 20, 21, 27, 28, 29, 30, 31, 32, 39, 40, 41, 46, 47, 48, 50, 52, 60, 63, 64, 65, 66, 71] Tab.mixed (by kernel_rfl) ?_; simp [-getElem?_pos, -getElem?_neg, List.getElem?_cons_zero, List.getElem?_cons_succ, strsC, rowsC, intsC, bC, iC, sC, hwl, e3, hlt])
        | (refine (tops_den _ _ (by omega)).det ?_; try simp [-getElem?_pos, -getElem?_neg, List.getElem?_cons_zero, List.getElem?_cons_succ, strsC, rowsC, intsC, bC, iC, sC, hwl, e3, hlt])
        | (refine ⟨_, tops_den _ _ (by omega), ?_⟩; simp [-getElem?_pos, -getElem?_neg, List.getElem?_cons_zero, List.getElem?_cons_succ, strsC, rowsC, intsC, bC, iC, sC, hwl, e3, hlt])
        | (with_reducible refine awp_if_b rfl (fun hc => ?_) (fun hc => ?_) <;> (try simp [-getElem?_pos, -getElem?_neg] at hc) <;> (try (exfalso; omega)))
        | (with_reducible refine GuardK_b (fun hc => ?_) (fun hc => ?_) <;> (try simp only [Bool.not_eq_true', Bool.not_eq_false', decide_eq_true_eq, decide_eq_false_iff_not] at hc) <;> (first | (exfalso; omega) | skip) <;> simp [-getElem?_pos, -getElem?_neg, List.getElem?_cons_zero, List.getElem?_cons_succ, strsC, rowsC, intsC, bC, iC, sC, hwl, e3, hlt, hc])
        | (with_reducible refine DGuard_b _ _ _ _ _ _ _ _ (fun hc => ?_) (fun hc => ?_) <;> (try simp only [Bool.not_eq_true', Bool.not_eq_false', decide_eq_true_eq, decide_eq_false_iff_not] at hc) <;> (first | (exfalso; omega) | skip) <;> simp [-getElem?_pos, -getElem?_neg, List.getElem?_cons_zero, List.getElem?_cons_succ, strsC, rowsC, intsC, bC, iC, sC, hwl, e3, hlt, hc])
        | (refine hother _ _ rfl ?_; simp only [inBlockA, thenA, noGotoA, Nat.reduceEqDiff, if_false, if_true, ↓reduceIte])
        | (refine hother2 _ _ rfl ?_; simp only [inBlockA, thenA, noGotoA, Nat.reduceEqDiff, if_false, if_true, ↓reduceIte])
        | (refine hother3 _ _ rfl ?_; simp only [inBlockA, thenA, noGotoA, Nat.reduceEqDiff, if_false, if_true, ↓reduceIte])
        | (refine And.intro (by omega) ?_)
        | (with_reducible change postOf _ _ _ _; simp [-getElem?_pos, -getElem?_neg, List.getElem?_cons_zero, List.getElem?_cons_succ, strsC, rowsC, intsC, bC, iC, sC, hwl, e3, hlt])
        | fail)
      refine awp_for [0, 1, 2, 7, 63, 64, 65] (fun i (_ : Unit) => ⟨[(0, .c (strsC keys)), (1, .c (rowsC v)), (2, .c (iC n)), (7, .c (intsC (winsAll v v.length))), (63, .c (intsC (tops v))), (64, .c (iC (tops v).length)), (65, .c (iC i))], ob⟩)
        (fun i _ => ∀ (j : Nat) t, j < i → (tops v)[j]? = some t → t = (n : Int)) (tops v).length () (by intro j t hj; omega) (by simp [strsC, rowsC, intsC, iC, sC, hwl, e3]) ?_
      rintro k - Q2 hk hK next2 hother2
      have hwk := wrap_in ((k : Int) + 1) (by omega)
      by_cases hkl : k < (tops v).length
      · obtain ⟨t, ht⟩ := getI (tops v) (k : Nat) (by omega) (by omega)
        simp only [Int.toNat_natCast] at ht
        repeat' (first 
          | with_reducible refine awp_scope ?_
          | with_reducible refine awp_seq ?_
          | with_reducible refine awp_block ?_
          | (with_reducible refine awp_label ?_; simp only [thenA, inBlockA, noGotoA])
          | (with_reducible refine awp_skip ?_; simp only [thenA, inBlockA, noGotoA])
          | (with_reducible refine awp_exit ?_; simp only [thenA, inBlockA, noGotoA, if_true, Nat.reduceEqDiff, if_false, ↓reduceIte])
          | (with_reducible refine awp_ret ?_; (try simp only [thenA, inBlockA, noGotoA]); (try simp [-getElem?_pos, -getElem?_neg, List.getElem?_cons_zero, List.getElem?_cons_succ, strsC, rowsC, intsC, bC, iC, sC, hwl, e3, hkl, ht, hwk]))
          | (with_reducible refine awp_reg 73 hX [0, 1, 2, 6, 7, 8, 9, 11, 20, 21, 27, 28, 29, 30, 31, 32, 39, 40, 41, 46, 47, 48, 50, 52, 60, 63, 64, 65, 66, 71] ?_; simp [-getElem?_pos, -getElem?_neg, List.getElem?_cons_zero, List.getElem?_cons_succ, strsC, rowsC, intsC, bC, iC, sC, hwl, e3, hkl, ht, hwk])
          | (with_reducible refine awp_drw 73 hX [0, 1, 2, 6, 7, 8, 9, 11, 20, 21, 27, 28, 29, 30, 31, 32, 39, 40, 41, 46, 47, 48, 50, 52, 60, 63, 64, 65, 66, 71] Tab.mixed (by kernel_rfl) ?_; simp [-getElem?_pos, -getElem?_neg, List.getElem?_cons_zero, List.getElem?_cons_succ, strsC, rowsC, intsC, bC, iC, sC, hwl, e3, hkl, ht, hwk])
          | (with_reducible refine awp_if_b rfl (fun hc => ?_) (fun hc => ?_) <;> (try simp [-getElem?_pos, -getElem?_neg] at hc) <;> (try (exfalso; omega)))
          | (with_reducible refine GuardK_b (fun hc => ?_) (fun hc => ?_) <;> (try simp only [Bool.not_eq_true', Bool.not_eq_false', decide_eq_true_eq, decide_eq_false_iff_not] at hc) <;> (first | (exfalso; omega) | skip) <;> simp [-getElem?_pos, -getElem?_neg, List.getElem?_cons_zero, List.getElem?_cons_succ, strsC, rowsC, intsC, bC, iC, sC, hwl, e3, hkl, ht, hwk, hc])
          | (with_reducible refine DGuard_b _ _ _ _ _ _ _ _ (fun hc => ?_) (fun hc => ?_) <;> (try simp only [Bool.not_eq_true', Bool.not_eq_false', decide_eq_true_eq, decide_eq_false_iff_not] at hc) <;> (first | (exfalso; omega) | skip) <;> simp [-getElem?_pos, -getElem?_neg, List.getElem?_cons_zero, List.getElem?_cons_succ, strsC, rowsC, intsC, bC, iC, sC, hwl, e3, hkl, ht, hwk, hc])
          | (refine hother _ _ rfl ?_; simp only [inBlockA, thenA, noGotoA, Nat.reduceEqDiff, if_false, if_true, ↓reduceIte])
          | (refine hother2 _ _ rfl ?_; simp only [inBlockA, thenA, noGotoA, Nat.reduceEqDiff, if_false, if_true, ↓reduceIte])
          | (refine hother3 _ _ rfl ?_; simp only [inBlockA, thenA, noGotoA, Nat.reduceEqDiff, if_false, if_true, ↓reduceIte])
          | (refine And.intro (by omega) ?_)
          | (with_reducible change postOf _ _ _ _; simp [-getElem?_pos, -getElem?_neg, List.getElem?_cons_zero, List.getElem?_cons_succ, strsC, rowsC, intsC, bC, iC, sC, hwl, e3, hkl, ht, hwk])
          | fail)
        · rw [hf, List.all_eq_false]
          exact ⟨t, List.mem_of_getElem? ht, by simpa using ‹¬ t = (n : Int)›⟩
        · refine next2 _ () (by omega) ?_ (by simp [strsC, rowsC, intsC, iC, sC, hwl, e3])
          intro j u hj hu
          by_cases e : j = k
          · subst e
            rw [ht] at hu
            obtain rfl := Option.some.inj hu
            assumption
          · exact hK j u (by omega) hu
      · repeat' (first 
          | with_reducible refine awp_scope ?_
          | with_reducible refine awp_seq ?_
          | with_reducible refine awp_block ?_
          | (with_reducible refine awp_label ?_; simp only [thenA, inBlockA, noGotoA])
          | (with_reducible refine awp_skip ?_; simp only [thenA, inBlockA, noGotoA])
          | (with_reducible refine awp_exit ?_; simp only [thenA, inBlockA, noGotoA, if_true, Nat.reduceEqDiff, if_false, ↓reduceIte])
          | (with_reducible refine awp_ret ?_; (try simp only [thenA, inBlockA, noGotoA]); (try simp [-getElem?_pos, -getElem?_neg, List.getElem?_cons_zero, List.getElem?_cons_succ, strsC, rowsC, intsC, bC, iC, sC, hwl, e3, hkl]))
          | (with_reducible refine awp_reg 73 hX [0, 1, 2, 6, 7, 8, 9, 11, 20, 21, 27, 28, 29, 30, 31, 32, 39, 40, 41, 46, 47, 48, 50, 52, 60, 63, 64, 65, 66, 71] ?_; simp [-getElem?_pos, -getElem?_neg, List.getElem?_cons_zero, List.getElem?_cons_succ, strsC, rowsC, intsC, bC, iC, sC, hwl, e3, hkl])
          | (with_reducible refine awp_drw 73 hX [0, 1, 2, 6, 7, 8, 9, 11, 20, 21, 27, 28, 29, 30, 31, 32, 39, 40, 41, 46, 47, 48, 50, 52, 60, 63, 64, 65, 66, 71] Tab.mixed (by kernel_rfl) ?_; simp [-getElem?_pos, -getElem?_neg, List.getElem?_cons_zero, List.getElem?_cons_succ, strsC, rowsC, intsC, bC, iC, sC, hwl, e3, hkl])
          | (with_reducible refine awp_if_b rfl (fun hc => ?_) (fun hc => ?_) <;> (try simp [-getElem?_pos, -getElem?_neg] at hc) <;> (try (exfalso; omega)))
          | (with_reducible refine GuardK_b (fun hc => ?_) (fun hc => ?_) <;> (try simp only [Bool.not_eq_true', Bool.not_eq_false', decide_eq_true_eq, decide_eq_false_iff_not] at hc) <;> (first | (exfalso; omega) | skip) <;> simp [-getElem?_pos, -getElem?_neg, List.getElem?_cons_zero, List.getElem?_cons_succ, strsC, rowsC, intsC, bC, iC, sC, hwl, e3, hkl, hc])
          | (with_reducible refine DGuard_b _ _ _ _ _ _ _ _ (fun hc => ?_) (fun hc => ?_) <;> (try simp only [Bool.not_eq_true', Bool.not_eq_false', decide_eq_true_eq, decide_eq_false_iff_not] at hc) <;> (first | (exfalso; omega) | skip) <;> simp [-getElem?_pos, -getElem?_neg, List.getElem?_cons_zero, List.getElem?_cons_succ, strsC, rowsC, intsC, bC, iC, sC, hwl, e3, hkl, hc])
          | (refine hother _ _ rfl ?_; simp only [inBlockA, thenA, noGotoA, Nat.reduceEqDiff, if_false, if_true, ↓reduceIte])
          | (refine hother2 _ _ rfl ?_; simp only [inBlockA, thenA, noGotoA, Nat.reduceEqDiff, if_false, if_true, ↓reduceIte])
          | (refine hother3 _ _ rfl ?_; simp only [inBlockA, thenA, noGotoA, Nat.reduceEqDiff, if_false, if_true, ↓reduceIte])
          | (refine And.intro (by omega) ?_)
          | (with_reducible change postOf _ _ _ _; simp [-getElem?_pos, -getElem?_neg, List.getElem?_cons_zero, List.getElem?_cons_succ, strsC, rowsC, intsC, bC, iC, sC, hwl, e3, hkl])
          | fail)
        rw [hf, List.all_eq_true]
        intro t ht
        obtain ⟨j, hj⟩ := List.getElem?_of_mem ht
        have := hK j t (by have := (List.getElem?_eq_some_iff.1 hj).1; omega) hj
        simpa using this
  · have hf : awins keys v a = false := by
      unfold awins
      have : ((decide (0 ≤ a) && decide (a < keys.length)) && decide (v.length = keys.length)) = false := by
        simp; omega
      rw [this]; rfl
    repeat' (first 
      | with_reducible refine awp_scope ?_
      | with_reducible refine awp_seq ?_
      | with_reducible refine awp_block ?_
      | (with_reducible refine awp_label ?_; simp only [thenA, inBlockA, noGotoA])
      | (with_reducible refine awp_skip ?_; simp only [thenA, inBlockA, noGotoA])
      | (with_reducible refine awp_exit ?_; simp only [thenA, inBlockA, noGotoA, if_true, Nat.reduceEqDiff, if_false, ↓reduceIte])
      | (with_reducible refine awp_ret ?_; (try simp only [thenA, inBlockA, noGotoA]); (try simp [-getElem?_pos, -getElem?_neg, List.getElem?_cons_zero, List.getElem?_cons_succ, strsC, rowsC, intsC, bC, iC, sC, hwl, hf]))
      | (with_reducible refine awp_reg 73 hX [0, 1, 2, 6, 7, 8, 9, 11, 20, 21, 27, 28, 29, 30, 31, 32, 39, 40, 41, 46, 47, 48, 50, 52, 60, 63, 64, 65, 66, 71] ?_; simp [-getElem?_pos, -getElem?_neg, List.getElem?_cons_zero, List.getElem?_cons_succ, strsC, rowsC, intsC, bC, iC, sC, hwl, hf])
      | (with_reducible refine awp_drw 73 hX [0, 1, 2, 6, 7, 8, 9, 11, 20, 21, 27, 28, 29, 30, 31, 32, 39, 40, 41, 46, 47, 48, 50, 52, 60, 63, 64, 65, 66, 71] Tab.mixed (by kernel_rfl) ?_; simp [-getElem?_pos, -getElem?_neg, List.getElem?_cons_zero, List.getElem?_cons_succ, strsC, rowsC, intsC, bC, iC, sC, hwl, hf])
      | (refine (cupWins_den _ _ (by omega)).det ?_; try simp [-getElem?_pos, -getElem?_neg, List.getElem?_cons_zero, List.getElem?_cons_succ, strsC, rowsC, intsC, bC, iC, sC, hwl, hf])
      | (refine ⟨_, cupWins_den _ _ (by omega), ?_⟩; simp [-getElem?_pos, -getElem?_neg, List.getElem?_cons_zero, List.getElem?_cons_succ, strsC, rowsC, intsC, bC, iC, sC, hwl, hf])
      | (with_reducible refine awp_if_b rfl (fun hc => ?_) (fun hc => ?_) <;> (try simp [-getElem?_pos, -getElem?_neg] at hc) <;> (try (exfalso; omega)))
      | (with_reducible refine GuardK_b (fun hc => ?_) (fun hc => ?_) <;> (try simp only [Bool.not_eq_true', Bool.not_eq_false', decide_eq_true_eq, decide_eq_false_iff_not] at hc) <;> (first | (exfalso; omega) | skip) <;> simp [-getElem?_pos, -getElem?_neg, List.getElem?_cons_zero, List.getElem?_cons_succ, strsC, rowsC, intsC, bC, iC, sC, hwl, hf, hc])
      | (with_reducible refine DGuard_b _ _ _ _ _ _ _ _ (fun hc => ?_) (fun hc => ?_) <;> (try simp only [Bool.not_eq_true', Bool.not_eq_false', decide_eq_true_eq, decide_eq_false_iff_not] at hc) <;> (first | (exfalso; omega) | skip) <;> simp [-getElem?_pos, -getElem?_neg, List.getElem?_cons_zero, List.getElem?_cons_succ, strsC, rowsC, intsC, bC, iC, sC, hwl, hf, hc])
      | (refine hother _ _ rfl ?_; simp only [inBlockA, thenA, noGotoA, Nat.reduceEqDiff, if_false, if_true, ↓reduceIte])
      | (refine hother2 _ _ rfl ?_; simp only [inBlockA, thenA, noGotoA, Nat.reduceEqDiff, if_false, if_true, ↓reduceIte])
      | (refine hother3 _ _ rfl ?_; simp only [inBlockA, thenA, noGotoA, Nat.reduceEqDiff, if_false, if_true, ↓reduceIte])
      | (refine And.intro (by omega) ?_)
      | (with_reducible change postOf _ _ _ _; simp [-getElem?_pos, -getElem?_neg, List.getElem?_cons_zero, List.getElem?_cons_succ, strsC, rowsC, intsC, bC, iC, sC, hwl, hf])
      | fail)
end Go.Av
