import Derived.Test.YtofomnllcmgfeaaAvT7
set_option linter.unusedVariables false
set_option linter.unusedSimpArgs false
namespace Go.Av
open Go Go.Proofs Go.Proofs.Ytofomnllcmgfeaa
attribute [local simp] Try.underlying31 Try.underlying22 Try.underlying3 Try.underlying4 Try.underlying36 Try.underlying9
def sC (s : ByteArray) : C := .v (.string s)
def strsC (l : List ByteArray) : C := .sl (l.map sC) l.length false
def less (a b : ByteArray) : Bool := Op.bytesLess a.toList b.toList
def winsAll (v : List (List Int)) (m : Nat) : List Int := (List.range m).map fun (i : Nat) => (winsTo v i v.length : Int)
theorem winsAll_succ (v : List (List Int)) (m : Nat) : winsAll v (m + 1) = winsAll v m ++ [(winsTo v m v.length : Int)] := by
  simp [winsAll, List.range_succ]
theorem winsAll_len (v : List (List Int)) (m : Nat) : (winsAll v m).length = m := by simp [winsAll]
theorem winsAll_get (v : List (List Int)) (m i : Nat) (h : i < m) : (winsAll v m)[i]? = some (winsTo v i v.length : Int) := by simp [winsAll, h]
set_option maxRecDepth 100000 in
set_option maxHeartbeats 4000000 in
theorem cupWins_own (v : List (List Int)) (ob : List Ob) (hn : v.length ≤ 1000000) : Den Try.prog 28 [.c (rowsC v)] ob (fun r ob' => ∃ g o, r = .ms ob.length g 0 (winsAll v v.length).length ∧ ob' = ob ++ [o] ∧ o.gen = g ∧ o.cs = up ((winsAll v v.length).map iC)) := by
  refine den_of Try.func28 rfl rfl (by simp [Try.ntmps28]) (fun X hX hO => ?_)
  rw [Try.ntmps28] at hX
  simp only [Try.results28]
  generalize hQ : (fun (r : M) (ob' : List Ob) => ∃ g o, r = .ms ob.length g 0 (winsAll v v.length).length ∧ ob' = ob ++ [o] ∧ o.gen = g ∧ o.cs = up ((winsAll v v.length).map iC)) = Q
  repeat' (first 
   | (with_reducible first | refine awp_scope ?_ | refine awp_seq ?_ | refine awp_block ?_)
   | ((with_reducible first | refine awp_label ?_ | refine awp_skip ?_); try simp only [thenA, inBlockA, noGotoA])
   | (with_reducible refine awp_exit ?_; simp only [thenA, inBlockA, noGotoA, if_true, Nat.reduceEqDiff, if_false, ↓reduceIte])
   | (with_reducible refine awp_ret ?_; (try simp only [thenA, inBlockA, noGotoA]); (try simp [-List.reduceReplicate, Nat.add_one_le_iff, -getElem?_pos, -getElem?_neg, List.getElem?_cons_zero, List.getElem?_cons_succ, rowsC, iC]))
   | ((with_reducible first | refine awp_reg 35 hX [0, 2, 3, 4, 5, 6, 8, 9, 10, 13, 14, 15, 25] ?_ | change postOf _ _ _ _ _); simp [-List.reduceReplicate, Nat.add_one_le_iff, -getElem?_pos, -getElem?_neg, List.getElem?_cons_zero, List.getElem?_cons_succ, rowsC, iC])
   | (with_reducible refine awp_if_b rfl (fun hc => ?_) (fun hc => ?_) <;> (try simp [-getElem?_pos, -getElem?_neg] at hc) <;> (try (exfalso; omega)))
   | ((with_reducible first | refine GuardK_b (fun hc => ?_) (fun hc => ?_)) <;> (try simp only [Bool.not_eq_true', Bool.not_eq_false', decide_eq_true_eq, decide_eq_false_iff_not] at hc) <;> (first | (exfalso; omega) | skip) <;> simp [-List.reduceReplicate, Nat.add_one_le_iff, -getElem?_pos, -getElem?_neg, List.getElem?_cons_zero, List.getElem?_cons_succ, rowsC, iC, hc])
   | ((with_reducible first | refine hother _ _ rfl ?_ | refine hother2 _ _ rfl ?_); simp only [inBlockA, thenA, noGotoA, Nat.reduceEqDiff, if_false, if_true, ↓reduceIte])
   | (with_reducible refine And.intro (by omega) ?_)
   | fail)
  refine awp_nil 3 3 1 (by simp) ?_
  simp
  refine awp_for [0, 3, 8, 9] (fun i (p : Nat × Bool) => ⟨[(0, .c (rowsC v)), (3, .ms ob.length p.1 0 (winsAll v i).length), (8, .c (iC v.length)), (9, .c (iC i))], ob ++ [⟨3, 1, p.2, p.1, up ((winsAll v i).map iC), none⟩]⟩) (fun i _ => True) v.length (0, true) trivial (by simp [rowsC, winsAll, iC, up]) ?_
  rintro i ⟨g, b⟩ Q1 hi - next hother
  have hwi := wrap_in ((i : Int) + 1) (by omega)
  have hl := winsAll_len v i
  by_cases hlt : i < v.length
  · repeat' (first 
     | (with_reducible first | refine awp_scope ?_ | refine awp_seq ?_ | refine awp_block ?_)
     | ((with_reducible first | refine awp_label ?_ | refine awp_skip ?_); try simp only [thenA, inBlockA, noGotoA])
     | (with_reducible refine awp_exit ?_; simp only [thenA, inBlockA, noGotoA, if_true, Nat.reduceEqDiff, if_false, ↓reduceIte])
     | (with_reducible refine awp_ret ?_; (try simp only [thenA, inBlockA, noGotoA]); (try simp [-List.reduceReplicate, Nat.add_one_le_iff, -getElem?_pos, -getElem?_neg, List.getElem?_cons_zero, List.getElem?_cons_succ, rowsC, iC, bC, hlt, hl]))
     | ((with_reducible first | refine awp_reg 35 hX [0, 2, 3, 4, 5, 6, 8, 9, 10, 13, 14, 15, 25] ?_ | change postOf _ _ _ _ _); simp [-List.reduceReplicate, Nat.add_one_le_iff, -getElem?_pos, -getElem?_neg, List.getElem?_cons_zero, List.getElem?_cons_succ, rowsC, iC, bC, hlt, hl])
     | (with_reducible refine awp_if_b rfl (fun hc => ?_) (fun hc => ?_) <;> (try simp [-getElem?_pos, -getElem?_neg] at hc) <;> (try (exfalso; omega)))
     | ((with_reducible first | refine GuardK_b (fun hc => ?_) (fun hc => ?_)) <;> (try simp only [Bool.not_eq_true', Bool.not_eq_false', decide_eq_true_eq, decide_eq_false_iff_not] at hc) <;> (first | (exfalso; omega) | skip) <;> simp [-List.reduceReplicate, Nat.add_one_le_iff, -getElem?_pos, -getElem?_neg, List.getElem?_cons_zero, List.getElem?_cons_succ, rowsC, iC, bC, hlt, hl, hc])
     | ((with_reducible first | refine hother _ _ rfl ?_ | refine hother2 _ _ rfl ?_); simp only [inBlockA, thenA, noGotoA, Nat.reduceEqDiff, if_false, if_true, ↓reduceIte])
     | (with_reducible refine And.intro (by omega) ?_)
     | fail)
    refine awp_for [0, 3, 4, 5, 8, 9, 13, 14] (fun k (_ : Unit) => ⟨[(0, .c (rowsC v)), (3, .ms ob.length g 0 i), (4, .c (iC i)), (5, .c (iC (winsTo v i k))), (8, .c (iC v.length)), (9, .c (iC i)), (13, .c (iC v.length)), (14, .c (iC k))], ob ++ [⟨3, 1, b, g, up ((winsAll v i).map iC), none⟩]⟩) (fun _ _ => True) v.length () trivial (by simp [rowsC, iC, winsTo]) ?_
    rintro k - Q2 hk - next2 hother2
    have hw := winsTo_le v i k
    have hwk := wrap_in ((k : Int) + 1) (by omega)
    have hww := wrap_in ((winsTo v i k : Int) + 1) (by omega)
    have hs := winsTo_succ v i k
    by_cases hkl : k < v.length
    · repeat' (first 
       | (with_reducible first | refine awp_scope ?_ | refine awp_seq ?_ | refine awp_block ?_)
       | ((with_reducible first | refine awp_label ?_ | refine awp_skip ?_); try simp only [thenA, inBlockA, noGotoA])
       | (with_reducible refine awp_exit ?_; simp only [thenA, inBlockA, noGotoA, if_true, Nat.reduceEqDiff, if_false, ↓reduceIte])
       | (with_reducible refine awp_ret ?_; (try simp only [thenA, inBlockA, noGotoA]); (try simp [-List.reduceReplicate, Nat.add_one_le_iff, -getElem?_pos, -getElem?_neg, List.getElem?_cons_zero, List.getElem?_cons_succ, rowsC, iC, bC, hwk, hww, hkl]))
       | ((with_reducible first | refine awp_reg 35 hX [0, 2, 3, 4, 5, 6, 8, 9, 10, 13, 14, 15, 25] ?_ | change postOf _ _ _ _ _); simp [-List.reduceReplicate, Nat.add_one_le_iff, -getElem?_pos, -getElem?_neg, List.getElem?_cons_zero, List.getElem?_cons_succ, rowsC, iC, bC, hwk, hww, hkl])
       | ((first | ((with_reducible refine Den.at_ (f := 34) ?_); refine (beats_den _ _ _ _).det ?_)); try simp [-List.reduceReplicate, Nat.add_one_le_iff, -getElem?_pos, -getElem?_neg, List.getElem?_cons_zero, List.getElem?_cons_succ, rowsC, iC, bC, hwk, hww, hkl])
       | (with_reducible refine awp_if_b rfl (fun hc => ?_) (fun hc => ?_) <;> (try simp [-getElem?_pos, -getElem?_neg] at hc) <;> (try (exfalso; omega)))
       | ((with_reducible first | refine GuardK_b (fun hc => ?_) (fun hc => ?_)) <;> (try simp only [Bool.not_eq_true', Bool.not_eq_false', decide_eq_true_eq, decide_eq_false_iff_not] at hc) <;> (first | (exfalso; omega) | skip) <;> simp [-List.reduceReplicate, Nat.add_one_le_iff, -getElem?_pos, -getElem?_neg, List.getElem?_cons_zero, List.getElem?_cons_succ, rowsC, iC, bC, hwk, hww, hkl, hc])
       | ((with_reducible first | refine hother _ _ rfl ?_ | refine hother2 _ _ rfl ?_); simp only [inBlockA, thenA, noGotoA, Nat.reduceEqDiff, if_false, if_true, ↓reduceIte])
       | (with_reducible refine And.intro (by omega) ?_)
       | fail)
      · refine next2 _ () (by omega) trivial ?_; simp_all [rowsC, iC]
      · refine next2 _ () (by omega) trivial ?_; simp_all [rowsC, iC]
      · refine next2 _ () (by omega) trivial ?_; simp_all [rowsC, iC]
    · have hkv : k = v.length := by omega
      subst hkv
      repeat' (first 
       | (with_reducible first | refine awp_scope ?_ | refine awp_seq ?_ | refine awp_block ?_)
       | ((with_reducible first | refine awp_label ?_ | refine awp_skip ?_); try simp only [thenA, inBlockA, noGotoA])
       | (with_reducible refine awp_exit ?_; simp only [thenA, inBlockA, noGotoA, if_true, Nat.reduceEqDiff, if_false, ↓reduceIte])
       | (with_reducible refine awp_ret ?_; (try simp only [thenA, inBlockA, noGotoA]); (try simp [-List.reduceReplicate, Nat.add_one_le_iff, -getElem?_pos, -getElem?_neg, List.getElem?_cons_zero, List.getElem?_cons_succ, rowsC, iC, bC, hwi, hkl, hl, roomB]))
       | ((with_reducible first | refine awp_reg 35 hX [0, 2, 3, 4, 5, 6, 8, 9, 10, 13, 14, 15, 25] ?_ | change postOf _ _ _ _ _); simp [-List.reduceReplicate, Nat.add_one_le_iff, -getElem?_pos, -getElem?_neg, List.getElem?_cons_zero, List.getElem?_cons_succ, rowsC, iC, bC, hwi, hkl, hl, roomB])
       | (with_reducible refine awp_if_b rfl (fun hc => ?_) (fun hc => ?_) <;> (try simp [-getElem?_pos, -getElem?_neg] at hc) <;> (try (exfalso; omega)))
       | ((with_reducible first | refine GuardK_b (fun hc => ?_) (fun hc => ?_)) <;> (try simp only [Bool.not_eq_true', Bool.not_eq_false', decide_eq_true_eq, decide_eq_false_iff_not] at hc) <;> (first | (exfalso; omega) | skip) <;> simp [-List.reduceReplicate, Nat.add_one_le_iff, -getElem?_pos, -getElem?_neg, List.getElem?_cons_zero, List.getElem?_cons_succ, rowsC, iC, bC, hwi, hkl, hl, roomB, hc])
       | ((with_reducible first | refine hother _ _ rfl ?_ | refine hother2 _ _ rfl ?_); simp only [inBlockA, thenA, noGotoA, Nat.reduceEqDiff, if_false, if_true, ↓reduceIte])
       | (with_reducible refine And.intro (by omega) ?_)
       | fail)
      refine next _ (g + 1, false) (by omega) trivial ?_
      rw [winsAll_succ]
      simp [rowsC, iC, hl]
  · repeat' (first 
     | (with_reducible first | refine awp_scope ?_ | refine awp_seq ?_ | refine awp_block ?_)
     | ((with_reducible first | refine awp_label ?_ | refine awp_skip ?_); try simp only [thenA, inBlockA, noGotoA])
     | (with_reducible refine awp_exit ?_; simp only [thenA, inBlockA, noGotoA, if_true, Nat.reduceEqDiff, if_false, ↓reduceIte])
     | (with_reducible refine awp_ret ?_; (try simp only [thenA, inBlockA, noGotoA]); (try simp [-List.reduceReplicate, Nat.add_one_le_iff, -getElem?_pos, -getElem?_neg, List.getElem?_cons_zero, List.getElem?_cons_succ, rowsC, iC, bC, hlt]))
     | ((with_reducible first | refine awp_reg 35 hX [0, 2, 3, 4, 5, 6, 8, 9, 10, 13, 14, 15, 25] ?_ | change postOf _ _ _ _ _); simp [-List.reduceReplicate, Nat.add_one_le_iff, -getElem?_pos, -getElem?_neg, List.getElem?_cons_zero, List.getElem?_cons_succ, rowsC, iC, bC, hlt])
     | (with_reducible refine awp_if_b rfl (fun hc => ?_) (fun hc => ?_) <;> (try simp [-getElem?_pos, -getElem?_neg] at hc) <;> (try (exfalso; omega)))
     | ((with_reducible first | refine GuardK_b (fun hc => ?_) (fun hc => ?_)) <;> (try simp only [Bool.not_eq_true', Bool.not_eq_false', decide_eq_true_eq, decide_eq_false_iff_not] at hc) <;> (first | (exfalso; omega) | skip) <;> simp [-List.reduceReplicate, Nat.add_one_le_iff, -getElem?_pos, -getElem?_neg, List.getElem?_cons_zero, List.getElem?_cons_succ, rowsC, iC, bC, hlt, hc])
     | ((with_reducible first | refine hother _ _ rfl ?_ | refine hother2 _ _ rfl ?_); simp only [inBlockA, thenA, noGotoA, Nat.reduceEqDiff, if_false, if_true, ↓reduceIte])
     | (with_reducible refine And.intro (by omega) ?_)
     | fail)
    have e : i = v.length := by omega
    subst e
    subst hQ
    exact ⟨g, _, rfl, rfl, rfl, rfl⟩
theorem cupWins_den (v : List (List Int)) (ob : List Ob) (hn : v.length ≤ 1000000) : Den Try.prog 28 [.c (rowsC v)] ob (fun r ob' => r = .c (intsC (winsAll v v.length)) ∧ ob' = ob) :=
  (cupWins_own v ob hn).freeze fun r ob' ⟨g, o, h1, h2, h3, h4⟩ => ⟨g, _, o, _, h1, h2, h3, h4, by simp [intsC], rfl⟩
def keyN (keys : List ByteArray) (i : Nat) : ByteArray := (keys[i]?).getD ByteArray.empty
def worse (keys : List ByteArray) (v : List (List Int)) (at_ i : Nat) : Bool :=
  decide (winsTo v at_ v.length < winsTo v i v.length) || (decide (winsTo v i v.length = winsTo v at_ v.length) && less (keyN keys i) (keyN keys at_))
def awins (keys : List ByteArray) (v : List (List Int)) (a : Int) : Bool :=
  (((decide (0 ≤ a) && decide (a < keys.length)) && decide (v.length = keys.length)) && (List.range v.length).all fun i => !worse keys v a.toNat i) && (tops v).all fun t => decide (t = a)
end Go.Av
