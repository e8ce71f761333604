import Derived.Test.YtofomnllcmgfeaaAvT47
import Derived.Test.YtofomnllcmgfeaaAvT4
set_option linter.unusedVariables false
set_option linter.unusedSimpArgs false
set_option maxRecDepth 100000
set_option maxHeartbeats 4000000
namespace Go.Av
open Go Go.Proofs Go.Proofs.Ytofomnllcmgfeaa Go.RowKit
/-! ### cup: the document's order -/
open Go.Hp
theorem rlt_eq (keys : List ByteArray) (v : List (List Int)) (i k : Nat) : rlt (runOf keys v i) (runOf keys v k) = if winsTo v i v.length = winsTo v k v.length then (if (keyN keys i).toList = (keyN keys k).toList then decide (i < k) else less (keyN keys i) (keyN keys k)) else decide (winsTo v k v.length < winsTo v i v.length) := by
  unfold rlt runOf
  simp only [Int.natCast_inj, Int.ofNat_lt]
set_option maxHeartbeats 4000000 in
theorem ahead_den (keys : List ByteArray) (v : List (List Int)) (i k : Nat) (hi : i < keys.length) (hk : k < keys.length) (hv : v.length ≤ 1000000) : DenV Try.prog 60 [.c (strsC keys), .c (rowsC v), .c (iC i), .c (iC k)] (.c (bC (rlt (runOf keys v i) (runOf keys v k)))) := by
  refine Den.frame rfl rfl ?_
  have p1 := wins_den v i [] hv
  have p2 := wins_den v k [] hv
  obtain ⟨ki, hki⟩ := getI keys (i : Nat) (by omega) (by omega)
  obtain ⟨kk, hkk⟩ := getI keys (k : Nat) (by omega) (by omega)
  simp only [Int.toNat_natCast] at hki hkk
  have e1 : keyN keys i = ki := by simp [keyN, hki]
  have e2 : keyN keys k = kk := by simp [keyN, hkk]
  have hr := rlt_eq keys v i k
  rw [e1, e2] at hr
  generalize rlt (runOf keys v i) (runOf keys v k) = r at *
  generalize winsTo v i v.length = wi at *
  generalize winsTo v k v.length = wk at *
  refine den_of Try.func60 rfl rfl (by simp [Try.ntmps60]) (fun X hX hO => ?_)
  rw [Try.ntmps60] at hX
  simp only [Try.results60]
  by_cases c1 : wi = wk
  · rw [if_pos c1] at hr
    by_cases c2 : ki.toList = kk.toList
    · rw [if_pos c2] at hr
      repeat' (first 
       | (with_reducible first | refine awp_scope ?_ | refine awp_seq ?_ | refine awp_block ?_)
       | ((with_reducible first | refine awp_label ?_ | refine awp_skip ?_); try simp only [thenA, inBlockA, noGotoA])
       | (with_reducible refine awp_exit ?_; simp only [thenA, inBlockA, noGotoA, if_true, Nat.reduceEqDiff, if_false, ↓reduceIte])
       | (with_reducible refine awp_ret ?_; (try simp only [thenA, inBlockA, noGotoA]); (try simp [-List.reduceReplicate, Nat.add_one_le_iff, -getElem?_pos, -getElem?_neg, List.getElem?_cons_zero, List.getElem?_cons_succ, strsC, iC, bC, sC, c1, c2, hki, hkk, hi, hk, hr]))
       | ((with_reducible first | refine awp_reg 44 hX [0, 1, 2, 3, 8, 9, 10, 19, 31] ?_ | refine awp_drw 44 hX [0, 1, 2, 3, 8, 9, 10, 19, 31] Tab.mixed (by kernel_rfl) ?_ | refine DEv_cut _ _ _ _ _ _ _ _ _ _ _ _ (by kernel_rfl) ?_ | change postOf _ _ _ _ _); simp [-List.reduceReplicate, Nat.add_one_le_iff, -getElem?_pos, -getElem?_neg, List.getElem?_cons_zero, List.getElem?_cons_succ, strsC, iC, bC, sC, c1, c2, hki, hkk, hi, hk, hr])
       | ((first | (refine (p1).det ?_) | (refine ⟨_, _, p1, fun _ => rfl, ?_⟩) | (refine (p2).det ?_) | (refine ⟨_, _, p2, fun _ => rfl, ?_⟩)); try simp [-List.reduceReplicate, Nat.add_one_le_iff, -getElem?_pos, -getElem?_neg, List.getElem?_cons_zero, List.getElem?_cons_succ, strsC, iC, bC, sC, c1, c2, hki, hkk, hi, hk, hr])
       | (with_reducible refine awp_if_b rfl (fun hc => ?_) (fun hc => ?_) <;> (try simp [-getElem?_pos, -getElem?_neg] at hc) <;> (try (exfalso; omega)))
       | ((with_reducible first | refine GuardK_b (fun hc => ?_) (fun hc => ?_) | refine DGuard_b _ _ _ _ _ _ _ _ _ _ (fun hc => ?_) (fun hc => ?_)) <;> (try simp only [Bool.not_eq_true', Bool.not_eq_false', decide_eq_true_eq, decide_eq_false_iff_not] at hc) <;> (first | (exfalso; omega) | skip) <;> simp [-List.reduceReplicate, Nat.add_one_le_iff, -getElem?_pos, -getElem?_neg, List.getElem?_cons_zero, List.getElem?_cons_succ, strsC, iC, bC, sC, c1, c2, hki, hkk, hi, hk, hr, hc])
       | (with_reducible refine And.intro (by omega) ?_)
       | fail)
    · rw [if_neg c2] at hr
      unfold less at hr
      repeat' (first 
       | (with_reducible first | refine awp_scope ?_ | refine awp_seq ?_ | refine awp_block ?_)
       | ((with_reducible first | refine awp_label ?_ | refine awp_skip ?_); try simp only [thenA, inBlockA, noGotoA])
       | (with_reducible refine awp_exit ?_; simp only [thenA, inBlockA, noGotoA, if_true, Nat.reduceEqDiff, if_false, ↓reduceIte])
       | (with_reducible refine awp_ret ?_; (try simp only [thenA, inBlockA, noGotoA]); (try simp [-List.reduceReplicate, Nat.add_one_le_iff, -getElem?_pos, -getElem?_neg, List.getElem?_cons_zero, List.getElem?_cons_succ, strsC, iC, bC, sC, c1, c2, hki, hkk, hi, hk, hr]))
       | ((with_reducible first | refine awp_reg 44 hX [0, 1, 2, 3, 8, 9, 10, 19, 31] ?_ | refine awp_drw 44 hX [0, 1, 2, 3, 8, 9, 10, 19, 31] Tab.mixed (by kernel_rfl) ?_ | refine DEv_cut _ _ _ _ _ _ _ _ _ _ _ _ (by kernel_rfl) ?_ | change postOf _ _ _ _ _); simp [-List.reduceReplicate, Nat.add_one_le_iff, -getElem?_pos, -getElem?_neg, List.getElem?_cons_zero, List.getElem?_cons_succ, strsC, iC, bC, sC, c1, c2, hki, hkk, hi, hk, hr])
       | ((first | (refine (p1).det ?_) | (refine ⟨_, _, p1, fun _ => rfl, ?_⟩) | (refine (p2).det ?_) | (refine ⟨_, _, p2, fun _ => rfl, ?_⟩)); try simp [-List.reduceReplicate, Nat.add_one_le_iff, -getElem?_pos, -getElem?_neg, List.getElem?_cons_zero, List.getElem?_cons_succ, strsC, iC, bC, sC, c1, c2, hki, hkk, hi, hk, hr])
       | (with_reducible refine awp_if_b rfl (fun hc => ?_) (fun hc => ?_) <;> (try simp [-getElem?_pos, -getElem?_neg] at hc) <;> (try (exfalso; omega)))
       | ((with_reducible first | refine GuardK_b (fun hc => ?_) (fun hc => ?_) | refine DGuard_b _ _ _ _ _ _ _ _ _ _ (fun hc => ?_) (fun hc => ?_)) <;> (try simp only [Bool.not_eq_true', Bool.not_eq_false', decide_eq_true_eq, decide_eq_false_iff_not] at hc) <;> (first | (exfalso; omega) | skip) <;> simp [-List.reduceReplicate, Nat.add_one_le_iff, -getElem?_pos, -getElem?_neg, List.getElem?_cons_zero, List.getElem?_cons_succ, strsC, iC, bC, sC, c1, c2, hki, hkk, hi, hk, hr, hc])
       | (with_reducible refine And.intro (by omega) ?_)
       | fail)
  · rw [if_neg c1] at hr
    repeat' (first 
     | (with_reducible first | refine awp_scope ?_ | refine awp_seq ?_ | refine awp_block ?_)
     | ((with_reducible first | refine awp_label ?_ | refine awp_skip ?_); try simp only [thenA, inBlockA, noGotoA])
     | (with_reducible refine awp_exit ?_; simp only [thenA, inBlockA, noGotoA, if_true, Nat.reduceEqDiff, if_false, ↓reduceIte])
     | (with_reducible refine awp_ret ?_; (try simp only [thenA, inBlockA, noGotoA]); (try simp [-List.reduceReplicate, Nat.add_one_le_iff, -getElem?_pos, -getElem?_neg, List.getElem?_cons_zero, List.getElem?_cons_succ, strsC, iC, bC, sC, c1, hr]))
     | ((with_reducible first | refine awp_reg 44 hX [0, 1, 2, 3, 8, 9, 10, 19, 31] ?_ | refine awp_drw 44 hX [0, 1, 2, 3, 8, 9, 10, 19, 31] Tab.mixed (by kernel_rfl) ?_ | refine DEv_cut _ _ _ _ _ _ _ _ _ _ _ _ (by kernel_rfl) ?_ | change postOf _ _ _ _ _); simp [-List.reduceReplicate, Nat.add_one_le_iff, -getElem?_pos, -getElem?_neg, List.getElem?_cons_zero, List.getElem?_cons_succ, strsC, iC, bC, sC, c1, hr])
     | ((first | (refine (p1).det ?_) | (refine ⟨_, _, p1, fun _ => rfl, ?_⟩) | (refine (p2).det ?_) | (refine ⟨_, _, p2, fun _ => rfl, ?_⟩)); try simp [-List.reduceReplicate, Nat.add_one_le_iff, -getElem?_pos, -getElem?_neg, List.getElem?_cons_zero, List.getElem?_cons_succ, strsC, iC, bC, sC, c1, hr])
     | (with_reducible refine awp_if_b rfl (fun hc => ?_) (fun hc => ?_) <;> (try simp [-getElem?_pos, -getElem?_neg] at hc) <;> (try (exfalso; omega)))
     | ((with_reducible first | refine GuardK_b (fun hc => ?_) (fun hc => ?_) | refine DGuard_b _ _ _ _ _ _ _ _ _ _ (fun hc => ?_) (fun hc => ?_)) <;> (try simp only [Bool.not_eq_true', Bool.not_eq_false', decide_eq_true_eq, decide_eq_false_iff_not] at hc) <;> (first | (exfalso; omega) | skip) <;> simp [-List.reduceReplicate, Nat.add_one_le_iff, -getElem?_pos, -getElem?_neg, List.getElem?_cons_zero, List.getElem?_cons_succ, strsC, iC, bC, sC, c1, hr, hc])
     | (with_reducible refine And.intro (by omega) ?_)
     | fail)
/-- One more, where it belongs. -/
def insAt (l : List Run) (r : Run) : Nat := (l.takeWhile fun a => rlt a r).length
def insR (l : List Run) (r : Run) : List Run := l.take (insAt l r) ++ r :: l.drop (insAt l r)
theorem insR_perm (l : List Run) (r : Run) : (insR l r).Perm (l ++ [r]) := by
  unfold insR
  have h : (l.take (insAt l r) ++ r :: l.drop (insAt l r)).Perm (r :: (l.take (insAt l r) ++ l.drop (insAt l r))) := List.perm_middle
  rw [List.take_append_drop] at h
  exact h.trans (List.perm_append_singleton r l).symm
theorem insAt_le (l : List Run) (r : Run) : insAt l r ≤ l.length := (List.takeWhile_prefix _).length_le
theorem insAt_lt (l : List Run) (r : Run) (i : Nat) (x : Run) (hi : l[i]? = some x) : (i < insAt l r → rlt x r = true) ∧ (i = insAt l r → rlt x r = false) := by
  unfold insAt
  induction l generalizing i with
  | nil => simp at hi
  | cons a l ih =>
    rw [List.takeWhile_cons]
    cases h : rlt a r with
    | true =>
      simp only [if_true, List.length_cons]
      cases i with
      | zero =>
        obtain rfl := Option.some.inj hi
        exact ⟨fun _ => h, fun e => by omega⟩
      | succ i =>
        obtain ⟨h1, h2⟩ := ih i (by simpa using hi)
        exact ⟨fun q => h1 (by omega), fun q => h2 (by omega)⟩
    | false =>
      simp only [Bool.false_eq_true, if_false, List.length_nil]
      exact ⟨fun q => by omega, fun q => by
        subst q
        obtain rfl := Option.some.inj hi
        exact h⟩
theorem insR_sorted (l : List Run) (r : Run) (h : l.Pairwise fun a b => rlt b a = false) : (insR l r).Pairwise fun a b => rlt b a = false := by
  have hsplit : l = l.take (insAt l r) ++ l.drop (insAt l r) := (List.take_append_drop _ _).symm
  have hp := h
  rw [hsplit, List.pairwise_append] at hp
  obtain ⟨h1, h2, h3⟩ := hp
  have lo : ∀ a ∈ l.take (insAt l r), rlt r a = false := fun a ha => by
    obtain ⟨i, hi⟩ := List.getElem?_of_mem ha
    have hlt := (List.getElem?_eq_some_iff.1 hi).1
    rw [List.length_take] at hlt
    rw [List.getElem?_take_of_lt (by omega)] at hi
    exact rlt_ord.of_lt ((insAt_lt l r i a hi).1 (by omega))
  have hi' : ∀ b ∈ l.drop (insAt l r), rlt b r = false := fun b hb => by
    obtain ⟨i, hi⟩ := List.getElem?_of_mem hb
    rw [List.getElem?_drop] at hi
    have hlt := (List.getElem?_eq_some_iff.1 hi).1
    have h0 : l[insAt l r]? = some (l[insAt l r]'(by omega)) := List.getElem?_eq_getElem (by omega)
    have e0 := (insAt_lt l r _ _ h0).2 rfl
    cases i with
    | zero =>
      rw [Nat.add_zero] at hi
      rw [h0] at hi
      obtain rfl := Option.some.inj hi
      exact e0
    | succ i =>
      have hle : rlt b (l[insAt l r]'(by omega)) = false := by
        obtain ⟨h4, rfl⟩ := List.getElem?_eq_some_iff.1 hi
        exact List.pairwise_iff_getElem.1 h _ _ (by omega) h4 (by omega)
      exact rlt_ord.tr _ _ _ e0 hle
  unfold insR
  rw [List.pairwise_append]
  refine ⟨h1, List.pairwise_cons.2 ⟨hi', h2⟩, fun a ha b hb => ?_⟩
  rcases List.mem_cons.1 hb with rfl | hb
  · exact lo a ha
  · exact h3 a ha b hb
def insTo (keys : List ByteArray) (v : List (List Int)) : Nat → List Run
  | 0 => []
  | i + 1 => insR (insTo keys v i) (runOf keys v i)
theorem insTo_ok (keys : List ByteArray) (v : List (List Int)) : ∀ m, (insTo keys v m).Perm (runs keys v m) ∧ (insTo keys v m).Pairwise (fun a b => rlt b a = false) ∧ (insTo keys v m).length = m ∧ ∀ x ∈ insTo keys v m, ∃ i, i < m ∧ x = runOf keys v i := by
  intro m
  induction m with
  | zero => exact ⟨by simp [insTo, runs], .nil, rfl, fun x hx => by simp [insTo] at hx⟩
  | succ m ih =>
    obtain ⟨h1, h2, h3, h4⟩ := ih
    have hp := insR_perm (insTo keys v m) (runOf keys v m)
    refine ⟨?_, insR_sorted _ _ h2, ?_, fun x hx => ?_⟩
    · rw [runs_succ]
      exact hp.trans (h1.append (.refl _))
    · show (insR _ _).length = m + 1
      rw [hp.length_eq]; simp [h3]
    · have := hp.subset hx
      rcases List.mem_append.1 this with h | h
      · obtain ⟨i, hi, e⟩ := h4 x h
        exact ⟨i, by omega, e⟩
      · exact ⟨m, by omega, by simpa using h⟩
theorem insTo_ord (keys : List ByteArray) (v : List (List Int)) : insTo keys v (min keys.length v.length) = ordR keys v := by
  obtain ⟨h1, h2, _⟩ := insTo_ok keys v (min keys.length v.length)
  obtain ⟨s1, s2⟩ := ordR_ok keys v
  exact sorted_one rlt_anti h2 s2 (h1.trans s1.symm)
end Go.Av
