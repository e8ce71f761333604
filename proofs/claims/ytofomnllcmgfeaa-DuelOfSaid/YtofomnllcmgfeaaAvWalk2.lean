/- 3 texts of the program logic over abstract values, joined: each is proved without any condition beyond its own words. -/
import Derived.Test.YtofomnllcmgfeaaAvWalk1
set_option exponentiation.threshold 1000
set_option linter.unusedVariables false
set_option linter.unusedSimpArgs false
set_option maxRecDepth 100000
set_option maxHeartbeats 4000000
namespace Go.Av
open Go Go.Proofs Go.Proofs.Ytofomnllcmgfeaa Go.RowKit
/-! ### word.Lead, large.Cmp, Len, Of, Shl -/
def largeM (x : Nat) : M := .agg (up (limC 5 x))
theorem limC5_get (x i : Nat) (h : i < 5) : (limC 5 x)[i]? = some (u64C (lim x i)) := limC_get 5 x i h
set_option maxHeartbeats 4000000 in
theorem lead_den (x : Nat) (hx : x < 18446744073709551616) : DenV Try.prog 123 [.c (u64C x)] (.c (iC ((64 - bl x : Nat) : Int))) := by
  refine Den.frame rfl rfl ?_
  obtain ⟨b1, b2⟩ := bl_spec x
  have hq : ∀ i, x < 2 ^ (64 - i) → ¬ x < 2 ^ (63 - i) → i < 64 → 64 - bl x = i := fun i h1 h2 h3 => by
    have := bl_eq_of h1 (.inr (by rw [show 64 - i - 1 = 63 - i by omega]; omega))
    omega
  have hq2 : x < 2 ^ (64 - 64) → 64 - bl x = 64 := fun h1 => by
    have : x = 0 := by simp at h1; exact h1
    subst this; rfl
  generalize 64 - bl x = r at *
  refine den_of Try.func123 rfl rfl (by simp [Try.ntmps123]) (fun X hX hO => ?_)
  rw [Try.ntmps123] at hX
  simp only [Try.results123]
  repeat' (first 
   | (with_reducible first | refine awp_scope ?_ | refine awp_seq ?_ | refine awp_block ?_)
   | ((with_reducible first | refine awp_label ?_ | refine awp_skip ?_); try simp only [thenA, inBlockA, noGotoA])
   | (with_reducible refine awp_exit ?_; simp only [thenA, inBlockA, noGotoA, if_true, Nat.reduceEqDiff, if_false, ↓reduceIte])
   | (with_reducible refine awp_ret ?_; (try simp only [thenA, inBlockA, noGotoA]); (try simp [-List.reduceReplicate, Nat.add_one_le_iff, -getElem?_pos, -getElem?_neg, List.getElem?_cons_zero, List.getElem?_cons_succ, iC, u64C]))
   | ((with_reducible first | refine awp_reg 18 hX [0, 2, 3, 4, 5, 6, 13] ?_ | change postOf _ _ _ _ _); simp [-List.reduceReplicate, Nat.add_one_le_iff, -getElem?_pos, -getElem?_neg, List.getElem?_cons_zero, List.getElem?_cons_succ, iC, u64C])
   | (with_reducible refine awp_if_b rfl (fun hc => ?_) (fun hc => ?_) <;> (try simp [-getElem?_pos, -getElem?_neg] at hc) <;> (try (exfalso; omega)))
   | ((with_reducible first | refine GuardK_b (fun hc => ?_) (fun hc => ?_)) <;> (try simp only [Bool.not_eq_true', Bool.not_eq_false', decide_eq_true_eq, decide_eq_false_iff_not] at hc) <;> (first | (exfalso; omega) | skip) <;> simp [-List.reduceReplicate, Nat.add_one_le_iff, -getElem?_pos, -getElem?_neg, List.getElem?_cons_zero, List.getElem?_cons_succ, iC, u64C, hc])
   | ((with_reducible first | refine hother _ _ rfl ?_); simp only [inBlockA, thenA, noGotoA, Nat.reduceEqDiff, if_false, if_true, ↓reduceIte])
   | (with_reducible refine And.intro (by omega) ?_)
   | fail)
  refine awp_forU [0, 3, 5] (fun i (_u : Unit) => [(3, .c (iC i)), (5, .c (iC i))]) (fun i (_u : Unit) => []) (fun i (_u : Unit) => x < 2 ^ (64 - i)) (64) (()) (by first | trivial | (simp; done) | omega | (intros; simp at *; done)) (by simp [-List.reduceReplicate, keep, iC]) (by simp [-List.reduceReplicate, iC]) ?_
  rintro i _u Q1 hi hH next hother
  conv => arg 5; arg 1; simp only [List.cons_append, List.nil_append, keep, get, Nat.reduceEqDiff, if_true, if_false, ↓reduceIte]
  have hwi := wrap_in ((i : Int) + 1) (by omega)
  by_cases hlt : i < 64
  · have w1 := wrap_in (63 - (i : Int)) (by omega)
    have w2 := wrapU64 (63 - (i : Int)) (by omega)
    have i1 : ¬ 63 - (i : Int) < 0 := by omega
    have tn : (63 - (i : Int)).toNat = 63 - i := by omega
    have mn : min (63 - i) IntKind.u64.bits = 63 - i := by show min (63 - i) 64 = 63 - i; omega
    have hi2 : (i : Int) < 64 := by omega
    have fd := fdiv_pow x (63 - i)
    by_cases c : x < 2 ^ (63 - i)
    · have d0 : x / 2 ^ (63 - i) = 0 := Nat.div_eq_of_lt c
      rw [d0] at fd
      have nx : x < 2 ^ (64 - (i + 1)) := by rw [show 64 - (i + 1) = 63 - i by omega]; exact c
      repeat' (first 
       | (with_reducible first | refine awp_scope ?_ | refine awp_seq ?_ | refine awp_block ?_)
       | ((with_reducible first | refine awp_label ?_ | refine awp_skip ?_); try simp only [thenA, inBlockA, noGotoA])
       | (with_reducible refine awp_exit ?_; simp only [thenA, inBlockA, noGotoA, if_true, Nat.reduceEqDiff, if_false, ↓reduceIte])
       | (with_reducible refine awp_ret ?_; (try simp only [thenA, inBlockA, noGotoA]); (try simp [-List.reduceReplicate, Nat.add_one_le_iff, -getElem?_pos, -getElem?_neg, List.getElem?_cons_zero, List.getElem?_cons_succ, iC, bC, u64C, hi2, w1, w2, i1, tn, mn, fd, hwi]))
       | ((with_reducible first | refine awp_reg 18 hX [0, 2, 3, 4, 5, 6, 13] ?_ | change postOf _ _ _ _ _); simp [-List.reduceReplicate, Nat.add_one_le_iff, -getElem?_pos, -getElem?_neg, List.getElem?_cons_zero, List.getElem?_cons_succ, iC, bC, u64C, hi2, w1, w2, i1, tn, mn, fd, hwi])
       | (with_reducible refine awp_if_b rfl (fun hc => ?_) (fun hc => ?_) <;> (try simp [-getElem?_pos, -getElem?_neg] at hc) <;> (try (exfalso; omega)))
       | ((with_reducible first | refine GuardK_b (fun hc => ?_) (fun hc => ?_)) <;> (try simp only [Bool.not_eq_true', Bool.not_eq_false', decide_eq_true_eq, decide_eq_false_iff_not] at hc) <;> (first | (exfalso; omega) | skip) <;> simp [-List.reduceReplicate, Nat.add_one_le_iff, -getElem?_pos, -getElem?_neg, List.getElem?_cons_zero, List.getElem?_cons_succ, iC, bC, u64C, hi2, w1, w2, i1, tn, mn, fd, hwi, hc])
       | ((with_reducible first | refine hother _ _ rfl ?_); simp only [inBlockA, thenA, noGotoA, Nat.reduceEqDiff, if_false, if_true, ↓reduceIte])
       | (with_reducible refine And.intro (by omega) ?_)
       | fail)
      refine next _ _ (()) (by omega) (by first | trivial | omega | assumption) (by simp [-List.reduceReplicate, keep, iC]) (by simp [-List.reduceReplicate, iC])
    · have d0 : ¬ ((x / 2 ^ (63 - i) : Nat) : Int) = 0 := by
        have := Nat.div_pos (show 2 ^ (63 - i) ≤ x by omega) (Nat.two_pow_pos _)
        omega
      have hr := hq i hH c hlt
      generalize x / 2 ^ (63 - i) = z at *
      repeat' (first 
       | (with_reducible first | refine awp_scope ?_ | refine awp_seq ?_ | refine awp_block ?_)
       | ((with_reducible first | refine awp_label ?_ | refine awp_skip ?_); try simp only [thenA, inBlockA, noGotoA])
       | (with_reducible refine awp_exit ?_; simp only [thenA, inBlockA, noGotoA, if_true, Nat.reduceEqDiff, if_false, ↓reduceIte])
       | (with_reducible refine awp_ret ?_; (try simp only [thenA, inBlockA, noGotoA]); (try simp [-List.reduceReplicate, Nat.add_one_le_iff, -getElem?_pos, -getElem?_neg, List.getElem?_cons_zero, List.getElem?_cons_succ, iC, bC, u64C, hi2, w1, w2, i1, tn, mn, fd, d0, hr]))
       | ((with_reducible first | refine awp_reg 18 hX [0, 2, 3, 4, 5, 6, 13] ?_ | change postOf _ _ _ _ _); simp [-List.reduceReplicate, Nat.add_one_le_iff, -getElem?_pos, -getElem?_neg, List.getElem?_cons_zero, List.getElem?_cons_succ, iC, bC, u64C, hi2, w1, w2, i1, tn, mn, fd, d0, hr])
       | (with_reducible refine awp_if_b rfl (fun hc => ?_) (fun hc => ?_) <;> (try simp [-getElem?_pos, -getElem?_neg] at hc) <;> (try (exfalso; omega)))
       | ((with_reducible first | refine GuardK_b (fun hc => ?_) (fun hc => ?_)) <;> (try simp only [Bool.not_eq_true', Bool.not_eq_false', decide_eq_true_eq, decide_eq_false_iff_not] at hc) <;> (first | (exfalso; omega) | skip) <;> simp [-List.reduceReplicate, Nat.add_one_le_iff, -getElem?_pos, -getElem?_neg, List.getElem?_cons_zero, List.getElem?_cons_succ, iC, bC, u64C, hi2, w1, w2, i1, tn, mn, fd, d0, hr, hc])
       | ((with_reducible first | refine hother _ _ rfl ?_); simp only [inBlockA, thenA, noGotoA, Nat.reduceEqDiff, if_false, if_true, ↓reduceIte])
       | (with_reducible refine And.intro (by omega) ?_)
       | fail)
  · have hi3 : i = 64 := by omega
    subst hi3
    have hr := hq2 hH
    repeat' (first 
     | (with_reducible first | refine awp_scope ?_ | refine awp_seq ?_ | refine awp_block ?_)
     | ((with_reducible first | refine awp_label ?_ | refine awp_skip ?_); try simp only [thenA, inBlockA, noGotoA])
     | (with_reducible refine awp_exit ?_; simp only [thenA, inBlockA, noGotoA, if_true, Nat.reduceEqDiff, if_false, ↓reduceIte])
     | (with_reducible refine awp_ret ?_; (try simp only [thenA, inBlockA, noGotoA]); (try simp [-List.reduceReplicate, Nat.add_one_le_iff, -getElem?_pos, -getElem?_neg, List.getElem?_cons_zero, List.getElem?_cons_succ, iC, hr]))
     | ((with_reducible first | refine awp_reg 18 hX [0, 2, 3, 4, 5, 6, 13] ?_ | change postOf _ _ _ _ _); simp [-List.reduceReplicate, Nat.add_one_le_iff, -getElem?_pos, -getElem?_neg, List.getElem?_cons_zero, List.getElem?_cons_succ, iC, hr])
     | (with_reducible refine awp_if_b rfl (fun hc => ?_) (fun hc => ?_) <;> (try simp [-getElem?_pos, -getElem?_neg] at hc) <;> (try (exfalso; omega)))
     | ((with_reducible first | refine GuardK_b (fun hc => ?_) (fun hc => ?_)) <;> (try simp only [Bool.not_eq_true', Bool.not_eq_false', decide_eq_true_eq, decide_eq_false_iff_not] at hc) <;> (first | (exfalso; omega) | skip) <;> simp [-List.reduceReplicate, Nat.add_one_le_iff, -getElem?_pos, -getElem?_neg, List.getElem?_cons_zero, List.getElem?_cons_succ, iC, hr, hc])
     | ((with_reducible first | refine hother _ _ rfl ?_); simp only [inBlockA, thenA, noGotoA, Nat.reduceEqDiff, if_false, if_true, ↓reduceIte])
     | (with_reducible refine And.intro (by omega) ?_)
     | fail)
set_option maxHeartbeats 4000000 in
theorem cmp_den (x y : Nat) (hx : x < 2 ^ 320) (hy : y < 2 ^ 320) : DenV Try.prog 68 [largeM x, largeM y] (.c (iC (cmpN x y))) := by
  refine Den.frame (by simp [largeM, ltBs, ltB]) rfl ?_
  have gx := limC5_get x
  have gy := limC5_get y
  have lx := limC_len 5 x
  have ly := limC_len 5 y
  have hs := fun i => @lim_lt_of x y i
  have hs2 := fun i => @lim_lt_of y x i
  have he := fun i => @lim_eq_of x y i
  have h0 : x / 2 ^ (64 * (5 - 0)) = y / 2 ^ (64 * (5 - 0)) := by rw [Nat.div_eq_of_lt hx, Nat.div_eq_of_lt hy]
  unfold largeM
  generalize limC 5 x = cx at *
  generalize limC 5 y = cy at *
  generalize lim x = fx at *
  generalize lim y = fy at *
  refine den_of Try.func68 rfl rfl (by simp [Try.ntmps68]) (fun X hX hO => ?_)
  rw [Try.ntmps68] at hX
  simp only [Try.results68]
  repeat' (first 
   | (with_reducible first | refine awp_scope ?_ | refine awp_seq ?_ | refine awp_block ?_)
   | ((with_reducible first | refine awp_label ?_ | refine awp_skip ?_); try simp only [thenA, inBlockA, noGotoA])
   | (with_reducible refine awp_exit ?_; simp only [thenA, inBlockA, noGotoA, if_true, Nat.reduceEqDiff, if_false, ↓reduceIte])
   | (with_reducible refine awp_ret ?_; (try simp only [thenA, inBlockA, noGotoA]); (try simp [-List.reduceReplicate, Nat.add_one_le_iff, -getElem?_pos, -getElem?_neg, List.getElem?_cons_zero, List.getElem?_cons_succ, iC, lx, ly]))
   | ((with_reducible first | refine awp_reg 26 hX [2, 3, 4, 5, 6, 7, 8, 9, 21, 24] ?_ | refine awp_drw 26 hX [2, 3, 4, 5, 6, 7, 8, 9, 21, 24] Tab.mixed (by kernel_rfl) ?_ | refine DEv_cut _ _ _ _ _ _ _ _ _ _ _ _ (by kernel_rfl) ?_ | change postOf _ _ _ _ _); simp [-List.reduceReplicate, Nat.add_one_le_iff, -getElem?_pos, -getElem?_neg, List.getElem?_cons_zero, List.getElem?_cons_succ, iC, lx, ly])
   | (with_reducible refine awp_if_b rfl (fun hc => ?_) (fun hc => ?_) <;> (try simp [-getElem?_pos, -getElem?_neg] at hc) <;> (try (exfalso; omega)))
   | ((with_reducible first | refine GuardK_b (fun hc => ?_) (fun hc => ?_) | refine DGuard_b _ _ _ _ _ _ _ _ _ _ (fun hc => ?_) (fun hc => ?_)) <;> (try simp only [Bool.not_eq_true', Bool.not_eq_false', decide_eq_true_eq, decide_eq_false_iff_not] at hc) <;> (first | (exfalso; omega) | skip) <;> simp [-List.reduceReplicate, Nat.add_one_le_iff, -getElem?_pos, -getElem?_neg, List.getElem?_cons_zero, List.getElem?_cons_succ, iC, lx, ly, hc])
   | ((with_reducible first | refine hother _ _ rfl ?_); simp only [inBlockA, thenA, noGotoA, Nat.reduceEqDiff, if_false, if_true, ↓reduceIte])
   | (with_reducible refine And.intro (by omega) ?_)
   | fail)
  refine awp_forU [2, 3, 8] (fun i (_u : Unit) => [(8, .c (iC i))]) (fun i (_u : Unit) => [⟨50, 1, false, 0, up cx, none⟩, ⟨50, 1, false, 0, up cy, none⟩]) (fun i (_u : Unit) => x / 2 ^ (64 * (5 - i)) = y / 2 ^ (64 * (5 - i))) (5) (()) (h0) (by simp [-List.reduceReplicate, keep, iC]) (by simp [-List.reduceReplicate, iC]) ?_
  rintro i _u Q1 hi hH next hother
  conv => arg 5; arg 1; simp only [List.cons_append, List.nil_append, keep, get, Nat.reduceEqDiff, if_true, if_false, ↓reduceIte]
  have hwi := wrap_in ((i : Int) + 1) (by omega)
  by_cases hlt : i < 5
  · obtain ⟨j, hj⟩ : ∃ j, 4 - i = j := ⟨_, rfl⟩
    have hij : (4 - (i : Int)) = (j : Int) := by omega
    have e1 : 5 - i = j + 1 := by omega
    have e2 : 5 - (i + 1) = j := by omega
    have wj := wrap_in (j : Int) (by omega)
    have hj5 : j < 5 := by omega
    have hi2 : (i : Int) < 5 := by omega
    rw [e1] at hH
    rw [e2] at next
    have g1 := gx j hj5
    have g2 := gy j hj5
    by_cases c : fx j = fy j
    · have nx := he j hH c
      repeat' (first 
       | (with_reducible first | refine awp_scope ?_ | refine awp_seq ?_ | refine awp_block ?_)
       | ((with_reducible first | refine awp_label ?_ | refine awp_skip ?_); try simp only [thenA, inBlockA, noGotoA])
       | (with_reducible refine awp_exit ?_; simp only [thenA, inBlockA, noGotoA, if_true, Nat.reduceEqDiff, if_false, ↓reduceIte])
       | (with_reducible refine awp_ret ?_; (try simp only [thenA, inBlockA, noGotoA]); (try simp [-List.reduceReplicate, Nat.add_one_le_iff, -getElem?_pos, -getElem?_neg, List.getElem?_cons_zero, List.getElem?_cons_succ, iC, bC, u64C, hi2, hij, wj, hj5, g1, g2, lx, ly, hwi, c]))
       | ((with_reducible first | refine awp_reg 26 hX [2, 3, 4, 5, 6, 7, 8, 9, 21, 24] ?_ | refine awp_drw 26 hX [2, 3, 4, 5, 6, 7, 8, 9, 21, 24] Tab.mixed (by kernel_rfl) ?_ | refine DEv_cut _ _ _ _ _ _ _ _ _ _ _ _ (by kernel_rfl) ?_ | change postOf _ _ _ _ _); simp [-List.reduceReplicate, Nat.add_one_le_iff, -getElem?_pos, -getElem?_neg, List.getElem?_cons_zero, List.getElem?_cons_succ, iC, bC, u64C, hi2, hij, wj, hj5, g1, g2, lx, ly, hwi, c])
       | (with_reducible refine awp_if_b rfl (fun hc => ?_) (fun hc => ?_) <;> (try simp [-getElem?_pos, -getElem?_neg] at hc) <;> (try (exfalso; omega)))
       | ((with_reducible first | refine GuardK_b (fun hc => ?_) (fun hc => ?_) | refine DGuard_b _ _ _ _ _ _ _ _ _ _ (fun hc => ?_) (fun hc => ?_)) <;> (try simp only [Bool.not_eq_true', Bool.not_eq_false', decide_eq_true_eq, decide_eq_false_iff_not] at hc) <;> (first | (exfalso; omega) | skip) <;> simp [-List.reduceReplicate, Nat.add_one_le_iff, -getElem?_pos, -getElem?_neg, List.getElem?_cons_zero, List.getElem?_cons_succ, iC, bC, u64C, hi2, hij, wj, hj5, g1, g2, lx, ly, hwi, c, hc])
       | ((with_reducible first | refine hother _ _ rfl ?_); simp only [inBlockA, thenA, noGotoA, Nat.reduceEqDiff, if_false, if_true, ↓reduceIte])
       | (with_reducible refine And.intro (by omega) ?_)
       | fail)
      refine next _ _ (()) (by omega) (by first | trivial | omega | assumption) (by simp [-List.reduceReplicate, keep, iC]) (by simp [-List.reduceReplicate, iC])
    · by_cases c2 : fx j < fy j
      · have hcm := (cmpN_lt (hs j hH c2)).symm
        repeat' (first 
         | (with_reducible first | refine awp_scope ?_ | refine awp_seq ?_ | refine awp_block ?_)
         | ((with_reducible first | refine awp_label ?_ | refine awp_skip ?_); try simp only [thenA, inBlockA, noGotoA])
         | (with_reducible refine awp_exit ?_; simp only [thenA, inBlockA, noGotoA, if_true, Nat.reduceEqDiff, if_false, ↓reduceIte])
         | (with_reducible refine awp_ret ?_; (try simp only [thenA, inBlockA, noGotoA]); (try simp [-List.reduceReplicate, Nat.add_one_le_iff, -getElem?_pos, -getElem?_neg, List.getElem?_cons_zero, List.getElem?_cons_succ, iC, bC, u64C, hi2, hij, wj, hj5, g1, g2, lx, ly, c, c2]))
         | ((with_reducible first | refine awp_reg 26 hX [2, 3, 4, 5, 6, 7, 8, 9, 21, 24] ?_ | refine awp_drw 26 hX [2, 3, 4, 5, 6, 7, 8, 9, 21, 24] Tab.mixed (by kernel_rfl) ?_ | refine DEv_cut _ _ _ _ _ _ _ _ _ _ _ _ (by kernel_rfl) ?_ | change postOf _ _ _ _ _); simp [-List.reduceReplicate, Nat.add_one_le_iff, -getElem?_pos, -getElem?_neg, List.getElem?_cons_zero, List.getElem?_cons_succ, iC, bC, u64C, hi2, hij, wj, hj5, g1, g2, lx, ly, c, c2])
         | (with_reducible refine awp_if_b rfl (fun hc => ?_) (fun hc => ?_) <;> (try simp [-getElem?_pos, -getElem?_neg] at hc) <;> (try (exfalso; omega)))
         | ((with_reducible first | refine GuardK_b (fun hc => ?_) (fun hc => ?_) | refine DGuard_b _ _ _ _ _ _ _ _ _ _ (fun hc => ?_) (fun hc => ?_)) <;> (try simp only [Bool.not_eq_true', Bool.not_eq_false', decide_eq_true_eq, decide_eq_false_iff_not] at hc) <;> (first | (exfalso; omega) | skip) <;> simp [-List.reduceReplicate, Nat.add_one_le_iff, -getElem?_pos, -getElem?_neg, List.getElem?_cons_zero, List.getElem?_cons_succ, iC, bC, u64C, hi2, hij, wj, hj5, g1, g2, lx, ly, c, c2, hc])
         | ((with_reducible first | refine hother _ _ rfl ?_); simp only [inBlockA, thenA, noGotoA, Nat.reduceEqDiff, if_false, if_true, ↓reduceIte])
         | (with_reducible refine And.intro (by omega) ?_)
         | fail)
        exact hcm
      · have hcm := (cmpN_gt (hs2 j hH.symm (by omega))).symm
        repeat' (first 
         | (with_reducible first | refine awp_scope ?_ | refine awp_seq ?_ | refine awp_block ?_)
         | ((with_reducible first | refine awp_label ?_ | refine awp_skip ?_); try simp only [thenA, inBlockA, noGotoA])
         | (with_reducible refine awp_exit ?_; simp only [thenA, inBlockA, noGotoA, if_true, Nat.reduceEqDiff, if_false, ↓reduceIte])
         | (with_reducible refine awp_ret ?_; (try simp only [thenA, inBlockA, noGotoA]); (try simp [-List.reduceReplicate, Nat.add_one_le_iff, -getElem?_pos, -getElem?_neg, List.getElem?_cons_zero, List.getElem?_cons_succ, iC, bC, u64C, hi2, hij, wj, hj5, g1, g2, lx, ly, c, c2]))
         | ((with_reducible first | refine awp_reg 26 hX [2, 3, 4, 5, 6, 7, 8, 9, 21, 24] ?_ | refine awp_drw 26 hX [2, 3, 4, 5, 6, 7, 8, 9, 21, 24] Tab.mixed (by kernel_rfl) ?_ | refine DEv_cut _ _ _ _ _ _ _ _ _ _ _ _ (by kernel_rfl) ?_ | change postOf _ _ _ _ _); simp [-List.reduceReplicate, Nat.add_one_le_iff, -getElem?_pos, -getElem?_neg, List.getElem?_cons_zero, List.getElem?_cons_succ, iC, bC, u64C, hi2, hij, wj, hj5, g1, g2, lx, ly, c, c2])
         | (with_reducible refine awp_if_b rfl (fun hc => ?_) (fun hc => ?_) <;> (try simp [-getElem?_pos, -getElem?_neg] at hc) <;> (try (exfalso; omega)))
         | ((with_reducible first | refine GuardK_b (fun hc => ?_) (fun hc => ?_) | refine DGuard_b _ _ _ _ _ _ _ _ _ _ (fun hc => ?_) (fun hc => ?_)) <;> (try simp only [Bool.not_eq_true', Bool.not_eq_false', decide_eq_true_eq, decide_eq_false_iff_not] at hc) <;> (first | (exfalso; omega) | skip) <;> simp [-List.reduceReplicate, Nat.add_one_le_iff, -getElem?_pos, -getElem?_neg, List.getElem?_cons_zero, List.getElem?_cons_succ, iC, bC, u64C, hi2, hij, wj, hj5, g1, g2, lx, ly, c, c2, hc])
         | ((with_reducible first | refine hother _ _ rfl ?_); simp only [inBlockA, thenA, noGotoA, Nat.reduceEqDiff, if_false, if_true, ↓reduceIte])
         | (with_reducible refine And.intro (by omega) ?_)
         | fail)
        exact hcm
  · have hi3 : i = 5 := by omega
    subst hi3
    have : x = y := by simpa using hH
    subst this
    have hcm := (cmpN_eq x).symm
    repeat' (first 
     | (with_reducible first | refine awp_scope ?_ | refine awp_seq ?_ | refine awp_block ?_)
     | ((with_reducible first | refine awp_label ?_ | refine awp_skip ?_); try simp only [thenA, inBlockA, noGotoA])
     | (with_reducible refine awp_exit ?_; simp only [thenA, inBlockA, noGotoA, if_true, Nat.reduceEqDiff, if_false, ↓reduceIte])
     | (with_reducible refine awp_ret ?_; (try simp only [thenA, inBlockA, noGotoA]); (try simp [-List.reduceReplicate, Nat.add_one_le_iff, -getElem?_pos, -getElem?_neg, List.getElem?_cons_zero, List.getElem?_cons_succ, iC]))
     | ((with_reducible first | refine awp_reg 26 hX [2, 3, 4, 5, 6, 7, 8, 9, 21, 24] ?_ | refine awp_drw 26 hX [2, 3, 4, 5, 6, 7, 8, 9, 21, 24] Tab.mixed (by kernel_rfl) ?_ | refine DEv_cut _ _ _ _ _ _ _ _ _ _ _ _ (by kernel_rfl) ?_ | change postOf _ _ _ _ _); simp [-List.reduceReplicate, Nat.add_one_le_iff, -getElem?_pos, -getElem?_neg, List.getElem?_cons_zero, List.getElem?_cons_succ, iC])
     | (with_reducible refine awp_if_b rfl (fun hc => ?_) (fun hc => ?_) <;> (try simp [-getElem?_pos, -getElem?_neg] at hc) <;> (try (exfalso; omega)))
     | ((with_reducible first | refine GuardK_b (fun hc => ?_) (fun hc => ?_) | refine DGuard_b _ _ _ _ _ _ _ _ _ _ (fun hc => ?_) (fun hc => ?_)) <;> (try simp only [Bool.not_eq_true', Bool.not_eq_false', decide_eq_true_eq, decide_eq_false_iff_not] at hc) <;> (first | (exfalso; omega) | skip) <;> simp [-List.reduceReplicate, Nat.add_one_le_iff, -getElem?_pos, -getElem?_neg, List.getElem?_cons_zero, List.getElem?_cons_succ, iC, hc])
     | ((with_reducible first | refine hother _ _ rfl ?_); simp only [inBlockA, thenA, noGotoA, Nat.reduceEqDiff, if_false, if_true, ↓reduceIte])
     | (with_reducible refine And.intro (by omega) ?_)
     | fail)
    exact hcm
theorem bl_le {x k : Nat} (h : x < 2 ^ k) : bl x ≤ k := by
  obtain ⟨a, b⟩ := bl_spec x
  rcases b with c | c
  · omega
  · rcases Nat.lt_or_ge k (bl x) with d | d
    · have : 2 ^ k ≤ 2 ^ (bl x - 1) := Nat.pow_le_pow_right (by decide) (by omega)
      omega
    · exact d
set_option maxHeartbeats 4000000 in
theorem len_den (x : Nat) (hx : x < 2 ^ (64 * 5)) : DenV Try.prog 113 [largeM x] (.c (iC (bl x))) := by
  refine Den.frame (by simp [largeM, ltBs, ltB]) rfl ?_
  have gx := limC5_get x
  have lx := limC_len 5 x
  have hb := fun j => @bl_high x j
  have hz := fun j => @lim_zero_high x j
  have hlt := lim_lt x
  have hble := bl_le hx
  have hb0 : x < 2 ^ (64 * 0) → bl x = 0 := fun h => by
    have : x = 0 := by simpa using h
    subst this; rfl
  have ld := fun j => lead_den (lim x j) (hlt j)
  have lb := fun j => bl_le (show lim x j < 2 ^ 64 from hlt j)
  unfold largeM
  obtain ⟨P, hP⟩ : ∃ P : Nat → Prop, P = fun j => x < 2 ^ (64 * j) := ⟨_, rfl⟩
  have hb' : ∀ j, P (j + 1) → lim x j ≠ 0 → bl x = 64 * j + bl (lim x j) := by rw [hP]; exact hb
  have hz' : ∀ j, P (j + 1) → lim x j = 0 → P j := by rw [hP]; exact hz
  have hb0' : P 0 → bl x = 0 := by rw [hP]; exact hb0
  have hx' : P 5 := by rw [hP]; exact hx
  clear hP hb hz hb0 hx
  generalize limC 5 x = cx at *
  generalize lim x = fx at *
  generalize bl x = r at *
  refine den_of Try.func113 rfl rfl (by simp [Try.ntmps113]) (fun X hX hO => ?_)
  rw [Try.ntmps113] at hX
  simp only [Try.results113]
  repeat' (first 
   | (with_reducible first | refine awp_scope ?_ | refine awp_seq ?_ | refine awp_block ?_)
   | ((with_reducible first | refine awp_label ?_ | refine awp_skip ?_); try simp only [thenA, inBlockA, noGotoA])
   | (with_reducible refine awp_exit ?_; simp only [thenA, inBlockA, noGotoA, if_true, Nat.reduceEqDiff, if_false, ↓reduceIte])
   | (with_reducible refine awp_ret ?_; (try simp only [thenA, inBlockA, noGotoA]); (try simp [-List.reduceReplicate, Nat.add_one_le_iff, -getElem?_pos, -getElem?_neg, List.getElem?_cons_zero, List.getElem?_cons_succ, iC, lx]))
   | ((with_reducible first | refine awp_reg 21 hX [1, 2, 3, 4, 5, 6, 13] ?_ | change postOf _ _ _ _ _); simp [-List.reduceReplicate, Nat.add_one_le_iff, -getElem?_pos, -getElem?_neg, List.getElem?_cons_zero, List.getElem?_cons_succ, iC, lx])
   | (with_reducible refine awp_if_b rfl (fun hc => ?_) (fun hc => ?_) <;> (try simp [-getElem?_pos, -getElem?_neg] at hc) <;> (try (exfalso; omega)))
   | ((with_reducible first | refine GuardK_b (fun hc => ?_) (fun hc => ?_)) <;> (try simp only [Bool.not_eq_true', Bool.not_eq_false', decide_eq_true_eq, decide_eq_false_iff_not] at hc) <;> (first | (exfalso; omega) | skip) <;> simp [-List.reduceReplicate, Nat.add_one_le_iff, -getElem?_pos, -getElem?_neg, List.getElem?_cons_zero, List.getElem?_cons_succ, iC, lx, hc])
   | ((with_reducible first | refine hother _ _ rfl ?_); simp only [inBlockA, thenA, noGotoA, Nat.reduceEqDiff, if_false, if_true, ↓reduceIte])
   | (with_reducible refine And.intro (by omega) ?_)
   | fail)
  refine awp_forU [1, 5] (fun i (_u : Unit) => [(5, .c (iC i))]) (fun i (_u : Unit) => [⟨50, 1, false, 0, up cx, none⟩]) (fun i (_u : Unit) => P (5 - i)) (5) (()) (hx') (by simp [-List.reduceReplicate, keep, iC]) (by simp [-List.reduceReplicate, iC]) ?_
  rintro i _u Q1 hi hH next hother
  conv => arg 5; arg 1; simp only [List.cons_append, List.nil_append, keep, get, Nat.reduceEqDiff, if_true, if_false, ↓reduceIte]
  have hwi := wrap_in ((i : Int) + 1) (by omega)
  by_cases hlt5 : i < 5
  · obtain ⟨j, hj⟩ : ∃ j, 4 - i = j := ⟨_, rfl⟩
    have hij : (4 - (i : Int)) = (j : Int) := by omega
    have e1 : 5 - i = j + 1 := by omega
    have e2 : 5 - (i + 1) = j := by omega
    have wj := wrap_in (j : Int) (by omega)
    have hj5 : j < 5 := by omega
    have hi2 : (i : Int) < 5 := by omega
    rw [e1] at hH
    rw [e2] at next
    have g1 := gx j hj5
    by_cases c : fx j = 0
    · have nx := hz' j hH c
      repeat' (first 
       | (with_reducible first | refine awp_scope ?_ | refine awp_seq ?_ | refine awp_block ?_)
       | ((with_reducible first | refine awp_label ?_ | refine awp_skip ?_); try simp only [thenA, inBlockA, noGotoA])
       | (with_reducible refine awp_exit ?_; simp only [thenA, inBlockA, noGotoA, if_true, Nat.reduceEqDiff, if_false, ↓reduceIte])
       | (with_reducible refine awp_ret ?_; (try simp only [thenA, inBlockA, noGotoA]); (try simp [-List.reduceReplicate, Nat.add_one_le_iff, -getElem?_pos, -getElem?_neg, List.getElem?_cons_zero, List.getElem?_cons_succ, iC, bC, u64C, hi2, hij, wj, hj5, g1, lx, hwi, c]))
       | ((with_reducible first | refine awp_reg 21 hX [1, 2, 3, 4, 5, 6, 13] ?_ | change postOf _ _ _ _ _); simp [-List.reduceReplicate, Nat.add_one_le_iff, -getElem?_pos, -getElem?_neg, List.getElem?_cons_zero, List.getElem?_cons_succ, iC, bC, u64C, hi2, hij, wj, hj5, g1, lx, hwi, c])
       | (with_reducible refine awp_if_b rfl (fun hc => ?_) (fun hc => ?_) <;> (try simp [-getElem?_pos, -getElem?_neg] at hc) <;> (try (exfalso; omega)))
       | ((with_reducible first | refine GuardK_b (fun hc => ?_) (fun hc => ?_)) <;> (try simp only [Bool.not_eq_true', Bool.not_eq_false', decide_eq_true_eq, decide_eq_false_iff_not] at hc) <;> (first | (exfalso; omega) | skip) <;> simp [-List.reduceReplicate, Nat.add_one_le_iff, -getElem?_pos, -getElem?_neg, List.getElem?_cons_zero, List.getElem?_cons_succ, iC, bC, u64C, hi2, hij, wj, hj5, g1, lx, hwi, c, hc])
       | ((with_reducible first | refine hother _ _ rfl ?_); simp only [inBlockA, thenA, noGotoA, Nat.reduceEqDiff, if_false, if_true, ↓reduceIte])
       | (with_reducible refine And.intro (by omega) ?_)
       | fail)
      refine next _ _ (()) (by omega) (by first | trivial | omega | assumption) (by simp [-List.reduceReplicate, keep, iC]) (by simp [-List.reduceReplicate, iC])
    · have q1 := ld j
      have hbj := hb' j hH c
      have hlb := lb j
      generalize fx j = a at *
      obtain ⟨z, hz1⟩ : ∃ z, 64 - bl a = z := ⟨_, rfl⟩
      rw [hz1] at q1
      have c' : ¬ (a : Int) = 0 := by omega
      have w1 := wrap_in (64 * (i : Int)) (by omega)
      have w2 := wrap_in (320 - 64 * (i : Int)) (by omega)
      have w3 := wrap_in (320 - 64 * (i : Int) - (z : Int)) (by omega)
      have w4 : 320 - 64 * (i : Int) - (z : Int) = (r : Int) := by omega
      have w5 := wrap_in (r : Int) (by omega)
      unfold u64C at q1
      repeat' (first 
       | (with_reducible first | refine awp_scope ?_ | refine awp_seq ?_ | refine awp_block ?_)
       | ((with_reducible first | refine awp_label ?_ | refine awp_skip ?_); try simp only [thenA, inBlockA, noGotoA])
       | (with_reducible refine awp_exit ?_; simp only [thenA, inBlockA, noGotoA, if_true, Nat.reduceEqDiff, if_false, ↓reduceIte])
       | (with_reducible refine awp_ret ?_; (try simp only [thenA, inBlockA, noGotoA]); (try simp [-List.reduceReplicate, Nat.add_one_le_iff, -getElem?_pos, -getElem?_neg, List.getElem?_cons_zero, List.getElem?_cons_succ, iC, bC, u64C, hi2, hij, wj, hj5, g1, lx, c, c', w1, w2, w3, w4, w5]))
       | ((with_reducible first | refine awp_reg 21 hX [1, 2, 3, 4, 5, 6, 13] ?_ | change postOf _ _ _ _ _); simp [-List.reduceReplicate, Nat.add_one_le_iff, -getElem?_pos, -getElem?_neg, List.getElem?_cons_zero, List.getElem?_cons_succ, iC, bC, u64C, hi2, hij, wj, hj5, g1, lx, c, c', w1, w2, w3, w4, w5])
       | ((first | (refine (q1 _).det ?_)); try simp [-List.reduceReplicate, Nat.add_one_le_iff, -getElem?_pos, -getElem?_neg, List.getElem?_cons_zero, List.getElem?_cons_succ, iC, bC, u64C, hi2, hij, wj, hj5, g1, lx, c, c', w1, w2, w3, w4, w5])
       | (with_reducible refine awp_if_b rfl (fun hc => ?_) (fun hc => ?_) <;> (try simp [-getElem?_pos, -getElem?_neg] at hc) <;> (try (exfalso; omega)))
       | ((with_reducible first | refine GuardK_b (fun hc => ?_) (fun hc => ?_)) <;> (try simp only [Bool.not_eq_true', Bool.not_eq_false', decide_eq_true_eq, decide_eq_false_iff_not] at hc) <;> (first | (exfalso; omega) | skip) <;> simp [-List.reduceReplicate, Nat.add_one_le_iff, -getElem?_pos, -getElem?_neg, List.getElem?_cons_zero, List.getElem?_cons_succ, iC, bC, u64C, hi2, hij, wj, hj5, g1, lx, c, c', w1, w2, w3, w4, w5, hc])
       | ((with_reducible first | refine hother _ _ rfl ?_); simp only [inBlockA, thenA, noGotoA, Nat.reduceEqDiff, if_false, if_true, ↓reduceIte])
       | (with_reducible refine And.intro (by omega) ?_)
       | fail)
  · have hi3 : i = 5 := by omega
    subst hi3
    have hr := hb0' hH
    repeat' (first 
     | (with_reducible first | refine awp_scope ?_ | refine awp_seq ?_ | refine awp_block ?_)
     | ((with_reducible first | refine awp_label ?_ | refine awp_skip ?_); try simp only [thenA, inBlockA, noGotoA])
     | (with_reducible refine awp_exit ?_; simp only [thenA, inBlockA, noGotoA, if_true, Nat.reduceEqDiff, if_false, ↓reduceIte])
     | (with_reducible refine awp_ret ?_; (try simp only [thenA, inBlockA, noGotoA]); (try simp [-List.reduceReplicate, Nat.add_one_le_iff, -getElem?_pos, -getElem?_neg, List.getElem?_cons_zero, List.getElem?_cons_succ, iC, hr]))
     | ((with_reducible first | refine awp_reg 21 hX [1, 2, 3, 4, 5, 6, 13] ?_ | change postOf _ _ _ _ _); simp [-List.reduceReplicate, Nat.add_one_le_iff, -getElem?_pos, -getElem?_neg, List.getElem?_cons_zero, List.getElem?_cons_succ, iC, hr])
     | (with_reducible refine awp_if_b rfl (fun hc => ?_) (fun hc => ?_) <;> (try simp [-getElem?_pos, -getElem?_neg] at hc) <;> (try (exfalso; omega)))
     | ((with_reducible first | refine GuardK_b (fun hc => ?_) (fun hc => ?_)) <;> (try simp only [Bool.not_eq_true', Bool.not_eq_false', decide_eq_true_eq, decide_eq_false_iff_not] at hc) <;> (first | (exfalso; omega) | skip) <;> simp [-List.reduceReplicate, Nat.add_one_le_iff, -getElem?_pos, -getElem?_neg, List.getElem?_cons_zero, List.getElem?_cons_succ, iC, hr, hc])
     | ((with_reducible first | refine hother _ _ rfl ?_); simp only [inBlockA, thenA, noGotoA, Nat.reduceEqDiff, if_false, if_true, ↓reduceIte])
     | (with_reducible refine And.intro (by omega) ?_)
     | fail)
theorem of_den (x : Nat) (hx : x < 18446744073709551616) : DenV Try.prog 101 [.c (u64C x)] (largeM x) := by
  have e : limC 5 x = [u64C x, u64C 0, u64C 0, u64C 0, u64C 0] := by
    have h0 : lim x 0 = x := by simp [lim]; omega
    have h1 : ∀ i, lim x (i + 1) = 0 := fun i => by
      unfold lim
      rw [Nat.div_eq_of_lt]
      have : 2 ^ 64 ≤ 2 ^ (64 * (i + 1)) := Nat.pow_le_pow_right (by decide) (by omega)
      exact Nat.lt_of_lt_of_le hx this
    have h2 := h1 0
    have h3 := h1 1
    have h4 := h1 2
    have h5 := h1 3
    simp only [Nat.zero_add] at h2
    simp [limC, List.range_succ, h0, h2, h3, h4, h5]
  refine Den.frame rfl (by simp [largeM, ltB]) ?_
  unfold largeM
  rw [e]
  refine den_of Try.func101 rfl rfl (by simp [Try.ntmps101]) (fun X hX hO => ?_)
  rw [Try.ntmps101] at hX
  simp only [Try.results101]
  repeat' (first 
   | (with_reducible first | refine awp_scope ?_ | refine awp_seq ?_ | refine awp_block ?_)
   | ((with_reducible first | refine awp_label ?_ | refine awp_skip ?_); try simp only [thenA, inBlockA, noGotoA])
   | (with_reducible refine awp_exit ?_; simp only [thenA, inBlockA, noGotoA, if_true, Nat.reduceEqDiff, if_false, ↓reduceIte])
   | (with_reducible refine awp_ret ?_; (try simp only [thenA, inBlockA, noGotoA]); (try simp [-List.reduceReplicate, Nat.add_one_le_iff, -getElem?_pos, -getElem?_neg, List.getElem?_cons_zero, List.getElem?_cons_succ, u64C]))
   | ((with_reducible first | refine awp_reg 5 hX [0, 2] ?_ | change postOf _ _ _ _ _); simp [-List.reduceReplicate, Nat.add_one_le_iff, -getElem?_pos, -getElem?_neg, List.getElem?_cons_zero, List.getElem?_cons_succ, u64C])
   | (with_reducible refine awp_if_b rfl (fun hc => ?_) (fun hc => ?_) <;> (try simp [-getElem?_pos, -getElem?_neg] at hc) <;> (try (exfalso; omega)))
   | ((with_reducible first | refine GuardK_b (fun hc => ?_) (fun hc => ?_)) <;> (try simp only [Bool.not_eq_true', Bool.not_eq_false', decide_eq_true_eq, decide_eq_false_iff_not] at hc) <;> (first | (exfalso; omega) | skip) <;> simp [-List.reduceReplicate, Nat.add_one_le_iff, -getElem?_pos, -getElem?_neg, List.getElem?_cons_zero, List.getElem?_cons_succ, u64C, hc])
   | (with_reducible refine And.intro (by omega) ?_)
   | fail)
  rfl
theorem limC_zero : limC 5 0 = List.replicate 5 (C.v (.int .u64 0)) := by
  have h1 : ∀ i, lim 0 i = 0 := fun i => by simp [lim]
  simp [limC, List.range_succ, h1, u64C]
/-- The limbs below a place, zeros from there on. -/
def shlF (y i : Nat) : List C := (List.range 5).map fun t => u64C (if t < i then lim y t else 0)
theorem shlF_facts (y s : Nat) (h : ∀ t, t < s → lim y t = 0) : shlF y s = List.replicate 5 (C.v (.int .u64 0)) ∧ shlF y 5 = limC 5 y ∧ (∀ i, (shlF y i).length = 5) ∧ ∀ i, i < 5 → (shlF y i).set i (u64C (lim y i)) = shlF y (i + 1) := by
  refine ⟨?_, ?_, fun i => by simp [shlF], fun i hi => ?_⟩
  · unfold shlF
    apply List.ext_getElem (by simp)
    intro t h1 h2
    simp at h1
    simp only [List.getElem_map, List.getElem_range, List.getElem_replicate]
    by_cases c : t < s
    · rw [if_pos c, h t c]; rfl
    · rw [if_neg c]; rfl
  · unfold shlF limC
    refine List.map_congr_left fun t ht => ?_
    rw [if_pos (List.mem_range.1 ht)]
  · unfold shlF
    apply List.ext_getElem (by simp)
    intro t h1 h2
    simp at h1
    rw [List.getElem_set]
    simp only [List.getElem_map, List.getElem_range]
    by_cases c : i = t
    · subst c
      rw [if_pos rfl, if_pos (by omega)]
    · rw [if_neg c]
      by_cases d : t < i
      · rw [if_pos d, if_pos (by omega)]
      · rw [if_neg d, if_neg (by omega)]
set_option maxHeartbeats 8000000 in
theorem shl_den (x n : Nat) (hx : x < 2 ^ (64 * 5)) (hy : x * 2 ^ n < 2 ^ (64 * 5)) (hn : n < 1000000) : DenV Try.prog 100 [largeM x, .c (iC n)] (.tup [largeM (x * 2 ^ n), .c (bC true)]) := by
  refine Den.frame (by simp [largeM, ltBs, ltB]) (by simp [largeM, ltB, ltBs]) ?_
  have ld := len_den x hx
  have z0 : zeroT Try.prog 50 = some (up (List.replicate 5 (C.v (.int .u64 0)))) := by kernel_rfl
  have lz : (List.replicate 5 (C.v (.int .u64 0))).length = 5 := rfl
  by_cases h0 : x = 0
  · subst h0
    have hb : bl 0 = 0 := rfl
    rw [hb] at ld
    rw [Nat.zero_mul]
    unfold largeM at *
    rw [limC_zero] at *
    have tz : (List.replicate 5 (C.v (Value.int .u64 0))).take 5 = List.replicate 5 (C.v (Value.int .u64 0)) := rfl
    generalize (List.replicate 5 (C.v (Value.int .u64 0))) = zs at *
    refine den_of Try.func100 rfl rfl (by simp [Try.ntmps100]) (fun X hX hO => ?_)
    rw [Try.ntmps100] at hX
    simp only [Try.results100]
    have i1 : ¬ (n : Int) < 0 := by omega
    repeat' (first 
     | (with_reducible first | refine awp_scope ?_ | refine awp_seq ?_ | refine awp_block ?_)
     | ((with_reducible first | refine awp_label ?_ | refine awp_skip ?_); try simp only [thenA, inBlockA, noGotoA])
     | (with_reducible refine awp_exit ?_; simp only [thenA, inBlockA, noGotoA, if_true, Nat.reduceEqDiff, if_false, ↓reduceIte])
     | (with_reducible refine awp_ret ?_; (try simp only [thenA, inBlockA, noGotoA]); (try simp [-List.reduceReplicate, Nat.add_one_le_iff, -getElem?_pos, -getElem?_neg, List.getElem?_cons_zero, List.getElem?_cons_succ, iC, bC, z0, lz, tz, i1, -Tab.zero50]))
     | ((with_reducible first | refine awp_reg 70 hX [1, 2, 4, 5, 6, 7, 8, 9, 23, 27, 36, 54] ?_ | refine awp_drw 70 hX [1, 2, 4, 5, 6, 7, 8, 9, 23, 27, 36, 54] Tab.mixed (by kernel_rfl) ?_ | refine DEv_cut _ _ _ _ _ _ _ _ _ _ _ _ (by kernel_rfl) ?_ | change postOf _ _ _ _ _); simp [-List.reduceReplicate, Nat.add_one_le_iff, -getElem?_pos, -getElem?_neg, List.getElem?_cons_zero, List.getElem?_cons_succ, iC, bC, z0, lz, tz, i1, -Tab.zero50])
     | ((first | (refine (ld _).det ?_) | (refine ⟨_, _, ld _, fun _ => rfl, ?_⟩)); try simp [-List.reduceReplicate, Nat.add_one_le_iff, -getElem?_pos, -getElem?_neg, List.getElem?_cons_zero, List.getElem?_cons_succ, iC, bC, z0, lz, tz, i1, -Tab.zero50])
     | (with_reducible refine awp_if_b rfl (fun hc => ?_) (fun hc => ?_) <;> (try simp [-getElem?_pos, -getElem?_neg] at hc) <;> (try (exfalso; omega)))
     | ((with_reducible first | refine GuardK_b (fun hc => ?_) (fun hc => ?_) | refine DGuard_b _ _ _ _ _ _ _ _ _ _ (fun hc => ?_) (fun hc => ?_)) <;> (try simp only [Bool.not_eq_true', Bool.not_eq_false', decide_eq_true_eq, decide_eq_false_iff_not] at hc) <;> (first | (exfalso; omega) | skip) <;> simp [-List.reduceReplicate, Nat.add_one_le_iff, -getElem?_pos, -getElem?_neg, List.getElem?_cons_zero, List.getElem?_cons_succ, iC, bC, z0, lz, tz, i1, -Tab.zero50, hc])
     | ((with_reducible first | refine hother _ _ rfl ?_); simp only [inBlockA, thenA, noGotoA, Nat.reduceEqDiff, if_false, if_true, ↓reduceIte])
     | (with_reducible refine And.intro (by omega) ?_)
     | fail)
  · have hbl : bl x ≠ 0 := by unfold bl; rw [if_neg h0]; omega
    have hbn : bl x + n ≤ 320 := by
      obtain ⟨_, b⟩ := bl_spec x
      rcases b with c | c
      · omega
      · rcases Nat.lt_or_ge 320 (bl x + n) with d | d
        · exfalso
          have h1 : 2 ^ (bl x - 1) * 2 ^ n ≤ x * 2 ^ n := Nat.mul_le_mul_right _ c
          rw [← Nat.pow_add] at h1
          have h2 : 2 ^ (64 * 5) ≤ 2 ^ (bl x - 1 + n) := Nat.pow_le_pow_right (by decide) (by omega)
          omega
        · exact d
    obtain ⟨s, hs⟩ : ∃ s, n / 64 = s := ⟨_, rfl⟩
    obtain ⟨b, hb⟩ : ∃ b, n % 64 = b := ⟨_, rfl⟩
    have hb64 : b < 64 := by omega
    have hs5 : s < 5 := by omega
    have hnsb : n = 64 * s + b := by omega
    have hlow : ∀ t, t < s → lim (x * 2 ^ n) t = 0 := fun t h => by rw [hnsb]; exact lim_shl_low x s b t h
    obtain ⟨F0, F5, FL, FS⟩ := shlF_facts (x * 2 ^ n) s hlow
    have st0 : lim (x * 2 ^ n) s = lim x 0 * 2 ^ b % 18446744073709551616 := by rw [hnsb]; exact lim_shl_0 x s b
    have st1 : ∀ j, lim (x * 2 ^ n) (s + (j + 1)) = lim x (j + 1) * 2 ^ b % 18446744073709551616 + lim x j / 2 ^ (64 - b) := fun j => by rw [hnsb]; exact lim_shl_succ x s b j hb64
    have st2 : ∀ j, lim x (j + 1) * 2 ^ b % 18446744073709551616 ||| lim x j / 2 ^ (64 - b) = lim (x * 2 ^ n) (s + (j + 1)) := fun j => by rw [hnsb]; exact shl_or x s b j hb64
    have hlx := lim_lt x
    have gx := limC5_get x
    have lx := limC_len 5 x
    have tx : (limC 5 x).take 5 = limC 5 x := List.take_of_length_le (by rw [lx]; omega)
    unfold largeM at *
    rw [← F5]
    rw [← F0] at z0
    have FT : ∀ i, (shlF (x * 2 ^ n) i).take 5 = shlF (x * 2 ^ n) i := fun i => List.take_of_length_le (by rw [FL]; omega)
    clear F0 F5 hlow lz
    generalize shlF (x * 2 ^ n) = F at *
    generalize lim (x * 2 ^ n) = fy at *
    generalize lim x = fx at *
    generalize limC 5 x = cx at *
    generalize bl x = m at *
    have hm0 : (0 : Int) < m := by omega
    have w0 := wrap_in (320 - (m : Int)) (by omega)
    have c0 : ¬ (320 : Int) - m < n := by omega
    have c1 : ¬ (m : Int) = 0 := by omega
    have q1 : ((n : Int)).tdiv 64 = (s : Int) := by rw [← hs]; rfl
    have q2 : ((n : Int)).tmod 64 = (b : Int) := by rw [← hb]; rfl
    have i1 : ¬ (n : Int) < 0 := by omega
    have w1 := wrap_in (s : Int) (by omega)
    have w2 := wrapU64 (b : Int) (by omega)
    refine den_of Try.func100 rfl rfl (by simp [Try.ntmps100]) (fun X hX hO => ?_)
    rw [Try.ntmps100] at hX
    simp only [Try.results100]
    repeat' (first 
     | (with_reducible first | refine awp_scope ?_ | refine awp_seq ?_ | refine awp_block ?_)
     | ((with_reducible first | refine awp_label ?_ | refine awp_skip ?_); try simp only [thenA, inBlockA, noGotoA])
     | (with_reducible refine awp_exit ?_; simp only [thenA, inBlockA, noGotoA, if_true, Nat.reduceEqDiff, if_false, ↓reduceIte])
     | (with_reducible refine awp_ret ?_; (try simp only [thenA, inBlockA, noGotoA]); (try simp [-List.reduceReplicate, Nat.add_one_le_iff, -getElem?_pos, -getElem?_neg, List.getElem?_cons_zero, List.getElem?_cons_succ, iC, bC, z0, FL, FT, lx, tx, i1, hm0, w0, c0, c1, q1, q2, w1, w2, -Tab.zero50]))
     | ((with_reducible first | refine awp_reg 70 hX [1, 2, 4, 5, 6, 7, 8, 9, 23, 27, 36, 54] ?_ | refine awp_drw 70 hX [1, 2, 4, 5, 6, 7, 8, 9, 23, 27, 36, 54] Tab.mixed (by kernel_rfl) ?_ | refine DEv_cut _ _ _ _ _ _ _ _ _ _ _ _ (by kernel_rfl) ?_ | change postOf _ _ _ _ _); simp [-List.reduceReplicate, Nat.add_one_le_iff, -getElem?_pos, -getElem?_neg, List.getElem?_cons_zero, List.getElem?_cons_succ, iC, bC, z0, FL, FT, lx, tx, i1, hm0, w0, c0, c1, q1, q2, w1, w2, -Tab.zero50])
     | ((first | (refine (ld _).det ?_) | (refine ⟨_, _, ld _, fun _ => rfl, ?_⟩)); try simp [-List.reduceReplicate, Nat.add_one_le_iff, -getElem?_pos, -getElem?_neg, List.getElem?_cons_zero, List.getElem?_cons_succ, iC, bC, z0, FL, FT, lx, tx, i1, hm0, w0, c0, c1, q1, q2, w1, w2, -Tab.zero50])
     | (with_reducible refine awp_if_b rfl (fun hc => ?_) (fun hc => ?_) <;> (try simp [-getElem?_pos, -getElem?_neg] at hc) <;> (try (exfalso; omega)))
     | ((with_reducible first | refine GuardK_b (fun hc => ?_) (fun hc => ?_) | refine DGuard_b _ _ _ _ _ _ _ _ _ _ (fun hc => ?_) (fun hc => ?_)) <;> (try simp only [Bool.not_eq_true', Bool.not_eq_false', decide_eq_true_eq, decide_eq_false_iff_not] at hc) <;> (first | (exfalso; omega) | skip) <;> simp [-List.reduceReplicate, Nat.add_one_le_iff, -getElem?_pos, -getElem?_neg, List.getElem?_cons_zero, List.getElem?_cons_succ, iC, bC, z0, FL, FT, lx, tx, i1, hm0, w0, c0, c1, q1, q2, w1, w2, -Tab.zero50, hc])
     | ((with_reducible first | refine hother _ _ rfl ?_); simp only [inBlockA, thenA, noGotoA, Nat.reduceEqDiff, if_false, if_true, ↓reduceIte])
     | (with_reducible refine And.intro (by omega) ?_)
     | fail)
    refine awp_forU [2, 4, 6, 7, 8, 9] (fun j (_u : Unit) => [(9, .c (iC (s + j : Nat)))]) (fun j (_u : Unit) => [⟨50, 1, false, 0, up cx, none⟩, ⟨50, 1, false, 0, up (F s), none⟩, ⟨50, 1, false, 0, up (F (s + j)), none⟩]) (fun j (_u : Unit) => True) (5 - s) (()) (by first | trivial | (simp; done) | omega | (intros; simp at *; done)) (by simp [-List.reduceReplicate, keep, iC]) (by simp [-List.reduceReplicate, iC]) ?_
    rintro j _u Q1 hi hH next hother
    conv => arg 5; arg 1; simp only [List.cons_append, List.nil_append, keep, get, Nat.reduceEqDiff, if_true, if_false, ↓reduceIte]
    obtain ⟨i, hi'⟩ : ∃ i, s + j = i := ⟨_, rfl⟩
    have e1 : s + (j + 1) = i + 1 := by omega
    rw [hi'] at ⊢
    rw [e1] at next
    have hwi := wrap_in ((i : Int) + 1) (by omega)
    by_cases hlt : i < 5
    · have hlt2 : (i : Int) < 5 := by omega
      have hj5 : j < 5 := by omega
      have is1 : (i : Int) - (s : Int) = (j : Int) := by omega
      have wj := wrap_in (j : Int) (by omega)
      have g1 := gx j hj5
      have mb : min b IntKind.u64.bits = b := by show min b 64 = b; omega
      have hA : IntKind.u64.wrap ((fx j : Int) * 2 ^ b) = ((fx j * 2 ^ b % 18446744073709551616 : Nat) : Int) := by rw [mul_pow2, modU64]; rfl
      obtain ⟨A, hAe⟩ : ∃ A, fx j * 2 ^ b % 18446744073709551616 = A := ⟨_, rfl⟩
      rw [hAe] at hA
      have hfs := FS i hlt
      have i2 : ¬ (b : Int) < 0 := by omega
      have fl := FL i
      have hup : ∀ z, (up (F i)).set i (M.c z) = up ((F i).set i z) := fun z => by simp [up, List.map_set]
      have fl2 : ∀ z, ((F i).set i z).length = 5 := fun z => by simp [FL]
      unfold u64C at *
      by_cases hj : j = 0
      · subst hj
        have hA2 : A = fy i := by rw [← hAe, ← st0]; congr 1
        subst hA2
        have c2 : ¬ (s : Int) < (i : Int) := by omega
        have w00 : IntKind.i64.wrap 0 = 0 := rfl
        repeat' (first 
         | (with_reducible first | refine awp_scope ?_ | refine awp_seq ?_ | refine awp_block ?_)
         | ((with_reducible first | refine awp_label ?_ | refine awp_skip ?_); try simp only [thenA, inBlockA, noGotoA])
         | (with_reducible refine awp_exit ?_; simp only [thenA, inBlockA, noGotoA, if_true, Nat.reduceEqDiff, if_false, ↓reduceIte])
         | (with_reducible refine awp_ret ?_; (try simp only [thenA, inBlockA, noGotoA]); (try simp [-List.reduceReplicate, Nat.add_one_le_iff, -getElem?_pos, -getElem?_neg, List.getElem?_cons_zero, List.getElem?_cons_succ, iC, bC, u64C, hlt2, is1, wj, w00, g1, mb, hA, fl, hup, hfs, hj5, lx, hlt, i2, c2, hwi]))
         | ((with_reducible first | refine awp_reg 70 hX [1, 2, 4, 5, 6, 7, 8, 9, 23, 27, 36, 54] ?_ | refine awp_drw 70 hX [1, 2, 4, 5, 6, 7, 8, 9, 23, 27, 36, 54] Tab.mixed (by kernel_rfl) ?_ | refine DEv_cut _ _ _ _ _ _ _ _ _ _ _ _ (by kernel_rfl) ?_ | change postOf _ _ _ _ _); simp [-List.reduceReplicate, Nat.add_one_le_iff, -getElem?_pos, -getElem?_neg, List.getElem?_cons_zero, List.getElem?_cons_succ, iC, bC, u64C, hlt2, is1, wj, w00, g1, mb, hA, fl, hup, hfs, hj5, lx, hlt, i2, c2, hwi])
         | (with_reducible refine awp_if_b rfl (fun hc => ?_) (fun hc => ?_) <;> (try simp [-getElem?_pos, -getElem?_neg] at hc) <;> (try (exfalso; omega)))
         | ((with_reducible first | refine GuardK_b (fun hc => ?_) (fun hc => ?_) | refine DGuard_b _ _ _ _ _ _ _ _ _ _ (fun hc => ?_) (fun hc => ?_)) <;> (try simp only [Bool.not_eq_true', Bool.not_eq_false', decide_eq_true_eq, decide_eq_false_iff_not] at hc) <;> (first | (exfalso; omega) | skip) <;> simp [-List.reduceReplicate, Nat.add_one_le_iff, -getElem?_pos, -getElem?_neg, List.getElem?_cons_zero, List.getElem?_cons_succ, iC, bC, u64C, hlt2, is1, wj, w00, g1, mb, hA, fl, hup, hfs, hj5, lx, hlt, i2, c2, hwi, hc])
         | ((with_reducible first | refine hother _ _ rfl ?_); simp only [inBlockA, thenA, noGotoA, Nat.reduceEqDiff, if_false, if_true, ↓reduceIte])
         | (with_reducible refine And.intro (by omega) ?_)
         | fail)
        all_goals exact next _ _ () (by omega) trivial (by simp [keep, iC]) rfl
      · obtain ⟨k, hk⟩ : ∃ k, k + 1 = j := ⟨j - 1, by omega⟩
        have c2 : (s : Int) < (i : Int) := by omega
        have stk := st1 k
        have sok := st2 k
        rw [hk, hi', hAe] at stk sok
        by_cases hb0 : b = 0
        · have hA2 : A = fy i := by
            rw [stk, hb0, Nat.div_eq_of_lt (hlx k)]; rfl
          subst hA2
          have c3 : ¬ (0 : Int) < (b : Int) := by omega
          repeat' (first 
           | (with_reducible first | refine awp_scope ?_ | refine awp_seq ?_ | refine awp_block ?_)
           | ((with_reducible first | refine awp_label ?_ | refine awp_skip ?_); try simp only [thenA, inBlockA, noGotoA])
           | (with_reducible refine awp_exit ?_; simp only [thenA, inBlockA, noGotoA, if_true, Nat.reduceEqDiff, if_false, ↓reduceIte])
           | (with_reducible refine awp_ret ?_; (try simp only [thenA, inBlockA, noGotoA]); (try simp [-List.reduceReplicate, Nat.add_one_le_iff, -getElem?_pos, -getElem?_neg, List.getElem?_cons_zero, List.getElem?_cons_succ, iC, bC, u64C, hlt2, is1, wj, g1, mb, hA, fl, hup, hfs, hj5, lx, hlt, i2, c2, c3, hwi]))
           | ((with_reducible first | refine awp_reg 70 hX [1, 2, 4, 5, 6, 7, 8, 9, 23, 27, 36, 54] ?_ | refine awp_drw 70 hX [1, 2, 4, 5, 6, 7, 8, 9, 23, 27, 36, 54] Tab.mixed (by kernel_rfl) ?_ | refine DEv_cut _ _ _ _ _ _ _ _ _ _ _ _ (by kernel_rfl) ?_ | change postOf _ _ _ _ _); simp [-List.reduceReplicate, Nat.add_one_le_iff, -getElem?_pos, -getElem?_neg, List.getElem?_cons_zero, List.getElem?_cons_succ, iC, bC, u64C, hlt2, is1, wj, g1, mb, hA, fl, hup, hfs, hj5, lx, hlt, i2, c2, c3, hwi])
           | (with_reducible refine awp_if_b rfl (fun hc => ?_) (fun hc => ?_) <;> (try simp [-getElem?_pos, -getElem?_neg] at hc) <;> (try (exfalso; omega)))
           | ((with_reducible first | refine GuardK_b (fun hc => ?_) (fun hc => ?_) | refine DGuard_b _ _ _ _ _ _ _ _ _ _ (fun hc => ?_) (fun hc => ?_)) <;> (try simp only [Bool.not_eq_true', Bool.not_eq_false', decide_eq_true_eq, decide_eq_false_iff_not] at hc) <;> (first | (exfalso; omega) | skip) <;> simp [-List.reduceReplicate, Nat.add_one_le_iff, -getElem?_pos, -getElem?_neg, List.getElem?_cons_zero, List.getElem?_cons_succ, iC, bC, u64C, hlt2, is1, wj, g1, mb, hA, fl, hup, hfs, hj5, lx, hlt, i2, c2, c3, hwi, hc])
           | ((with_reducible first | refine hother _ _ rfl ?_); simp only [inBlockA, thenA, noGotoA, Nat.reduceEqDiff, if_false, if_true, ↓reduceIte])
           | (with_reducible refine And.intro (by omega) ?_)
           | fail)
          all_goals exact next _ _ () (by omega) trivial (by simp [keep, iC]) rfl
        · have c3 : (0 : Int) < (b : Int) := by omega
          have is3 : (j : Int) - 1 = (k : Int) := by omega
          have wk := wrap_in (k : Int) (by omega)
          have hk5 : k < 5 := by omega
          have g2 := gx k hk5
          have w64 := wrapU64 (64 - (b : Int)) (by omega)
          have tn : (64 - (b : Int)).toNat = 64 - b := by omega
          have mn : min (64 - b) IntKind.u64.bits = 64 - b := by show min (64 - b) 64 = 64 - b; omega
          have i3 : ¬ (64 - (b : Int)) < 0 := by omega
          have fd := fdiv_pow (fx k) (64 - b)
          have hAl : A < 18446744073709551616 := by rw [← hAe]; exact Nat.mod_lt _ (by decide)
          have hor := orU .u64 A (fx k / 2 ^ (64 - b)) hAl (Nat.lt_of_le_of_lt (Nat.div_le_self _ _) (hlx k)) rfl
          rw [sok] at hor
          generalize fx k / 2 ^ (64 - b) = D at *
          have gA : ((F i).set i (C.v (.int .u64 A)))[i]? = some (C.v (.int .u64 A)) := by simp [FL, hlt]
          have ss : ((F i).set i (C.v (.int .u64 A))).set i (C.v (.int .u64 (fy i))) = F (i + 1) := by rw [List.set_set]; exact hfs
          have fA := fl2 (C.v (.int .u64 A))
          have hup2 : ∀ z, (up ((F i).set i (C.v (.int .u64 A)))).set i (M.c z) = up (((F i).set i (C.v (.int .u64 A))).set i z) := fun z => by simp [up, List.map_set]
          have hG := hup (C.v (.int .u64 A))
          generalize (F i).set i (C.v (.int .u64 A)) = G at *
          repeat' (first 
           | (with_reducible first | refine awp_scope ?_ | refine awp_seq ?_ | refine awp_block ?_)
           | ((with_reducible first | refine awp_label ?_ | refine awp_skip ?_); try simp only [thenA, inBlockA, noGotoA])
           | (with_reducible refine awp_exit ?_; simp only [thenA, inBlockA, noGotoA, if_true, Nat.reduceEqDiff, if_false, ↓reduceIte])
           | (with_reducible refine awp_ret ?_; (try simp only [thenA, inBlockA, noGotoA]); (try simp [-List.reduceReplicate, Nat.add_one_le_iff, -getElem?_pos, -getElem?_neg, List.getElem?_cons_zero, List.getElem?_cons_succ, iC, bC, u64C, hlt2, is1, is3, wj, wk, g1, g2, mb, hA, fl, hG, hup2, hj5, hk5, lx, hlt, i2, i3, c2, c3, hwi, w64, tn, mn, fd, hor, gA, ss, fA]))
           | ((with_reducible first | refine awp_reg 70 hX [1, 2, 4, 5, 6, 7, 8, 9, 23, 27, 36, 54] ?_ | refine awp_drw 70 hX [1, 2, 4, 5, 6, 7, 8, 9, 23, 27, 36, 54] Tab.mixed (by kernel_rfl) ?_ | refine DEv_cut _ _ _ _ _ _ _ _ _ _ _ _ (by kernel_rfl) ?_ | change postOf _ _ _ _ _); simp [-List.reduceReplicate, Nat.add_one_le_iff, -getElem?_pos, -getElem?_neg, List.getElem?_cons_zero, List.getElem?_cons_succ, iC, bC, u64C, hlt2, is1, is3, wj, wk, g1, g2, mb, hA, fl, hG, hup2, hj5, hk5, lx, hlt, i2, i3, c2, c3, hwi, w64, tn, mn, fd, hor, gA, ss, fA])
           | (with_reducible refine awp_if_b rfl (fun hc => ?_) (fun hc => ?_) <;> (try simp [-getElem?_pos, -getElem?_neg] at hc) <;> (try (exfalso; omega)))
           | ((with_reducible first | refine GuardK_b (fun hc => ?_) (fun hc => ?_) | refine DGuard_b _ _ _ _ _ _ _ _ _ _ (fun hc => ?_) (fun hc => ?_)) <;> (try simp only [Bool.not_eq_true', Bool.not_eq_false', decide_eq_true_eq, decide_eq_false_iff_not] at hc) <;> (first | (exfalso; omega) | skip) <;> simp [-List.reduceReplicate, Nat.add_one_le_iff, -getElem?_pos, -getElem?_neg, List.getElem?_cons_zero, List.getElem?_cons_succ, iC, bC, u64C, hlt2, is1, is3, wj, wk, g1, g2, mb, hA, fl, hG, hup2, hj5, hk5, lx, hlt, i2, i3, c2, c3, hwi, w64, tn, mn, fd, hor, gA, ss, fA, hc])
           | ((with_reducible first | refine hother _ _ rfl ?_); simp only [inBlockA, thenA, noGotoA, Nat.reduceEqDiff, if_false, if_true, ↓reduceIte])
           | (with_reducible refine And.intro (by omega) ?_)
           | fail)
          all_goals exact next _ _ () (by omega) trivial (by simp [keep, iC]) rfl
    · have hi5 : i = 5 := by omega
      subst hi5
      repeat' (first 
       | (with_reducible first | refine awp_scope ?_ | refine awp_seq ?_ | refine awp_block ?_)
       | ((with_reducible first | refine awp_label ?_ | refine awp_skip ?_); try simp only [thenA, inBlockA, noGotoA])
       | (with_reducible refine awp_exit ?_; simp only [thenA, inBlockA, noGotoA, if_true, Nat.reduceEqDiff, if_false, ↓reduceIte])
       | (with_reducible refine awp_ret ?_; (try simp only [thenA, inBlockA, noGotoA]); (try simp [-List.reduceReplicate, Nat.add_one_le_iff, -getElem?_pos, -getElem?_neg, List.getElem?_cons_zero, List.getElem?_cons_succ, iC, bC, FL, FT]))
       | ((with_reducible first | refine awp_reg 70 hX [1, 2, 4, 5, 6, 7, 8, 9, 23, 27, 36, 54] ?_ | refine awp_drw 70 hX [1, 2, 4, 5, 6, 7, 8, 9, 23, 27, 36, 54] Tab.mixed (by kernel_rfl) ?_ | refine DEv_cut _ _ _ _ _ _ _ _ _ _ _ _ (by kernel_rfl) ?_ | change postOf _ _ _ _ _); simp [-List.reduceReplicate, Nat.add_one_le_iff, -getElem?_pos, -getElem?_neg, List.getElem?_cons_zero, List.getElem?_cons_succ, iC, bC, FL, FT])
       | (with_reducible refine awp_if_b rfl (fun hc => ?_) (fun hc => ?_) <;> (try simp [-getElem?_pos, -getElem?_neg] at hc) <;> (try (exfalso; omega)))
       | ((with_reducible first | refine GuardK_b (fun hc => ?_) (fun hc => ?_) | refine DGuard_b _ _ _ _ _ _ _ _ _ _ (fun hc => ?_) (fun hc => ?_)) <;> (try simp only [Bool.not_eq_true', Bool.not_eq_false', decide_eq_true_eq, decide_eq_false_iff_not] at hc) <;> (first | (exfalso; omega) | skip) <;> simp [-List.reduceReplicate, Nat.add_one_le_iff, -getElem?_pos, -getElem?_neg, List.getElem?_cons_zero, List.getElem?_cons_succ, iC, bC, FL, FT, hc])
       | ((with_reducible first | refine hother _ _ rfl ?_); simp only [inBlockA, thenA, noGotoA, Nat.reduceEqDiff, if_false, if_true, ↓reduceIte])
       | (with_reducible refine And.intro (by omega) ?_)
       | fail)
end Go.Av

set_option exponentiation.threshold 1000
set_option linter.unusedVariables false
set_option linter.unusedSimpArgs false
set_option maxRecDepth 100000
set_option maxHeartbeats 4000000
namespace Go.Av
open Go Go.Proofs Go.Proofs.Ytofomnllcmgfeaa Go.RowKit
/-! ### wide: Of, Cmp, Shr -/
def wideM (x : Nat) : M := .agg (up (limC 4 x))
theorem take64_den (b : ByteArray) (at_ : Int) (hat : -9223372036854775808 ≤ at_ ∧ at_ ≤ 9223372036854775807) (hb : b.size ≤ 9223372036854775807) : DenV Try.prog 102 [.c (.v (.string b)), .c (iC at_)] (.c (u64C (takeN b at_ 8))) := by
  refine Den.frame rfl rfl ?_
  have p := take_den b at_ 8 hat hb (by omega)
  generalize takeN b at_ 8 = r at *
  refine den_of Try.func102 rfl rfl (by simp [Try.ntmps102]) (fun X hX hO => ?_)
  rw [Try.ntmps102] at hX
  simp only [Try.results102]
  repeat' (first 
   | (with_reducible first | refine awp_scope ?_ | refine awp_seq ?_ | refine awp_block ?_)
   | ((with_reducible first | refine awp_label ?_ | refine awp_skip ?_); try simp only [thenA, inBlockA, noGotoA])
   | (with_reducible refine awp_exit ?_; simp only [thenA, inBlockA, noGotoA, if_true, Nat.reduceEqDiff, if_false, ↓reduceIte])
   | (with_reducible refine awp_ret ?_; (try simp only [thenA, inBlockA, noGotoA]); (try simp [-List.reduceReplicate, Nat.add_one_le_iff, -getElem?_pos, -getElem?_neg, List.getElem?_cons_zero, List.getElem?_cons_succ, u64C, iC]))
   | ((with_reducible first | refine awp_reg 8 hX [0, 1, 4] ?_ | change postOf _ _ _ _ _); simp [-List.reduceReplicate, Nat.add_one_le_iff, -getElem?_pos, -getElem?_neg, List.getElem?_cons_zero, List.getElem?_cons_succ, u64C, iC])
   | ((first | (refine (p _).det ?_)); try simp [-List.reduceReplicate, Nat.add_one_le_iff, -getElem?_pos, -getElem?_neg, List.getElem?_cons_zero, List.getElem?_cons_succ, u64C, iC])
   | (with_reducible refine awp_if_b rfl (fun hc => ?_) (fun hc => ?_) <;> (try simp [-getElem?_pos, -getElem?_neg] at hc) <;> (try (exfalso; omega)))
   | ((with_reducible first | refine GuardK_b (fun hc => ?_) (fun hc => ?_)) <;> (try simp only [Bool.not_eq_true', Bool.not_eq_false', decide_eq_true_eq, decide_eq_false_iff_not] at hc) <;> (first | (exfalso; omega) | skip) <;> simp [-List.reduceReplicate, Nat.add_one_le_iff, -getElem?_pos, -getElem?_neg, List.getElem?_cons_zero, List.getElem?_cons_succ, u64C, iC, hc])
   | (with_reducible refine And.intro (by omega) ?_)
   | fail)
set_option maxHeartbeats 4000000 in
theorem wcmp_den (x y : Nat) (hx : x < 2 ^ (64 * 4)) (hy : y < 2 ^ (64 * 4)) : DenV Try.prog 89 [wideM x, wideM y] (.c (iC (cmpN x y))) := by
  refine Den.frame (by simp [wideM, ltBs, ltB]) rfl ?_
  have gx := limC_get 4 x
  have gy := limC_get 4 y
  have lx := limC_len 4 x
  have ly := limC_len 4 y
  have hs := fun i => @lim_lt_of x y i
  have hs2 := fun i => @lim_lt_of y x i
  have he := fun i => @lim_eq_of x y i
  have h0 : x / 2 ^ (64 * (4 - 0)) = y / 2 ^ (64 * (4 - 0)) := by rw [Nat.div_eq_of_lt hx, Nat.div_eq_of_lt hy]
  have hend : x / 2 ^ (64 * 0) = y / 2 ^ (64 * 0) → x = y := fun h => by simpa using h
  unfold wideM
  generalize limC 4 x = cx at *
  generalize limC 4 y = cy at *
  generalize lim x = fx at *
  generalize lim y = fy at *
  obtain ⟨Ef, hE⟩ : ∃ Ef : Nat → Prop, Ef = fun j => x / 2 ^ (64 * j) = y / 2 ^ (64 * j) := ⟨_, rfl⟩
  have hs' : ∀ i, Ef (i + 1) → fx i < fy i → x < y := by rw [hE]; exact hs
  have hs2' : ∀ i, Ef (i + 1) → fy i < fx i → y < x := by rw [hE]; exact fun i h => hs2 i h.symm
  have he' : ∀ i, Ef (i + 1) → fx i = fy i → Ef i := by rw [hE]; exact he
  have h0' : Ef (4 - 0) := by rw [hE]; exact h0
  have hend' : Ef 0 → x = y := by rw [hE]; exact hend
  clear hs hs2 he h0 hend hE hx hy
  refine den_of Try.func89 rfl rfl (by simp [Try.ntmps89]) (fun X hX hO => ?_)
  rw [Try.ntmps89] at hX
  simp only [Try.results89]
  repeat' (first 
   | (with_reducible first | refine awp_scope ?_ | refine awp_seq ?_ | refine awp_block ?_)
   | ((with_reducible first | refine awp_label ?_ | refine awp_skip ?_); try simp only [thenA, inBlockA, noGotoA])
   | (with_reducible refine awp_exit ?_; simp only [thenA, inBlockA, noGotoA, if_true, Nat.reduceEqDiff, if_false, ↓reduceIte])
   | (with_reducible refine awp_ret ?_; (try simp only [thenA, inBlockA, noGotoA]); (try simp [-List.reduceReplicate, Nat.add_one_le_iff, -getElem?_pos, -getElem?_neg, List.getElem?_cons_zero, List.getElem?_cons_succ, iC, lx, ly]))
   | ((with_reducible first | refine awp_reg 28 hX [2, 3, 4, 5, 6, 7, 8, 9, 19, 23] ?_ | refine awp_drw 28 hX [2, 3, 4, 5, 6, 7, 8, 9, 19, 23] Tab.mixed (by kernel_rfl) ?_ | refine DEv_cut _ _ _ _ _ _ _ _ _ _ _ _ (by kernel_rfl) ?_ | change postOf _ _ _ _ _); simp [-List.reduceReplicate, Nat.add_one_le_iff, -getElem?_pos, -getElem?_neg, List.getElem?_cons_zero, List.getElem?_cons_succ, iC, lx, ly])
   | (with_reducible refine awp_if_b rfl (fun hc => ?_) (fun hc => ?_) <;> (try simp [-getElem?_pos, -getElem?_neg] at hc) <;> (try (exfalso; omega)))
   | ((with_reducible first | refine GuardK_b (fun hc => ?_) (fun hc => ?_) | refine DGuard_b _ _ _ _ _ _ _ _ _ _ (fun hc => ?_) (fun hc => ?_)) <;> (try simp only [Bool.not_eq_true', Bool.not_eq_false', decide_eq_true_eq, decide_eq_false_iff_not] at hc) <;> (first | (exfalso; omega) | skip) <;> simp [-List.reduceReplicate, Nat.add_one_le_iff, -getElem?_pos, -getElem?_neg, List.getElem?_cons_zero, List.getElem?_cons_succ, iC, lx, ly, hc])
   | ((with_reducible first | refine hother _ _ rfl ?_); simp only [inBlockA, thenA, noGotoA, Nat.reduceEqDiff, if_false, if_true, ↓reduceIte])
   | (with_reducible refine And.intro (by omega) ?_)
   | fail)
  refine awp_forU [2, 3, 8] (fun i (_u : Unit) => [(8, .c (iC i))]) (fun i (_u : Unit) => [⟨130, 1, false, 0, up cx, none⟩, ⟨130, 1, false, 0, up cy, none⟩]) (fun i (_u : Unit) => Ef (4 - i)) (4) (()) (h0') (by simp [-List.reduceReplicate, keep, iC]) (by simp [-List.reduceReplicate, iC]) ?_
  rintro i _u Q1 hi hH next hother
  conv => arg 5; arg 1; simp only [List.cons_append, List.nil_append, keep, get, Nat.reduceEqDiff, if_true, if_false, ↓reduceIte]
  have hwi := wrap_in ((i : Int) + 1) (by omega)
  by_cases hlt : i < 4
  · obtain ⟨j, hj⟩ : ∃ j, 3 - i = j := ⟨_, rfl⟩
    have hij : (3 - (i : Int)) = (j : Int) := by omega
    have e1 : 4 - i = j + 1 := by omega
    have e2 : 4 - (i + 1) = j := by omega
    have wj := wrap_in (j : Int) (by omega)
    have hj4 : j < 4 := by omega
    have hi2 : (i : Int) < 4 := by omega
    rw [e1] at hH
    rw [e2] at next
    have g1 := gx j hj4
    have g2 := gy j hj4
    by_cases c : fx j < fy j
    · have hcm := (cmpN_lt (hs' j hH c)).symm
      repeat' (first 
       | (with_reducible first | refine awp_scope ?_ | refine awp_seq ?_ | refine awp_block ?_)
       | ((with_reducible first | refine awp_label ?_ | refine awp_skip ?_); try simp only [thenA, inBlockA, noGotoA])
       | (with_reducible refine awp_exit ?_; simp only [thenA, inBlockA, noGotoA, if_true, Nat.reduceEqDiff, if_false, ↓reduceIte])
       | (with_reducible refine awp_ret ?_; (try simp only [thenA, inBlockA, noGotoA]); (try simp [-List.reduceReplicate, Nat.add_one_le_iff, -getElem?_pos, -getElem?_neg, List.getElem?_cons_zero, List.getElem?_cons_succ, iC, bC, u64C, hi2, hij, wj, hj4, g1, g2, lx, ly, c]))
       | ((with_reducible first | refine awp_reg 28 hX [2, 3, 4, 5, 6, 7, 8, 9, 19, 23] ?_ | refine awp_drw 28 hX [2, 3, 4, 5, 6, 7, 8, 9, 19, 23] Tab.mixed (by kernel_rfl) ?_ | refine DEv_cut _ _ _ _ _ _ _ _ _ _ _ _ (by kernel_rfl) ?_ | change postOf _ _ _ _ _); simp [-List.reduceReplicate, Nat.add_one_le_iff, -getElem?_pos, -getElem?_neg, List.getElem?_cons_zero, List.getElem?_cons_succ, iC, bC, u64C, hi2, hij, wj, hj4, g1, g2, lx, ly, c])
       | (with_reducible refine awp_if_b rfl (fun hc => ?_) (fun hc => ?_) <;> (try simp [-getElem?_pos, -getElem?_neg] at hc) <;> (try (exfalso; omega)))
       | ((with_reducible first | refine GuardK_b (fun hc => ?_) (fun hc => ?_) | refine DGuard_b _ _ _ _ _ _ _ _ _ _ (fun hc => ?_) (fun hc => ?_)) <;> (try simp only [Bool.not_eq_true', Bool.not_eq_false', decide_eq_true_eq, decide_eq_false_iff_not] at hc) <;> (first | (exfalso; omega) | skip) <;> simp [-List.reduceReplicate, Nat.add_one_le_iff, -getElem?_pos, -getElem?_neg, List.getElem?_cons_zero, List.getElem?_cons_succ, iC, bC, u64C, hi2, hij, wj, hj4, g1, g2, lx, ly, c, hc])
       | ((with_reducible first | refine hother _ _ rfl ?_); simp only [inBlockA, thenA, noGotoA, Nat.reduceEqDiff, if_false, if_true, ↓reduceIte])
       | (with_reducible refine And.intro (by omega) ?_)
       | fail)
      exact hcm
    · by_cases c2 : fy j < fx j
      · have hcm := (cmpN_gt (hs2' j hH c2)).symm
        repeat' (first 
         | (with_reducible first | refine awp_scope ?_ | refine awp_seq ?_ | refine awp_block ?_)
         | ((with_reducible first | refine awp_label ?_ | refine awp_skip ?_); try simp only [thenA, inBlockA, noGotoA])
         | (with_reducible refine awp_exit ?_; simp only [thenA, inBlockA, noGotoA, if_true, Nat.reduceEqDiff, if_false, ↓reduceIte])
         | (with_reducible refine awp_ret ?_; (try simp only [thenA, inBlockA, noGotoA]); (try simp [-List.reduceReplicate, Nat.add_one_le_iff, -getElem?_pos, -getElem?_neg, List.getElem?_cons_zero, List.getElem?_cons_succ, iC, bC, u64C, hi2, hij, wj, hj4, g1, g2, lx, ly, c, c2]))
         | ((with_reducible first | refine awp_reg 28 hX [2, 3, 4, 5, 6, 7, 8, 9, 19, 23] ?_ | refine awp_drw 28 hX [2, 3, 4, 5, 6, 7, 8, 9, 19, 23] Tab.mixed (by kernel_rfl) ?_ | refine DEv_cut _ _ _ _ _ _ _ _ _ _ _ _ (by kernel_rfl) ?_ | change postOf _ _ _ _ _); simp [-List.reduceReplicate, Nat.add_one_le_iff, -getElem?_pos, -getElem?_neg, List.getElem?_cons_zero, List.getElem?_cons_succ, iC, bC, u64C, hi2, hij, wj, hj4, g1, g2, lx, ly, c, c2])
         | (with_reducible refine awp_if_b rfl (fun hc => ?_) (fun hc => ?_) <;> (try simp [-getElem?_pos, -getElem?_neg] at hc) <;> (try (exfalso; omega)))
         | ((with_reducible first | refine GuardK_b (fun hc => ?_) (fun hc => ?_) | refine DGuard_b _ _ _ _ _ _ _ _ _ _ (fun hc => ?_) (fun hc => ?_)) <;> (try simp only [Bool.not_eq_true', Bool.not_eq_false', decide_eq_true_eq, decide_eq_false_iff_not] at hc) <;> (first | (exfalso; omega) | skip) <;> simp [-List.reduceReplicate, Nat.add_one_le_iff, -getElem?_pos, -getElem?_neg, List.getElem?_cons_zero, List.getElem?_cons_succ, iC, bC, u64C, hi2, hij, wj, hj4, g1, g2, lx, ly, c, c2, hc])
         | ((with_reducible first | refine hother _ _ rfl ?_); simp only [inBlockA, thenA, noGotoA, Nat.reduceEqDiff, if_false, if_true, ↓reduceIte])
         | (with_reducible refine And.intro (by omega) ?_)
         | fail)
        exact hcm
      · have nx := he' j hH (by omega)
        repeat' (first 
         | (with_reducible first | refine awp_scope ?_ | refine awp_seq ?_ | refine awp_block ?_)
         | ((with_reducible first | refine awp_label ?_ | refine awp_skip ?_); try simp only [thenA, inBlockA, noGotoA])
         | (with_reducible refine awp_exit ?_; simp only [thenA, inBlockA, noGotoA, if_true, Nat.reduceEqDiff, if_false, ↓reduceIte])
         | (with_reducible refine awp_ret ?_; (try simp only [thenA, inBlockA, noGotoA]); (try simp [-List.reduceReplicate, Nat.add_one_le_iff, -getElem?_pos, -getElem?_neg, List.getElem?_cons_zero, List.getElem?_cons_succ, iC, bC, u64C, hi2, hij, wj, hj4, g1, g2, lx, ly, hwi, c, c2]))
         | ((with_reducible first | refine awp_reg 28 hX [2, 3, 4, 5, 6, 7, 8, 9, 19, 23] ?_ | refine awp_drw 28 hX [2, 3, 4, 5, 6, 7, 8, 9, 19, 23] Tab.mixed (by kernel_rfl) ?_ | refine DEv_cut _ _ _ _ _ _ _ _ _ _ _ _ (by kernel_rfl) ?_ | change postOf _ _ _ _ _); simp [-List.reduceReplicate, Nat.add_one_le_iff, -getElem?_pos, -getElem?_neg, List.getElem?_cons_zero, List.getElem?_cons_succ, iC, bC, u64C, hi2, hij, wj, hj4, g1, g2, lx, ly, hwi, c, c2])
         | (with_reducible refine awp_if_b rfl (fun hc => ?_) (fun hc => ?_) <;> (try simp [-getElem?_pos, -getElem?_neg] at hc) <;> (try (exfalso; omega)))
         | ((with_reducible first | refine GuardK_b (fun hc => ?_) (fun hc => ?_) | refine DGuard_b _ _ _ _ _ _ _ _ _ _ (fun hc => ?_) (fun hc => ?_)) <;> (try simp only [Bool.not_eq_true', Bool.not_eq_false', decide_eq_true_eq, decide_eq_false_iff_not] at hc) <;> (first | (exfalso; omega) | skip) <;> simp [-List.reduceReplicate, Nat.add_one_le_iff, -getElem?_pos, -getElem?_neg, List.getElem?_cons_zero, List.getElem?_cons_succ, iC, bC, u64C, hi2, hij, wj, hj4, g1, g2, lx, ly, hwi, c, c2, hc])
         | ((with_reducible first | refine hother _ _ rfl ?_); simp only [inBlockA, thenA, noGotoA, Nat.reduceEqDiff, if_false, if_true, ↓reduceIte])
         | (with_reducible refine And.intro (by omega) ?_)
         | fail)
        refine next _ _ (()) (by omega) (by first | trivial | omega | assumption) (by simp [-List.reduceReplicate, keep, iC]) (by simp [-List.reduceReplicate, iC])
  · have hi3 : i = 4 := by omega
    subst hi3
    have hxy := hend' hH
    subst hxy
    have hcm := (cmpN_eq x).symm
    repeat' (first 
     | (with_reducible first | refine awp_scope ?_ | refine awp_seq ?_ | refine awp_block ?_)
     | ((with_reducible first | refine awp_label ?_ | refine awp_skip ?_); try simp only [thenA, inBlockA, noGotoA])
     | (with_reducible refine awp_exit ?_; simp only [thenA, inBlockA, noGotoA, if_true, Nat.reduceEqDiff, if_false, ↓reduceIte])
     | (with_reducible refine awp_ret ?_; (try simp only [thenA, inBlockA, noGotoA]); (try simp [-List.reduceReplicate, Nat.add_one_le_iff, -getElem?_pos, -getElem?_neg, List.getElem?_cons_zero, List.getElem?_cons_succ, iC]))
     | ((with_reducible first | refine awp_reg 28 hX [2, 3, 4, 5, 6, 7, 8, 9, 19, 23] ?_ | refine awp_drw 28 hX [2, 3, 4, 5, 6, 7, 8, 9, 19, 23] Tab.mixed (by kernel_rfl) ?_ | refine DEv_cut _ _ _ _ _ _ _ _ _ _ _ _ (by kernel_rfl) ?_ | change postOf _ _ _ _ _); simp [-List.reduceReplicate, Nat.add_one_le_iff, -getElem?_pos, -getElem?_neg, List.getElem?_cons_zero, List.getElem?_cons_succ, iC])
     | (with_reducible refine awp_if_b rfl (fun hc => ?_) (fun hc => ?_) <;> (try simp [-getElem?_pos, -getElem?_neg] at hc) <;> (try (exfalso; omega)))
     | ((with_reducible first | refine GuardK_b (fun hc => ?_) (fun hc => ?_) | refine DGuard_b _ _ _ _ _ _ _ _ _ _ (fun hc => ?_) (fun hc => ?_)) <;> (try simp only [Bool.not_eq_true', Bool.not_eq_false', decide_eq_true_eq, decide_eq_false_iff_not] at hc) <;> (first | (exfalso; omega) | skip) <;> simp [-List.reduceReplicate, Nat.add_one_le_iff, -getElem?_pos, -getElem?_neg, List.getElem?_cons_zero, List.getElem?_cons_succ, iC, hc])
     | ((with_reducible first | refine hother _ _ rfl ?_); simp only [inBlockA, thenA, noGotoA, Nat.reduceEqDiff, if_false, if_true, ↓reduceIte])
     | (with_reducible refine And.intro (by omega) ?_)
     | fail)
    exact hcm
/-- The limbs from a place on, zeros below it. -/
def revF (y i : Nat) : List C := (List.range 4).map fun t => u64C (if 4 - i ≤ t then lim y t else 0)
theorem revF_facts (y : Nat) : revF y 0 = [C.v (.int .u64 0), C.v (.int .u64 0), C.v (.int .u64 0), C.v (.int .u64 0)] ∧ revF y 4 = limC 4 y ∧ (∀ i, (revF y i).length = 4) ∧ ∀ i, i < 4 → (revF y i).set (3 - i) (u64C (lim y (3 - i))) = revF y (i + 1) := by
  refine ⟨by simp [revF, List.range_succ, u64C], ?_, fun i => by simp [revF], fun i hi => ?_⟩
  · unfold revF limC
    refine List.map_congr_left fun t ht => ?_
    rw [if_pos (by omega)]
  · unfold revF
    apply List.ext_getElem (by simp)
    intro t h1 h2
    simp at h1
    rw [List.getElem_set]
    simp only [List.getElem_map, List.getElem_range]
    by_cases c : 3 - i = t
    · subst c
      rw [if_pos rfl, if_pos (by omega)]
    · rw [if_neg c]
      by_cases d : 4 - i ≤ t
      · rw [if_pos d, if_pos (by omega)]
      · rw [if_neg d, if_neg (by omega)]
set_option maxHeartbeats 4000000 in
theorem wof_den (l : List UInt8) (hl : l.length = 32) : DenV Try.prog 88 [hashM l] (wideM (hv l)) := by
  refine Den.frame (by simp [ltBs, ltB, lt_hash]) (by simp [wideM, ltB, ltBs]) ?_
  have hsz : (ByteArray.mk l.toArray).size = 32 := by simp [ByteArray.size, hl]
  have tk := fun (i : Nat) (h : i < 4) => take64_den ⟨l.toArray⟩ ((8 * i : Nat) : Int) (by omega) (by omega)
  have tl := fun i h => take_lim l hl i h
  have hb8 : bytesM (up (l.map bC8)) = some l := bytesM_b8 l
  have t32 : (l.map bC8).take 32 = l.map bC8 := List.take_of_length_le (by simp [hl])
  obtain ⟨F0, F4, FL, FS⟩ := revF_facts (hv l)
  have FT : ∀ i, (revF (hv l) i).take 4 = revF (hv l) i := fun i => List.take_of_length_le (by rw [FL]; omega)
  have z0 : zeroT Try.prog 130 = some (up (revF (hv l) 0)) := by rw [F0]; kernel_rfl
  unfold wideM
  rw [← F4]
  generalize revF (hv l) = F at *
  generalize lim (hv l) = fx at *
  have lb : (l.map bC8).length = 32 := by simp [hl]
  clear F0 F4
  unfold hashM
  generalize l.map bC8 = cb at *
  refine den_of Try.func88 rfl rfl (by simp [Try.ntmps88]) (fun X hX hO => ?_)
  rw [Try.ntmps88] at hX
  simp only [Try.results88]
  repeat' (first 
   | (with_reducible first | refine awp_scope ?_ | refine awp_seq ?_ | refine awp_block ?_)
   | ((with_reducible first | refine awp_label ?_ | refine awp_skip ?_); try simp only [thenA, inBlockA, noGotoA])
   | (with_reducible refine awp_exit ?_; simp only [thenA, inBlockA, noGotoA, if_true, Nat.reduceEqDiff, if_false, ↓reduceIte])
   | (with_reducible refine awp_ret ?_; (try simp only [thenA, inBlockA, noGotoA]); (try simp [-List.reduceReplicate, Nat.add_one_le_iff, -getElem?_pos, -getElem?_neg, List.getElem?_cons_zero, List.getElem?_cons_succ, iC, lb, z0, -Tab.zero130]))
   | ((with_reducible first | refine awp_reg 18 hX [1, 2, 3, 4, 5, 6] ?_ | change postOf _ _ _ _ _); simp [-List.reduceReplicate, Nat.add_one_le_iff, -getElem?_pos, -getElem?_neg, List.getElem?_cons_zero, List.getElem?_cons_succ, iC, lb, z0, -Tab.zero130])
   | (with_reducible refine awp_if_b rfl (fun hc => ?_) (fun hc => ?_) <;> (try simp [-getElem?_pos, -getElem?_neg] at hc) <;> (try (exfalso; omega)))
   | ((with_reducible first | refine GuardK_b (fun hc => ?_) (fun hc => ?_)) <;> (try simp only [Bool.not_eq_true', Bool.not_eq_false', decide_eq_true_eq, decide_eq_false_iff_not] at hc) <;> (first | (exfalso; omega) | skip) <;> simp [-List.reduceReplicate, Nat.add_one_le_iff, -getElem?_pos, -getElem?_neg, List.getElem?_cons_zero, List.getElem?_cons_succ, iC, lb, z0, -Tab.zero130, hc])
   | ((with_reducible first | refine hother _ _ rfl ?_); simp only [inBlockA, thenA, noGotoA, Nat.reduceEqDiff, if_false, if_true, ↓reduceIte])
   | (with_reducible refine And.intro (by omega) ?_)
   | fail)
  refine awp_forU [1, 2, 3, 5] (fun i (_u : Unit) => [(5, .c (iC i))]) (fun i (_u : Unit) => [⟨71, 1, false, 0, up cb, none⟩, ⟨130, 1, false, 0, up (F 0), none⟩, ⟨130, 1, false, 0, up (F i), none⟩]) (fun i (_u : Unit) => True) (4) (()) (by first | trivial | (simp; done) | omega | (intros; simp at *; done)) (by simp [-List.reduceReplicate, keep, iC]) (by simp [-List.reduceReplicate, iC]) ?_
  rintro i _u Q1 hi hH next hother
  conv => arg 5; arg 1; simp only [List.cons_append, List.nil_append, keep, get, Nat.reduceEqDiff, if_true, if_false, ↓reduceIte]
  have hwi := wrap_in ((i : Int) + 1) (by omega)
  by_cases hlt : i < 4
  · have hi2 : (i : Int) < 4 := by omega
    have q1 := tk i hlt
    rw [tl i hlt] at q1
    have q2 : ((8 * i : Nat) : Int) = 8 * (i : Int) := by omega
    rw [q2] at q1
    have fs := FS i hlt
    obtain ⟨j, hj⟩ : ∃ j, 3 - i = j := ⟨_, rfl⟩
    rw [hj] at fs q1
    have hij : (3 - (i : Int)) = (j : Int) := by omega
    have wj := wrap_in (j : Int) (by omega)
    have w8 := wrap_in (8 * (i : Int)) (by omega)
    have hj4 : j < 4 := by omega
    have fl := FL i
    have hset : (up (F i)).set j (M.c (u64C (fx j))) = up (F (i + 1)) := by rw [← fs]; simp [up, List.map_set]
    generalize fx j = z at *
    unfold u64C at *
    repeat' (first 
     | (with_reducible first | refine awp_scope ?_ | refine awp_seq ?_ | refine awp_block ?_)
     | ((with_reducible first | refine awp_label ?_ | refine awp_skip ?_); try simp only [thenA, inBlockA, noGotoA])
     | (with_reducible refine awp_exit ?_; simp only [thenA, inBlockA, noGotoA, if_true, Nat.reduceEqDiff, if_false, ↓reduceIte])
     | (with_reducible refine awp_ret ?_; (try simp only [thenA, inBlockA, noGotoA]); (try simp [-List.reduceReplicate, Nat.add_one_le_iff, -getElem?_pos, -getElem?_neg, List.getElem?_cons_zero, List.getElem?_cons_succ, iC, bC, hi2, hij, wj, w8, hj4, fl, lb, hb8, t32, hset, hwi]))
     | ((with_reducible first | refine awp_reg 18 hX [1, 2, 3, 4, 5, 6] ?_ | change postOf _ _ _ _ _); simp [-List.reduceReplicate, Nat.add_one_le_iff, -getElem?_pos, -getElem?_neg, List.getElem?_cons_zero, List.getElem?_cons_succ, iC, bC, hi2, hij, wj, w8, hj4, fl, lb, hb8, t32, hset, hwi])
     | ((first | (refine (q1 _).det ?_)); try simp [-List.reduceReplicate, Nat.add_one_le_iff, -getElem?_pos, -getElem?_neg, List.getElem?_cons_zero, List.getElem?_cons_succ, iC, bC, hi2, hij, wj, w8, hj4, fl, lb, hb8, t32, hset, hwi])
     | (with_reducible refine awp_if_b rfl (fun hc => ?_) (fun hc => ?_) <;> (try simp [-getElem?_pos, -getElem?_neg] at hc) <;> (try (exfalso; omega)))
     | ((with_reducible first | refine GuardK_b (fun hc => ?_) (fun hc => ?_)) <;> (try simp only [Bool.not_eq_true', Bool.not_eq_false', decide_eq_true_eq, decide_eq_false_iff_not] at hc) <;> (first | (exfalso; omega) | skip) <;> simp [-List.reduceReplicate, Nat.add_one_le_iff, -getElem?_pos, -getElem?_neg, List.getElem?_cons_zero, List.getElem?_cons_succ, iC, bC, hi2, hij, wj, w8, hj4, fl, lb, hb8, t32, hset, hwi, hc])
     | ((with_reducible first | refine hother _ _ rfl ?_); simp only [inBlockA, thenA, noGotoA, Nat.reduceEqDiff, if_false, if_true, ↓reduceIte])
     | (with_reducible refine And.intro (by omega) ?_)
     | fail)
    refine next _ _ (()) (by omega) (by first | trivial | omega | assumption) (by simp [-List.reduceReplicate, keep, iC]) (by simp [-List.reduceReplicate, iC])
  · have hi3 : i = 4 := by omega
    subst hi3
    repeat' (first 
     | (with_reducible first | refine awp_scope ?_ | refine awp_seq ?_ | refine awp_block ?_)
     | ((with_reducible first | refine awp_label ?_ | refine awp_skip ?_); try simp only [thenA, inBlockA, noGotoA])
     | (with_reducible refine awp_exit ?_; simp only [thenA, inBlockA, noGotoA, if_true, Nat.reduceEqDiff, if_false, ↓reduceIte])
     | (with_reducible refine awp_ret ?_; (try simp only [thenA, inBlockA, noGotoA]); (try simp [-List.reduceReplicate, Nat.add_one_le_iff, -getElem?_pos, -getElem?_neg, List.getElem?_cons_zero, List.getElem?_cons_succ, iC, FL, FT]))
     | ((with_reducible first | refine awp_reg 18 hX [1, 2, 3, 4, 5, 6] ?_ | change postOf _ _ _ _ _); simp [-List.reduceReplicate, Nat.add_one_le_iff, -getElem?_pos, -getElem?_neg, List.getElem?_cons_zero, List.getElem?_cons_succ, iC, FL, FT])
     | (with_reducible refine awp_if_b rfl (fun hc => ?_) (fun hc => ?_) <;> (try simp [-getElem?_pos, -getElem?_neg] at hc) <;> (try (exfalso; omega)))
     | ((with_reducible first | refine GuardK_b (fun hc => ?_) (fun hc => ?_)) <;> (try simp only [Bool.not_eq_true', Bool.not_eq_false', decide_eq_true_eq, decide_eq_false_iff_not] at hc) <;> (first | (exfalso; omega) | skip) <;> simp [-List.reduceReplicate, Nat.add_one_le_iff, -getElem?_pos, -getElem?_neg, List.getElem?_cons_zero, List.getElem?_cons_succ, iC, FL, FT, hc])
     | ((with_reducible first | refine hother _ _ rfl ?_); simp only [inBlockA, thenA, noGotoA, Nat.reduceEqDiff, if_false, if_true, ↓reduceIte])
     | (with_reducible refine And.intro (by omega) ?_)
     | fail)
/-- The limbs below a place, zeros from there on. -/
def wF (y i : Nat) : List C := (List.range 4).map fun t => u64C (if t < i then lim y t else 0)
theorem wF_facts (y n : Nat) (h : ∀ t, n ≤ t → lim y t = 0) (hn : n ≤ 4) : wF y 0 = [C.v (.int .u64 0), C.v (.int .u64 0), C.v (.int .u64 0), C.v (.int .u64 0)] ∧ wF y n = limC 4 y ∧ (∀ i, (wF y i).length = 4) ∧ ∀ i, i < 4 → (wF y i).set i (u64C (lim y i)) = wF y (i + 1) := by
  refine ⟨by simp [wF, List.range_succ, u64C], ?_, fun i => by simp [wF], fun i hi => ?_⟩
  · unfold wF limC
    refine List.map_congr_left fun t ht => ?_
    by_cases c : t < n
    · rw [if_pos c]
    · rw [if_neg c, h t (by omega)]
  · unfold wF
    apply List.ext_getElem (by simp)
    intro t h1 h2
    simp at h1
    rw [List.getElem_set]
    simp only [List.getElem_map, List.getElem_range]
    by_cases c : i = t
    · subst c
      rw [if_pos rfl, if_pos (by omega)]
    · rw [if_neg c]
      by_cases d : t < i
      · rw [if_pos d, if_pos (by omega)]
      · rw [if_neg d, if_neg (by omega)]
set_option maxHeartbeats 8000000 in
theorem wshr_den (x n : Nat) (hx : x < 2 ^ (64 * 4)) (hn : n ≤ 255) : DenV Try.prog 90 [wideM x, .c (iC n)] (wideM (x / 2 ^ n)) := by
  refine Den.frame (by simp [wideM, ltBs, ltB]) (by simp [wideM, ltB, ltBs]) ?_
  have lx := limC_len 4 x
  have tx : (limC 4 x).take 4 = limC 4 x := List.take_of_length_le (by rw [lx]; omega)
  by_cases h0 : n = 0
  · subst h0
    rw [Nat.pow_zero, Nat.div_one]
    have lyw : lay [M.c (C.v (.int .u64 0)), M.c (C.v (.int .u64 0)), M.c (C.v (.int .u64 0)), M.c (C.v (.int .u64 0))] 0 (up (limC 4 x)) = up (limC 4 x) := by
      rw [lay_app _ _ _ (by simp [up, lx])]
      simp [up, lx]
    unfold wideM
    generalize limC 4 x = cx at *
    refine den_of Try.func90 rfl rfl (by simp [Try.ntmps90]) (fun X hX hO => ?_)
    rw [Try.ntmps90] at hX
    simp only [Try.results90]
    repeat' (first 
     | (with_reducible first | refine awp_scope ?_ | refine awp_seq ?_ | refine awp_block ?_)
     | ((with_reducible first | refine awp_label ?_ | refine awp_skip ?_); try simp only [thenA, inBlockA, noGotoA])
     | (with_reducible refine awp_exit ?_; simp only [thenA, inBlockA, noGotoA, if_true, Nat.reduceEqDiff, if_false, ↓reduceIte])
     | (with_reducible refine awp_ret ?_; (try simp only [thenA, inBlockA, noGotoA]); (try simp [-List.reduceReplicate, Nat.add_one_le_iff, -getElem?_pos, -getElem?_neg, List.getElem?_cons_zero, List.getElem?_cons_succ, iC, bC, lx, tx, lyw]))
     | ((with_reducible first | refine awp_reg 59 hX [1, 2, 4, 5, 6, 7, 8, 10, 13, 21, 22, 23, 42] ?_ | refine awp_drw 59 hX [1, 2, 4, 5, 6, 7, 8, 10, 13, 21, 22, 23, 42] Tab.mixed (by kernel_rfl) ?_ | refine DEv_cut _ _ _ _ _ _ _ _ _ _ _ _ (by kernel_rfl) ?_ | change postOf _ _ _ _ _); simp [-List.reduceReplicate, Nat.add_one_le_iff, -getElem?_pos, -getElem?_neg, List.getElem?_cons_zero, List.getElem?_cons_succ, iC, bC, lx, tx, lyw])
     | (with_reducible refine awp_if_b rfl (fun hc => ?_) (fun hc => ?_) <;> (try simp [-getElem?_pos, -getElem?_neg] at hc) <;> (try (exfalso; omega)))
     | ((with_reducible first | refine GuardK_b (fun hc => ?_) (fun hc => ?_) | refine DGuard_b _ _ _ _ _ _ _ _ _ _ (fun hc => ?_) (fun hc => ?_)) <;> (try simp only [Bool.not_eq_true', Bool.not_eq_false', decide_eq_true_eq, decide_eq_false_iff_not] at hc) <;> (first | (exfalso; omega) | skip) <;> simp [-List.reduceReplicate, Nat.add_one_le_iff, -getElem?_pos, -getElem?_neg, List.getElem?_cons_zero, List.getElem?_cons_succ, iC, bC, lx, tx, lyw, hc])
     | ((with_reducible first | refine hother _ _ rfl ?_); simp only [inBlockA, thenA, noGotoA, Nat.reduceEqDiff, if_false, if_true, ↓reduceIte])
     | (with_reducible refine And.intro (by omega) ?_)
     | fail)
  · obtain ⟨s, hs⟩ : ∃ s, n / 64 = s := ⟨_, rfl⟩
    obtain ⟨b, hb⟩ : ∃ b, n % 64 = b := ⟨_, rfl⟩
    have hb64 : b < 64 := by omega
    have hs4 : s < 4 := by omega
    have hnsb : n = 64 * s + b := by omega
    have hlow : ∀ t, 4 - s ≤ t → lim (x / 2 ^ n) t = 0 := fun t h => by
      rw [hnsb, Nat.pow_add, ← Nat.div_div_eq_div_mul]
      have h1 : x / 2 ^ (64 * s) / 2 ^ b ≤ x / 2 ^ (64 * s) := Nat.div_le_self _ _
      refine lim_high _ t (4 - s) (Nat.lt_of_le_of_lt h1 (Nat.div_lt_of_lt_mul ?_)) h
      rw [← Nat.pow_add, show 64 * s + 64 * (4 - s) = 64 * 4 by omega]; exact hx
    obtain ⟨F0, F4, FL, FS⟩ := wF_facts (x / 2 ^ n) (4 - s) hlow (by omega)
    have FT : ∀ i, (wF (x / 2 ^ n) i).take 4 = wF (x / 2 ^ n) i := fun i => List.take_of_length_le (by rw [FL]; omega)
    have z0 : zeroT Try.prog 130 = some (up (wF (x / 2 ^ n) 0)) := by rw [F0]; kernel_rfl
    have st0 : b = 0 → ∀ i, lim (x / 2 ^ n) i = lim x (i + s) := fun h i => by rw [hnsb, h, Nat.add_zero]; exact lim_shr_0 x s i
    have st1 : 0 < b → ∀ i, lim (x / 2 ^ n) i = lim x (i + s + 1) * 2 ^ (64 - b) % 18446744073709551616 + lim x (i + s) / 2 ^ b := fun h i => by rw [hnsb]; exact lim_shr_add x s b i h hb64
    have st2 : 0 < b → ∀ i, lim x (i + s) / 2 ^ b ||| lim x (i + s + 1) * 2 ^ (64 - b) % 18446744073709551616 = lim (x / 2 ^ n) i := fun h i => by rw [hnsb]; exact shr_or x s b i h hb64
    have hz : lim x 4 = 0 := lim_high x 4 4 hx (by omega)
    have hlx := lim_lt x
    have gx := limC_get 4 x
    have q1 : ((n : Int)).tdiv 64 = (s : Int) := by rw [← hs]; rfl
    have q2 : ((n : Int)).tmod 64 = (b : Int) := by rw [← hb]; rfl
    have i1 : ¬ (n : Int) ≤ 0 := by omega
    have i2 : ¬ (256 : Int) ≤ n := by omega
    have w1 := wrap_in (s : Int) (by omega)
    have w2 := wrapU64 (b : Int) (by omega)
    obtain ⟨m, hm⟩ : ∃ m, 4 - s = m := ⟨_, rfl⟩
    have e4s : (4 - (s : Int)) = (m : Int) := by omega
    have w3 := wrap_in (m : Int) (by omega)
    rw [hm] at F4
    unfold wideM
    rw [← F4]
    clear F0 F4 hlow
    generalize wF (x / 2 ^ n) = F at *
    generalize lim (x / 2 ^ n) = fy at *
    generalize lim x = fx at *
    generalize limC 4 x = cx at *
    refine den_of Try.func90 rfl rfl (by simp [Try.ntmps90]) (fun X hX hO => ?_)
    rw [Try.ntmps90] at hX
    simp only [Try.results90]
    repeat' (first 
     | (with_reducible first | refine awp_scope ?_ | refine awp_seq ?_ | refine awp_block ?_)
     | ((with_reducible first | refine awp_label ?_ | refine awp_skip ?_); try simp only [thenA, inBlockA, noGotoA])
     | (with_reducible refine awp_exit ?_; simp only [thenA, inBlockA, noGotoA, if_true, Nat.reduceEqDiff, if_false, ↓reduceIte])
     | (with_reducible refine awp_ret ?_; (try simp only [thenA, inBlockA, noGotoA]); (try simp [-List.reduceReplicate, Nat.add_one_le_iff, -getElem?_pos, -getElem?_neg, List.getElem?_cons_zero, List.getElem?_cons_succ, iC, bC, z0, FL, FT, lx, tx, i1, i2, q1, q2, w1, w2, w3, e4s, -Tab.zero130]))
     | ((with_reducible first | refine awp_reg 59 hX [1, 2, 4, 5, 6, 7, 8, 10, 13, 21, 22, 23, 42] ?_ | refine awp_drw 59 hX [1, 2, 4, 5, 6, 7, 8, 10, 13, 21, 22, 23, 42] Tab.mixed (by kernel_rfl) ?_ | refine DEv_cut _ _ _ _ _ _ _ _ _ _ _ _ (by kernel_rfl) ?_ | change postOf _ _ _ _ _); simp [-List.reduceReplicate, Nat.add_one_le_iff, -getElem?_pos, -getElem?_neg, List.getElem?_cons_zero, List.getElem?_cons_succ, iC, bC, z0, FL, FT, lx, tx, i1, i2, q1, q2, w1, w2, w3, e4s, -Tab.zero130])
     | (with_reducible refine awp_if_b rfl (fun hc => ?_) (fun hc => ?_) <;> (try simp [-getElem?_pos, -getElem?_neg] at hc) <;> (try (exfalso; omega)))
     | ((with_reducible first | refine GuardK_b (fun hc => ?_) (fun hc => ?_) | refine DGuard_b _ _ _ _ _ _ _ _ _ _ (fun hc => ?_) (fun hc => ?_)) <;> (try simp only [Bool.not_eq_true', Bool.not_eq_false', decide_eq_true_eq, decide_eq_false_iff_not] at hc) <;> (first | (exfalso; omega) | skip) <;> simp [-List.reduceReplicate, Nat.add_one_le_iff, -getElem?_pos, -getElem?_neg, List.getElem?_cons_zero, List.getElem?_cons_succ, iC, bC, z0, FL, FT, lx, tx, i1, i2, q1, q2, w1, w2, w3, e4s, -Tab.zero130, hc])
     | ((with_reducible first | refine hother _ _ rfl ?_); simp only [inBlockA, thenA, noGotoA, Nat.reduceEqDiff, if_false, if_true, ↓reduceIte])
     | (with_reducible refine And.intro (by omega) ?_)
     | fail)
    refine awp_forU [2, 4, 5, 6, 7, 21, 22] (fun i (_u : Unit) => [(22, .c (iC i))]) (fun i (_u : Unit) => [⟨130, 1, false, 0, up cx, none⟩, ⟨130, 1, false, 0, up (F 0), none⟩, ⟨130, 1, false, 0, up (F i), none⟩]) (fun i (_u : Unit) => True) (m) (()) (by first | trivial | (simp; done) | omega | (intros; simp at *; done)) (by simp [-List.reduceReplicate, keep, iC]) (by simp [-List.reduceReplicate, iC]) ?_
    rintro i _u Q1 hi hH next hother
    conv => arg 5; arg 1; simp only [List.cons_append, List.nil_append, keep, get, Nat.reduceEqDiff, if_true, if_false, ↓reduceIte]
    have hwi := wrap_in ((i : Int) + 1) (by omega)
    by_cases hlt : i < m
    · have hi4 : i < 4 := by omega
      obtain ⟨j, hj⟩ : ∃ j, i + s = j := ⟨_, rfl⟩
      have hij : (i : Int) + (s : Int) = (j : Int) := by omega
      have wj := wrap_in (j : Int) (by omega)
      have hj4 : j < 4 := by omega
      have g1 := gx j hj4
      have mb : min b IntKind.u64.bits = b := by show min b 64 = b; omega
      have fd := fdiv_pow (fx j) b
      have ib : ¬ (b : Int) < 0 := by omega
      have fs := FS i hi4
      have fl := FL i
      have hup : ∀ z, (up (F i)).set i (M.c z) = up ((F i).set i z) := fun z => by simp [up, List.map_set]
      obtain ⟨A, hA⟩ : ∃ A, fx j / 2 ^ b = A := ⟨_, rfl⟩
      have hAl : A < 18446744073709551616 := by rw [← hA]; exact Nat.lt_of_le_of_lt (Nat.div_le_self _ _) (hlx j)
      rw [hA] at fd
      by_cases hb0 : b = 0
      · have hA2 : A = fy i := by rw [← hA, st0 hb0 i, hj, hb0]; simp
        subst hA2
        have c3 : ¬ (0 : Int) < (b : Int) := by omega
        unfold u64C at *
        repeat' (first 
         | (with_reducible first | refine awp_scope ?_ | refine awp_seq ?_ | refine awp_block ?_)
         | ((with_reducible first | refine awp_label ?_ | refine awp_skip ?_); try simp only [thenA, inBlockA, noGotoA])
         | (with_reducible refine awp_exit ?_; simp only [thenA, inBlockA, noGotoA, if_true, Nat.reduceEqDiff, if_false, ↓reduceIte])
         | (with_reducible refine awp_ret ?_; (try simp only [thenA, inBlockA, noGotoA]); (try simp [-List.reduceReplicate, Nat.add_one_le_iff, -getElem?_pos, -getElem?_neg, List.getElem?_cons_zero, List.getElem?_cons_succ, iC, bC, hlt, hij, wj, hj4, hi4, g1, mb, fd, ib, fl, hup, fs, lx, c3, hwi]))
         | ((with_reducible first | refine awp_reg 59 hX [1, 2, 4, 5, 6, 7, 8, 10, 13, 21, 22, 23, 42] ?_ | refine awp_drw 59 hX [1, 2, 4, 5, 6, 7, 8, 10, 13, 21, 22, 23, 42] Tab.mixed (by kernel_rfl) ?_ | refine DEv_cut _ _ _ _ _ _ _ _ _ _ _ _ (by kernel_rfl) ?_ | change postOf _ _ _ _ _); simp [-List.reduceReplicate, Nat.add_one_le_iff, -getElem?_pos, -getElem?_neg, List.getElem?_cons_zero, List.getElem?_cons_succ, iC, bC, hlt, hij, wj, hj4, hi4, g1, mb, fd, ib, fl, hup, fs, lx, c3, hwi])
         | (with_reducible refine awp_if_b rfl (fun hc => ?_) (fun hc => ?_) <;> (try simp [-getElem?_pos, -getElem?_neg] at hc) <;> (try (exfalso; omega)))
         | ((with_reducible first | refine GuardK_b (fun hc => ?_) (fun hc => ?_) | refine DGuard_b _ _ _ _ _ _ _ _ _ _ (fun hc => ?_) (fun hc => ?_)) <;> (try simp only [Bool.not_eq_true', Bool.not_eq_false', decide_eq_true_eq, decide_eq_false_iff_not] at hc) <;> (first | (exfalso; omega) | skip) <;> simp [-List.reduceReplicate, Nat.add_one_le_iff, -getElem?_pos, -getElem?_neg, List.getElem?_cons_zero, List.getElem?_cons_succ, iC, bC, hlt, hij, wj, hj4, hi4, g1, mb, fd, ib, fl, hup, fs, lx, c3, hwi, hc])
         | ((with_reducible first | refine hother _ _ rfl ?_); simp only [inBlockA, thenA, noGotoA, Nat.reduceEqDiff, if_false, if_true, ↓reduceIte])
         | (with_reducible refine And.intro (by omega) ?_)
         | fail)
        all_goals exact next _ _ () (by omega) trivial (by simp [keep, iC]) rfl
      · have hb1 : 0 < b := by omega
        have c3 : (0 : Int) < (b : Int) := by omega
        have stk := st1 hb1 i
        have sok := st2 hb1 i
        rw [hj, hA] at stk sok
        have w5 := wrap_in ((j : Int) + 1) (by omega)
        by_cases hj3 : j = 3
        · have hA2 : A = fy i := by rw [stk, hj3, hz]; simp
          subst hA2
          have c4 : ¬ (j : Int) + 1 < 4 := by omega
          unfold u64C at *
          repeat' (first 
           | (with_reducible first | refine awp_scope ?_ | refine awp_seq ?_ | refine awp_block ?_)
           | ((with_reducible first | refine awp_label ?_ | refine awp_skip ?_); try simp only [thenA, inBlockA, noGotoA])
           | (with_reducible refine awp_exit ?_; simp only [thenA, inBlockA, noGotoA, if_true, Nat.reduceEqDiff, if_false, ↓reduceIte])
           | (with_reducible refine awp_ret ?_; (try simp only [thenA, inBlockA, noGotoA]); (try simp [-List.reduceReplicate, Nat.add_one_le_iff, -getElem?_pos, -getElem?_neg, List.getElem?_cons_zero, List.getElem?_cons_succ, iC, bC, hlt, hij, wj, hj4, hi4, g1, mb, fd, ib, fl, hup, fs, lx, c3, c4, w5, hwi]))
           | ((with_reducible first | refine awp_reg 59 hX [1, 2, 4, 5, 6, 7, 8, 10, 13, 21, 22, 23, 42] ?_ | refine awp_drw 59 hX [1, 2, 4, 5, 6, 7, 8, 10, 13, 21, 22, 23, 42] Tab.mixed (by kernel_rfl) ?_ | refine DEv_cut _ _ _ _ _ _ _ _ _ _ _ _ (by kernel_rfl) ?_ | change postOf _ _ _ _ _); simp [-List.reduceReplicate, Nat.add_one_le_iff, -getElem?_pos, -getElem?_neg, List.getElem?_cons_zero, List.getElem?_cons_succ, iC, bC, hlt, hij, wj, hj4, hi4, g1, mb, fd, ib, fl, hup, fs, lx, c3, c4, w5, hwi])
           | (with_reducible refine awp_if_b rfl (fun hc => ?_) (fun hc => ?_) <;> (try simp [-getElem?_pos, -getElem?_neg] at hc) <;> (try (exfalso; omega)))
           | ((with_reducible first | refine GuardK_b (fun hc => ?_) (fun hc => ?_) | refine DGuard_b _ _ _ _ _ _ _ _ _ _ (fun hc => ?_) (fun hc => ?_)) <;> (try simp only [Bool.not_eq_true', Bool.not_eq_false', decide_eq_true_eq, decide_eq_false_iff_not] at hc) <;> (first | (exfalso; omega) | skip) <;> simp [-List.reduceReplicate, Nat.add_one_le_iff, -getElem?_pos, -getElem?_neg, List.getElem?_cons_zero, List.getElem?_cons_succ, iC, bC, hlt, hij, wj, hj4, hi4, g1, mb, fd, ib, fl, hup, fs, lx, c3, c4, w5, hwi, hc])
           | ((with_reducible first | refine hother _ _ rfl ?_); simp only [inBlockA, thenA, noGotoA, Nat.reduceEqDiff, if_false, if_true, ↓reduceIte])
           | (with_reducible refine And.intro (by omega) ?_)
           | fail)
          all_goals exact next _ _ () (by omega) trivial (by simp [keep, iC]) rfl
        · have c4 : (j : Int) + 1 < 4 := by omega
          have hk4 : j + 1 < 4 := by omega
          have g2 := gx (j + 1) hk4
          have tk : ((j : Int) + 1).toNat = j + 1 := by omega
          have c5 : 0 ≤ (j : Int) + 1 := by omega
          have w64 := wrapU64 (64 - (b : Int)) (by omega)
          have tn : (64 - (b : Int)).toNat = 64 - b := by omega
          have mn : min (64 - b) IntKind.u64.bits = 64 - b := by show min (64 - b) 64 = 64 - b; omega
          have i3 : ¬ (64 - (b : Int)) < 0 := by omega
          have hB : IntKind.u64.wrap ((fx (j + 1) : Int) * 2 ^ (64 - b)) = ((fx (j + 1) * 2 ^ (64 - b) % 18446744073709551616 : Nat) : Int) := by rw [mul_pow2, modU64]; rfl
          have hBl : fx (j + 1) * 2 ^ (64 - b) % 18446744073709551616 < 18446744073709551616 := Nat.mod_lt _ (by decide)
          have hor := orU .u64 A (fx (j + 1) * 2 ^ (64 - b) % 18446744073709551616) hAl hBl rfl
          rw [sok] at hor
          generalize fx (j + 1) * 2 ^ (64 - b) % 18446744073709551616 = D at *
          have gA : ((F i).set i (C.v (.int .u64 A)))[i]? = some (C.v (.int .u64 A)) := by simp [FL, hi4]
          have ss : ((F i).set i (C.v (.int .u64 A))).set i (C.v (.int .u64 (fy i))) = F (i + 1) := by rw [List.set_set]; exact fs
          have fA : ((F i).set i (C.v (.int .u64 A))).length = 4 := by simp [FL]
          have hup2 : ∀ z, (up ((F i).set i (C.v (.int .u64 A)))).set i (M.c z) = up (((F i).set i (C.v (.int .u64 A))).set i z) := fun z => by simp [up, List.map_set]
          have hG := hup (C.v (.int .u64 A))
          generalize (F i).set i (C.v (.int .u64 A)) = G at *
          unfold u64C at *
          repeat' (first 
           | (with_reducible first | refine awp_scope ?_ | refine awp_seq ?_ | refine awp_block ?_)
           | ((with_reducible first | refine awp_label ?_ | refine awp_skip ?_); try simp only [thenA, inBlockA, noGotoA])
           | (with_reducible refine awp_exit ?_; simp only [thenA, inBlockA, noGotoA, if_true, Nat.reduceEqDiff, if_false, ↓reduceIte])
           | (with_reducible refine awp_ret ?_; (try simp only [thenA, inBlockA, noGotoA]); (try simp [-List.reduceReplicate, Nat.add_one_le_iff, -getElem?_pos, -getElem?_neg, List.getElem?_cons_zero, List.getElem?_cons_succ, iC, bC, hlt, hij, wj, hj4, hi4, g1, g2, mb, fd, ib, fl, hG, hup2, lx, c3, c4, c5, tk, hk4, w5, w64, tn, mn, i3, hB, hor, gA, ss, fA, hwi]))
           | ((with_reducible first | refine awp_reg 59 hX [1, 2, 4, 5, 6, 7, 8, 10, 13, 21, 22, 23, 42] ?_ | refine awp_drw 59 hX [1, 2, 4, 5, 6, 7, 8, 10, 13, 21, 22, 23, 42] Tab.mixed (by kernel_rfl) ?_ | refine DEv_cut _ _ _ _ _ _ _ _ _ _ _ _ (by kernel_rfl) ?_ | change postOf _ _ _ _ _); simp [-List.reduceReplicate, Nat.add_one_le_iff, -getElem?_pos, -getElem?_neg, List.getElem?_cons_zero, List.getElem?_cons_succ, iC, bC, hlt, hij, wj, hj4, hi4, g1, g2, mb, fd, ib, fl, hG, hup2, lx, c3, c4, c5, tk, hk4, w5, w64, tn, mn, i3, hB, hor, gA, ss, fA, hwi])
           | (with_reducible refine awp_if_b rfl (fun hc => ?_) (fun hc => ?_) <;> (try simp [-getElem?_pos, -getElem?_neg] at hc) <;> (try (exfalso; omega)))
           | ((with_reducible first | refine GuardK_b (fun hc => ?_) (fun hc => ?_) | refine DGuard_b _ _ _ _ _ _ _ _ _ _ (fun hc => ?_) (fun hc => ?_)) <;> (try simp only [Bool.not_eq_true', Bool.not_eq_false', decide_eq_true_eq, decide_eq_false_iff_not] at hc) <;> (first | (exfalso; omega) | skip) <;> simp [-List.reduceReplicate, Nat.add_one_le_iff, -getElem?_pos, -getElem?_neg, List.getElem?_cons_zero, List.getElem?_cons_succ, iC, bC, hlt, hij, wj, hj4, hi4, g1, g2, mb, fd, ib, fl, hG, hup2, lx, c3, c4, c5, tk, hk4, w5, w64, tn, mn, i3, hB, hor, gA, ss, fA, hwi, hc])
           | ((with_reducible first | refine hother _ _ rfl ?_); simp only [inBlockA, thenA, noGotoA, Nat.reduceEqDiff, if_false, if_true, ↓reduceIte])
           | (with_reducible refine And.intro (by omega) ?_)
           | fail)
          all_goals exact next _ _ () (by omega) trivial (by simp [keep, iC]) rfl
    · have hi3 : i = m := by omega
      subst hi3
      repeat' (first 
       | (with_reducible first | refine awp_scope ?_ | refine awp_seq ?_ | refine awp_block ?_)
       | ((with_reducible first | refine awp_label ?_ | refine awp_skip ?_); try simp only [thenA, inBlockA, noGotoA])
       | (with_reducible refine awp_exit ?_; simp only [thenA, inBlockA, noGotoA, if_true, Nat.reduceEqDiff, if_false, ↓reduceIte])
       | (with_reducible refine awp_ret ?_; (try simp only [thenA, inBlockA, noGotoA]); (try simp [-List.reduceReplicate, Nat.add_one_le_iff, -getElem?_pos, -getElem?_neg, List.getElem?_cons_zero, List.getElem?_cons_succ, iC, FL, FT]))
       | ((with_reducible first | refine awp_reg 59 hX [1, 2, 4, 5, 6, 7, 8, 10, 13, 21, 22, 23, 42] ?_ | refine awp_drw 59 hX [1, 2, 4, 5, 6, 7, 8, 10, 13, 21, 22, 23, 42] Tab.mixed (by kernel_rfl) ?_ | refine DEv_cut _ _ _ _ _ _ _ _ _ _ _ _ (by kernel_rfl) ?_ | change postOf _ _ _ _ _); simp [-List.reduceReplicate, Nat.add_one_le_iff, -getElem?_pos, -getElem?_neg, List.getElem?_cons_zero, List.getElem?_cons_succ, iC, FL, FT])
       | (with_reducible refine awp_if_b rfl (fun hc => ?_) (fun hc => ?_) <;> (try simp [-getElem?_pos, -getElem?_neg] at hc) <;> (try (exfalso; omega)))
       | ((with_reducible first | refine GuardK_b (fun hc => ?_) (fun hc => ?_) | refine DGuard_b _ _ _ _ _ _ _ _ _ _ (fun hc => ?_) (fun hc => ?_)) <;> (try simp only [Bool.not_eq_true', Bool.not_eq_false', decide_eq_true_eq, decide_eq_false_iff_not] at hc) <;> (first | (exfalso; omega) | skip) <;> simp [-List.reduceReplicate, Nat.add_one_le_iff, -getElem?_pos, -getElem?_neg, List.getElem?_cons_zero, List.getElem?_cons_succ, iC, FL, FT, hc])
       | ((with_reducible first | refine hother _ _ rfl ?_); simp only [inBlockA, thenA, noGotoA, Nat.reduceEqDiff, if_false, if_true, ↓reduceIte])
       | (with_reducible refine And.intro (by omega) ?_)
       | fail)
end Go.Av

set_option exponentiation.threshold 1000
set_option linter.unusedVariables false
set_option linter.unusedSimpArgs false
set_option maxRecDepth 100000
set_option maxHeartbeats 4000000
namespace Go.Av
open Go Go.Proofs Go.Proofs.Ytofomnllcmgfeaa Go.RowKit
/-! ### the document's wide numbers: bits; levels -/
def bitsC (x : Nat) : C := .sl ((bitsL x).map bC) 256 false
set_option maxHeartbeats 4000000 in
theorem cmp04_den (x y : Nat) (hx : x < 2 ^ 256) (hy : y < 2 ^ 256) : DenV Try.prog 94 [.c (bitsC x), .c (bitsC y)] (.c (iC (cmpN x y))) := by
  refine Den.frame rfl rfl ?_
  have gx : ∀ j, j < 256 → ((bitsL x).map bC)[j]? = some (bC (x.testBit j)) := fun j h => by rw [List.getElem?_map, bitsL_get x j h]; rfl
  have gy : ∀ j, j < 256 → ((bitsL y).map bC)[j]? = some (bC (y.testBit j)) := fun j h => by rw [List.getElem?_map, bitsL_get y j h]; rfl
  have lx : ((bitsL x).map bC).length = 256 := by simp [bitsL_len]
  have ly : ((bitsL y).map bC).length = 256 := by simp [bitsL_len]
  have hs := fun i => @bit_lt x y i
  have hs2 := fun i => @bit_lt y x i
  have he := fun i => @bit_eq x y i
  have h0 : x / 2 ^ (256 - 0) = y / 2 ^ (256 - 0) := by rw [Nat.div_eq_of_lt hx, Nat.div_eq_of_lt hy]
  have hend : x / 2 ^ 0 = y / 2 ^ 0 → x = y := fun h => by simpa using h
  unfold bitsC
  generalize (bitsL x).map bC = cx at *
  generalize (bitsL y).map bC = cy at *
  generalize x.testBit = fx at *
  generalize y.testBit = fy at *
  obtain ⟨Ef, hE⟩ : ∃ Ef : Nat → Prop, Ef = fun j => x / 2 ^ j = y / 2 ^ j := ⟨_, rfl⟩
  have hs' : ∀ i, Ef (i + 1) → fx i = false → fy i = true → x < y := by rw [hE]; exact hs
  have hs2' : ∀ i, Ef (i + 1) → fy i = false → fx i = true → y < x := by rw [hE]; exact fun i h => hs2 i h.symm
  have he' : ∀ i, Ef (i + 1) → fx i = fy i → Ef i := by rw [hE]; exact he
  have h0' : Ef (256 - 0) := by rw [hE]; exact h0
  have hend' : Ef 0 → x = y := by rw [hE]; exact hend
  clear hs hs2 he h0 hend hE hx hy
  have w255 : IntKind.i64.wrap 255 = 255 := rfl
  refine den_of Try.func94 rfl rfl (by simp [Try.ntmps94]) (fun X hX hO => ?_)
  rw [Try.ntmps94] at hX
  simp only [Try.results94]
  repeat' (first 
   | (with_reducible first | refine awp_scope ?_ | refine awp_seq ?_ | refine awp_block ?_)
   | ((with_reducible first | refine awp_label ?_ | refine awp_skip ?_); try simp only [thenA, inBlockA, noGotoA])
   | (with_reducible refine awp_exit ?_; simp only [thenA, inBlockA, noGotoA, if_true, Nat.reduceEqDiff, if_false, ↓reduceIte])
   | (with_reducible refine awp_ret ?_; (try simp only [thenA, inBlockA, noGotoA]); (try simp [-List.reduceReplicate, Nat.add_one_le_iff, -getElem?_pos, -getElem?_neg, List.getElem?_cons_zero, List.getElem?_cons_succ, iC, w255]))
   | ((with_reducible first | refine awp_reg 26 hX [0, 1, 4, 5, 10, 21, 25] ?_ | refine awp_drw 26 hX [0, 1, 4, 5, 10, 21, 25] Tab.mixed (by kernel_rfl) ?_ | refine DEv_cut _ _ _ _ _ _ _ _ _ _ _ _ (by kernel_rfl) ?_ | change postOf _ _ _ _ _); simp [-List.reduceReplicate, Nat.add_one_le_iff, -getElem?_pos, -getElem?_neg, List.getElem?_cons_zero, List.getElem?_cons_succ, iC, w255])
   | (with_reducible refine awp_if_b rfl (fun hc => ?_) (fun hc => ?_) <;> (try simp [-getElem?_pos, -getElem?_neg] at hc) <;> (try (exfalso; omega)))
   | ((with_reducible first | refine GuardK_b (fun hc => ?_) (fun hc => ?_) | refine DGuard_b _ _ _ _ _ _ _ _ _ _ (fun hc => ?_) (fun hc => ?_)) <;> (try simp only [Bool.not_eq_true', Bool.not_eq_false', decide_eq_true_eq, decide_eq_false_iff_not] at hc) <;> (first | (exfalso; omega) | skip) <;> simp [-List.reduceReplicate, Nat.add_one_le_iff, -getElem?_pos, -getElem?_neg, List.getElem?_cons_zero, List.getElem?_cons_succ, iC, w255, hc])
   | ((with_reducible first | refine hother _ _ rfl ?_); simp only [inBlockA, thenA, noGotoA, Nat.reduceEqDiff, if_false, if_true, ↓reduceIte])
   | (with_reducible refine And.intro (by omega) ?_)
   | fail)
  refine awp_forU [0, 1, 5] (fun j (_u : Unit) => [(5, .c (iC (255 - (j : Int))))]) (fun j (_u : Unit) => []) (fun j (_u : Unit) => Ef (256 - j)) (256) (()) (h0') (by simp [-List.reduceReplicate, keep, iC]) (by simp [-List.reduceReplicate, iC]) ?_
  rintro j _u Q1 hi hH next hother
  conv => arg 5; arg 1; simp only [List.cons_append, List.nil_append, keep, get, Nat.reduceEqDiff, if_true, if_false, ↓reduceIte]
  by_cases hlt : j < 256
  · obtain ⟨i, hi'⟩ : ∃ i, 256 - j = i + 1 := ⟨255 - j, by omega⟩
    have e1 : (255 : Int) - (j : Int) = (i : Int) := by omega
    have e2 : 256 - (j + 1) = i := by omega
    have e3 : (255 : Int) - ((j : Int) + 1) = (i : Int) - 1 := by omega
    have hin : i < 256 := by omega
    have wi := wrap_in ((i : Int) - 1) (by omega)
    have hin2 : (i : Int) < 256 := by omega
    rw [hi'] at hH
    rw [e2] at next
    have g1 := gx i hin
    have g2 := gy i hin
    have s1 := hs' i hH
    have s2 := hs2' i hH
    have s3 := he' i hH
    cases c1 : fx i <;> cases c2 : fy i
    · rw [c1] at g1
      rw [c2] at g2
      have nx := s3 (by rw [c1, c2])
      repeat' (first 
       | (with_reducible first | refine awp_scope ?_ | refine awp_seq ?_ | refine awp_block ?_)
       | ((with_reducible first | refine awp_label ?_ | refine awp_skip ?_); try simp only [thenA, inBlockA, noGotoA])
       | (with_reducible refine awp_exit ?_; simp only [thenA, inBlockA, noGotoA, if_true, Nat.reduceEqDiff, if_false, ↓reduceIte])
       | (with_reducible refine awp_ret ?_; (try simp only [thenA, inBlockA, noGotoA]); (try simp [-List.reduceReplicate, Nat.add_one_le_iff, -getElem?_pos, -getElem?_neg, List.getElem?_cons_zero, List.getElem?_cons_succ, iC, bC, e1, hin, hin2, g1, g2, wi]))
       | ((with_reducible first | refine awp_reg 26 hX [0, 1, 4, 5, 10, 21, 25] ?_ | refine awp_drw 26 hX [0, 1, 4, 5, 10, 21, 25] Tab.mixed (by kernel_rfl) ?_ | refine DEv_cut _ _ _ _ _ _ _ _ _ _ _ _ (by kernel_rfl) ?_ | change postOf _ _ _ _ _); simp [-List.reduceReplicate, Nat.add_one_le_iff, -getElem?_pos, -getElem?_neg, List.getElem?_cons_zero, List.getElem?_cons_succ, iC, bC, e1, hin, hin2, g1, g2, wi])
       | (with_reducible refine awp_if_b rfl (fun hc => ?_) (fun hc => ?_) <;> (try simp [-getElem?_pos, -getElem?_neg] at hc) <;> (try (exfalso; omega)))
       | ((with_reducible first | refine GuardK_b (fun hc => ?_) (fun hc => ?_) | refine DGuard_b _ _ _ _ _ _ _ _ _ _ (fun hc => ?_) (fun hc => ?_)) <;> (try simp only [Bool.not_eq_true', Bool.not_eq_false', decide_eq_true_eq, decide_eq_false_iff_not] at hc) <;> (first | (exfalso; omega) | skip) <;> simp [-List.reduceReplicate, Nat.add_one_le_iff, -getElem?_pos, -getElem?_neg, List.getElem?_cons_zero, List.getElem?_cons_succ, iC, bC, e1, hin, hin2, g1, g2, wi, hc])
       | ((with_reducible first | refine hother _ _ rfl ?_); simp only [inBlockA, thenA, noGotoA, Nat.reduceEqDiff, if_false, if_true, ↓reduceIte])
       | (with_reducible refine And.intro (by omega) ?_)
       | fail)
      refine next _ _ (()) (by omega) (by first | trivial | omega | assumption) (by simp [-List.reduceReplicate, keep, iC, e3]) (by simp [-List.reduceReplicate, iC, e3])
    · rw [c1] at g1
      rw [c2] at g2
      have hcm := (cmpN_lt (s1 c1 c2)).symm
      repeat' (first 
       | (with_reducible first | refine awp_scope ?_ | refine awp_seq ?_ | refine awp_block ?_)
       | ((with_reducible first | refine awp_label ?_ | refine awp_skip ?_); try simp only [thenA, inBlockA, noGotoA])
       | (with_reducible refine awp_exit ?_; simp only [thenA, inBlockA, noGotoA, if_true, Nat.reduceEqDiff, if_false, ↓reduceIte])
       | (with_reducible refine awp_ret ?_; (try simp only [thenA, inBlockA, noGotoA]); (try simp [-List.reduceReplicate, Nat.add_one_le_iff, -getElem?_pos, -getElem?_neg, List.getElem?_cons_zero, List.getElem?_cons_succ, iC, bC, e1, hin, hin2, g1, g2, wi]))
       | ((with_reducible first | refine awp_reg 26 hX [0, 1, 4, 5, 10, 21, 25] ?_ | refine awp_drw 26 hX [0, 1, 4, 5, 10, 21, 25] Tab.mixed (by kernel_rfl) ?_ | refine DEv_cut _ _ _ _ _ _ _ _ _ _ _ _ (by kernel_rfl) ?_ | change postOf _ _ _ _ _); simp [-List.reduceReplicate, Nat.add_one_le_iff, -getElem?_pos, -getElem?_neg, List.getElem?_cons_zero, List.getElem?_cons_succ, iC, bC, e1, hin, hin2, g1, g2, wi])
       | (with_reducible refine awp_if_b rfl (fun hc => ?_) (fun hc => ?_) <;> (try simp [-getElem?_pos, -getElem?_neg] at hc) <;> (try (exfalso; omega)))
       | ((with_reducible first | refine GuardK_b (fun hc => ?_) (fun hc => ?_) | refine DGuard_b _ _ _ _ _ _ _ _ _ _ (fun hc => ?_) (fun hc => ?_)) <;> (try simp only [Bool.not_eq_true', Bool.not_eq_false', decide_eq_true_eq, decide_eq_false_iff_not] at hc) <;> (first | (exfalso; omega) | skip) <;> simp [-List.reduceReplicate, Nat.add_one_le_iff, -getElem?_pos, -getElem?_neg, List.getElem?_cons_zero, List.getElem?_cons_succ, iC, bC, e1, hin, hin2, g1, g2, wi, hc])
       | ((with_reducible first | refine hother _ _ rfl ?_); simp only [inBlockA, thenA, noGotoA, Nat.reduceEqDiff, if_false, if_true, ↓reduceIte])
       | (with_reducible refine And.intro (by omega) ?_)
       | fail)
      exact hcm
    · rw [c1] at g1
      rw [c2] at g2
      have hcm := (cmpN_gt (s2 c2 c1)).symm
      repeat' (first 
       | (with_reducible first | refine awp_scope ?_ | refine awp_seq ?_ | refine awp_block ?_)
       | ((with_reducible first | refine awp_label ?_ | refine awp_skip ?_); try simp only [thenA, inBlockA, noGotoA])
       | (with_reducible refine awp_exit ?_; simp only [thenA, inBlockA, noGotoA, if_true, Nat.reduceEqDiff, if_false, ↓reduceIte])
       | (with_reducible refine awp_ret ?_; (try simp only [thenA, inBlockA, noGotoA]); (try simp [-List.reduceReplicate, Nat.add_one_le_iff, -getElem?_pos, -getElem?_neg, List.getElem?_cons_zero, List.getElem?_cons_succ, iC, bC, e1, hin, hin2, g1, g2, wi]))
       | ((with_reducible first | refine awp_reg 26 hX [0, 1, 4, 5, 10, 21, 25] ?_ | refine awp_drw 26 hX [0, 1, 4, 5, 10, 21, 25] Tab.mixed (by kernel_rfl) ?_ | refine DEv_cut _ _ _ _ _ _ _ _ _ _ _ _ (by kernel_rfl) ?_ | change postOf _ _ _ _ _); simp [-List.reduceReplicate, Nat.add_one_le_iff, -getElem?_pos, -getElem?_neg, List.getElem?_cons_zero, List.getElem?_cons_succ, iC, bC, e1, hin, hin2, g1, g2, wi])
       | (with_reducible refine awp_if_b rfl (fun hc => ?_) (fun hc => ?_) <;> (try simp [-getElem?_pos, -getElem?_neg] at hc) <;> (try (exfalso; omega)))
       | ((with_reducible first | refine GuardK_b (fun hc => ?_) (fun hc => ?_) | refine DGuard_b _ _ _ _ _ _ _ _ _ _ (fun hc => ?_) (fun hc => ?_)) <;> (try simp only [Bool.not_eq_true', Bool.not_eq_false', decide_eq_true_eq, decide_eq_false_iff_not] at hc) <;> (first | (exfalso; omega) | skip) <;> simp [-List.reduceReplicate, Nat.add_one_le_iff, -getElem?_pos, -getElem?_neg, List.getElem?_cons_zero, List.getElem?_cons_succ, iC, bC, e1, hin, hin2, g1, g2, wi, hc])
       | ((with_reducible first | refine hother _ _ rfl ?_); simp only [inBlockA, thenA, noGotoA, Nat.reduceEqDiff, if_false, if_true, ↓reduceIte])
       | (with_reducible refine And.intro (by omega) ?_)
       | fail)
      exact hcm
    · rw [c1] at g1
      rw [c2] at g2
      have nx := s3 (by rw [c1, c2])
      repeat' (first 
       | (with_reducible first | refine awp_scope ?_ | refine awp_seq ?_ | refine awp_block ?_)
       | ((with_reducible first | refine awp_label ?_ | refine awp_skip ?_); try simp only [thenA, inBlockA, noGotoA])
       | (with_reducible refine awp_exit ?_; simp only [thenA, inBlockA, noGotoA, if_true, Nat.reduceEqDiff, if_false, ↓reduceIte])
       | (with_reducible refine awp_ret ?_; (try simp only [thenA, inBlockA, noGotoA]); (try simp [-List.reduceReplicate, Nat.add_one_le_iff, -getElem?_pos, -getElem?_neg, List.getElem?_cons_zero, List.getElem?_cons_succ, iC, bC, e1, hin, hin2, g1, g2, wi]))
       | ((with_reducible first | refine awp_reg 26 hX [0, 1, 4, 5, 10, 21, 25] ?_ | refine awp_drw 26 hX [0, 1, 4, 5, 10, 21, 25] Tab.mixed (by kernel_rfl) ?_ | refine DEv_cut _ _ _ _ _ _ _ _ _ _ _ _ (by kernel_rfl) ?_ | change postOf _ _ _ _ _); simp [-List.reduceReplicate, Nat.add_one_le_iff, -getElem?_pos, -getElem?_neg, List.getElem?_cons_zero, List.getElem?_cons_succ, iC, bC, e1, hin, hin2, g1, g2, wi])
       | (with_reducible refine awp_if_b rfl (fun hc => ?_) (fun hc => ?_) <;> (try simp [-getElem?_pos, -getElem?_neg] at hc) <;> (try (exfalso; omega)))
       | ((with_reducible first | refine GuardK_b (fun hc => ?_) (fun hc => ?_) | refine DGuard_b _ _ _ _ _ _ _ _ _ _ (fun hc => ?_) (fun hc => ?_)) <;> (try simp only [Bool.not_eq_true', Bool.not_eq_false', decide_eq_true_eq, decide_eq_false_iff_not] at hc) <;> (first | (exfalso; omega) | skip) <;> simp [-List.reduceReplicate, Nat.add_one_le_iff, -getElem?_pos, -getElem?_neg, List.getElem?_cons_zero, List.getElem?_cons_succ, iC, bC, e1, hin, hin2, g1, g2, wi, hc])
       | ((with_reducible first | refine hother _ _ rfl ?_); simp only [inBlockA, thenA, noGotoA, Nat.reduceEqDiff, if_false, if_true, ↓reduceIte])
       | (with_reducible refine And.intro (by omega) ?_)
       | fail)
      refine next _ _ (()) (by omega) (by first | trivial | omega | assumption) (by simp [-List.reduceReplicate, keep, iC, e3]) (by simp [-List.reduceReplicate, iC, e3])
  · have hj : j = 256 := by omega
    subst hj
    have hxy := hend' hH
    subst hxy
    have hcm := (cmpN_eq x).symm
    repeat' (first 
     | (with_reducible first | refine awp_scope ?_ | refine awp_seq ?_ | refine awp_block ?_)
     | ((with_reducible first | refine awp_label ?_ | refine awp_skip ?_); try simp only [thenA, inBlockA, noGotoA])
     | (with_reducible refine awp_exit ?_; simp only [thenA, inBlockA, noGotoA, if_true, Nat.reduceEqDiff, if_false, ↓reduceIte])
     | (with_reducible refine awp_ret ?_; (try simp only [thenA, inBlockA, noGotoA]); (try simp [-List.reduceReplicate, Nat.add_one_le_iff, -getElem?_pos, -getElem?_neg, List.getElem?_cons_zero, List.getElem?_cons_succ, iC, bC]))
     | ((with_reducible first | refine awp_reg 26 hX [0, 1, 4, 5, 10, 21, 25] ?_ | refine awp_drw 26 hX [0, 1, 4, 5, 10, 21, 25] Tab.mixed (by kernel_rfl) ?_ | refine DEv_cut _ _ _ _ _ _ _ _ _ _ _ _ (by kernel_rfl) ?_ | change postOf _ _ _ _ _); simp [-List.reduceReplicate, Nat.add_one_le_iff, -getElem?_pos, -getElem?_neg, List.getElem?_cons_zero, List.getElem?_cons_succ, iC, bC])
     | (with_reducible refine awp_if_b rfl (fun hc => ?_) (fun hc => ?_) <;> (try simp [-getElem?_pos, -getElem?_neg] at hc) <;> (try (exfalso; omega)))
     | ((with_reducible first | refine GuardK_b (fun hc => ?_) (fun hc => ?_) | refine DGuard_b _ _ _ _ _ _ _ _ _ _ (fun hc => ?_) (fun hc => ?_)) <;> (try simp only [Bool.not_eq_true', Bool.not_eq_false', decide_eq_true_eq, decide_eq_false_iff_not] at hc) <;> (first | (exfalso; omega) | skip) <;> simp [-List.reduceReplicate, Nat.add_one_le_iff, -getElem?_pos, -getElem?_neg, List.getElem?_cons_zero, List.getElem?_cons_succ, iC, bC, hc])
     | ((with_reducible first | refine hother _ _ rfl ?_); simp only [inBlockA, thenA, noGotoA, Nat.reduceEqDiff, if_false, if_true, ↓reduceIte])
     | (with_reducible refine And.intro (by omega) ?_)
     | fail)
    exact hcm
theorem set_self {α : Type} (l : List α) (i : Nat) (z : α) (h : l[i]? = some z) : l.set i z = l := by
  obtain ⟨hl, rfl⟩ := List.getElem?_eq_some_iff.1 h
  exact List.set_getElem_self hl
set_option maxHeartbeats 4000000 in
theorem shr04_own (x n : Nat) (hx : x < 2 ^ 256) (hn : n ≤ 256) : Den Try.prog 95 [.c (bitsC x), .c (iC n)] [] (fun r ob' => r = .ms 0 0 0 256 ∧ ob' = [⟨4, 1, false, 0, up ((bitsL (x / 2 ^ n)).map bC), none⟩]) := by
  have gx : ∀ j, j < 256 → ((bitsL x).map bC)[j]? = some (bC (x.testBit j)) := fun j h => by rw [List.getElem?_map, bitsL_get x j h]; rfl
  have gy : ∀ j, j < 256 → ((bitsL (x / 2 ^ n)).map bC)[j]? = some (bC (x.testBit (j + n))) := fun j h => by rw [List.getElem?_map, bitsL_get _ j h, bits_shr]; rfl
  have ly : ((bitsL (x / 2 ^ n)).map bC).length = 256 := by simp [bitsL_len]
  have hhigh := fun i => bits_high x i hx
  obtain ⟨F, F0, FN, FL, FS, FK⟩ : ∃ F : Nat → List C, F 0 = List.replicate 256 (C.v (.bool false)) ∧ F 256 = (bitsL (x / 2 ^ n)).map bC ∧ (∀ i, i ≤ 256 → (F i).length = 256) ∧ (∀ i, i < 256 → (F i).set i (bC (x.testBit (i + n))) = F (i + 1)) ∧ ∀ i, i < 256 → x.testBit (i + n) = false → F i = F (i + 1) := by
    have st := fun i (h : i < 256) => set_fill ((bitsL (x / 2 ^ n)).map bC) (C.v (.bool false)) _ 256 i h ly (gy i h)
    refine ⟨fun i => ((bitsL (x / 2 ^ n)).map bC).take i ++ List.replicate (256 - i) (C.v (.bool false)), by simp, by simp only [Nat.sub_self, List.replicate_zero, List.append_nil]; rw [List.take_of_length_le (by omega)], fun i h => len_fill _ _ _ _ h ly, st, fun i h hb => ?_⟩
    have := st i h
    rw [hb] at this
    simp only
    rw [← this]
    refine (set_self _ i _ ?_).symm
    rw [List.getElem?_append_right (by rw [List.length_take]; omega), List.length_take, ly, Nat.min_eq_left (by omega), Nat.sub_self]
    obtain ⟨k, hk⟩ : ∃ k, 256 - i = k + 1 := ⟨255 - i, by omega⟩
    rw [hk]
    rfl
  unfold bitsC
  rw [← FN]
  clear FN gy ly hx
  have lx : ((bitsL x).map bC).length = 256 := by simp [bitsL_len]
  generalize (bitsL x).map bC = cx at *
  generalize x.testBit = fx at *
  refine den_of Try.func95 rfl rfl (by simp [Try.ntmps95]) (fun X hX hO => ?_)
  rw [Try.ntmps95] at hX
  simp only [Try.results95]
  repeat' (first 
   | (with_reducible first | refine awp_scope ?_ | refine awp_seq ?_ | refine awp_block ?_)
   | ((with_reducible first | refine awp_label ?_ | refine awp_skip ?_); try simp only [thenA, inBlockA, noGotoA])
   | (with_reducible refine awp_exit ?_; simp only [thenA, inBlockA, noGotoA, if_true, Nat.reduceEqDiff, if_false, ↓reduceIte])
   | (with_reducible refine awp_ret ?_; (try simp only [thenA, inBlockA, noGotoA]); (try simp [-List.reduceReplicate, Nat.add_one_le_iff, -getElem?_pos, -getElem?_neg, List.getElem?_cons_zero, List.getElem?_cons_succ, iC]))
   | ((with_reducible first | refine awp_reg 41 hX [0, 1, 4, 5, 6, 13, 17, 30] ?_ | change postOf _ _ _ _ _); simp [-List.reduceReplicate, Nat.add_one_le_iff, -getElem?_pos, -getElem?_neg, List.getElem?_cons_zero, List.getElem?_cons_succ, iC])
   | (with_reducible refine awp_if_b rfl (fun hc => ?_) (fun hc => ?_) <;> (try simp [-getElem?_pos, -getElem?_neg] at hc) <;> (try (exfalso; omega)))
   | ((with_reducible first | refine GuardK_b (fun hc => ?_) (fun hc => ?_)) <;> (try simp only [Bool.not_eq_true', Bool.not_eq_false', decide_eq_true_eq, decide_eq_false_iff_not] at hc) <;> (first | (exfalso; omega) | skip) <;> simp [-List.reduceReplicate, Nat.add_one_le_iff, -getElem?_pos, -getElem?_neg, List.getElem?_cons_zero, List.getElem?_cons_succ, iC, hc])
   | ((with_reducible first | refine hother _ _ rfl ?_); simp only [inBlockA, thenA, noGotoA, Nat.reduceEqDiff, if_false, if_true, ↓reduceIte])
   | (with_reducible refine And.intro (by omega) ?_)
   | fail)
  rw [← F0]
  refine awp_forU [0, 1, 5, 6] (fun i (_u : Unit) => [(6, .c (iC i))]) (fun i (_u : Unit) => [⟨4, 1, false, 0, up (F i), none⟩]) (fun i (_u : Unit) => True) (256) (()) (by first | trivial | (simp; done) | omega | (intros; simp at *; done)) (by simp [-List.reduceReplicate, keep, iC]) (by simp [-List.reduceReplicate, iC]) ?_
  rintro i _u Q1 hi hH next hother
  conv => arg 5; arg 1; simp only [List.cons_append, List.nil_append, keep, get, Nat.reduceEqDiff, if_true, if_false, ↓reduceIte]
  have hwi := wrap_in ((i : Int) + 1) (by omega)
  by_cases hlt : i < 256
  · have hlt2 : (i : Int) < 256 := by omega
    have fl := FL i (by omega)
    have fs := FS i hlt
    have fk := FK i hlt
    have hup : ∀ z, (up (F i)).set i (M.c z) = up ((F i).set i z) := fun z => by simp [up, List.map_set]
    by_cases hn0 : n = 0
    · have g1 := gx i hlt
      have hn1 : (n : Int) ≤ 0 := by omega
      rw [hn0, Nat.add_zero] at fs
      unfold bC at g1 fs
      repeat' (first 
       | (with_reducible first | refine awp_scope ?_ | refine awp_seq ?_ | refine awp_block ?_)
       | ((with_reducible first | refine awp_label ?_ | refine awp_skip ?_); try simp only [thenA, inBlockA, noGotoA])
       | (with_reducible refine awp_exit ?_; simp only [thenA, inBlockA, noGotoA, if_true, Nat.reduceEqDiff, if_false, ↓reduceIte])
       | (with_reducible refine awp_ret ?_; (try simp only [thenA, inBlockA, noGotoA]); (try simp [-List.reduceReplicate, Nat.add_one_le_iff, -getElem?_pos, -getElem?_neg, List.getElem?_cons_zero, List.getElem?_cons_succ, iC, bC, hlt, hlt2, hn1, g1, fl, hup, fs, hwi]))
       | ((with_reducible first | refine awp_reg 41 hX [0, 1, 4, 5, 6, 13, 17, 30] ?_ | change postOf _ _ _ _ _); simp [-List.reduceReplicate, Nat.add_one_le_iff, -getElem?_pos, -getElem?_neg, List.getElem?_cons_zero, List.getElem?_cons_succ, iC, bC, hlt, hlt2, hn1, g1, fl, hup, fs, hwi])
       | (with_reducible refine awp_if_b rfl (fun hc => ?_) (fun hc => ?_) <;> (try simp [-getElem?_pos, -getElem?_neg] at hc) <;> (try (exfalso; omega)))
       | ((with_reducible first | refine GuardK_b (fun hc => ?_) (fun hc => ?_)) <;> (try simp only [Bool.not_eq_true', Bool.not_eq_false', decide_eq_true_eq, decide_eq_false_iff_not] at hc) <;> (first | (exfalso; omega) | skip) <;> simp [-List.reduceReplicate, Nat.add_one_le_iff, -getElem?_pos, -getElem?_neg, List.getElem?_cons_zero, List.getElem?_cons_succ, iC, bC, hlt, hlt2, hn1, g1, fl, hup, fs, hwi, hc])
       | ((with_reducible first | refine hother _ _ rfl ?_); simp only [inBlockA, thenA, noGotoA, Nat.reduceEqDiff, if_false, if_true, ↓reduceIte])
       | (with_reducible refine And.intro (by omega) ?_)
       | fail)
      refine next _ _ (()) (by omega) (by first | trivial | omega | assumption) (by simp [-List.reduceReplicate, keep, iC]) (by simp [-List.reduceReplicate, iC])
    · have hn1 : ¬ (n : Int) ≤ 0 := by omega
      have w1 := wrap_in (256 - (i : Int)) (by omega)
      by_cases hc : i + n < 256
      · have c1 : (n : Int) < 256 - (i : Int) := by omega
        have g1 := gx (i + n) hc
        have w2 := wrap_in ((i : Int) + (n : Int)) (by omega)
        have tn : ((i : Int) + (n : Int)).toNat = i + n := by omega
        have c2 : (i : Int) + (n : Int) < 256 := by omega
        unfold bC at g1 fs
        repeat' (first 
         | (with_reducible first | refine awp_scope ?_ | refine awp_seq ?_ | refine awp_block ?_)
         | ((with_reducible first | refine awp_label ?_ | refine awp_skip ?_); try simp only [thenA, inBlockA, noGotoA])
         | (with_reducible refine awp_exit ?_; simp only [thenA, inBlockA, noGotoA, if_true, Nat.reduceEqDiff, if_false, ↓reduceIte])
         | (with_reducible refine awp_ret ?_; (try simp only [thenA, inBlockA, noGotoA]); (try simp [-List.reduceReplicate, Nat.add_one_le_iff, -getElem?_pos, -getElem?_neg, List.getElem?_cons_zero, List.getElem?_cons_succ, iC, bC, hlt, hlt2, hn1, w1, w2, tn, c1, c2, hc, g1, fl, hup, fs, hwi]))
         | ((with_reducible first | refine awp_reg 41 hX [0, 1, 4, 5, 6, 13, 17, 30] ?_ | change postOf _ _ _ _ _); simp [-List.reduceReplicate, Nat.add_one_le_iff, -getElem?_pos, -getElem?_neg, List.getElem?_cons_zero, List.getElem?_cons_succ, iC, bC, hlt, hlt2, hn1, w1, w2, tn, c1, c2, hc, g1, fl, hup, fs, hwi])
         | (with_reducible refine awp_if_b rfl (fun hc => ?_) (fun hc => ?_) <;> (try simp [-getElem?_pos, -getElem?_neg] at hc) <;> (try (exfalso; omega)))
         | ((with_reducible first | refine GuardK_b (fun hc => ?_) (fun hc => ?_)) <;> (try simp only [Bool.not_eq_true', Bool.not_eq_false', decide_eq_true_eq, decide_eq_false_iff_not] at hc) <;> (first | (exfalso; omega) | skip) <;> simp [-List.reduceReplicate, Nat.add_one_le_iff, -getElem?_pos, -getElem?_neg, List.getElem?_cons_zero, List.getElem?_cons_succ, iC, bC, hlt, hlt2, hn1, w1, w2, tn, c1, c2, hc, g1, fl, hup, fs, hwi, hc])
         | ((with_reducible first | refine hother _ _ rfl ?_); simp only [inBlockA, thenA, noGotoA, Nat.reduceEqDiff, if_false, if_true, ↓reduceIte])
         | (with_reducible refine And.intro (by omega) ?_)
         | fail)
        refine next _ _ (()) (by omega) (by first | trivial | omega | assumption) (by simp [-List.reduceReplicate, keep, iC]) (by simp [-List.reduceReplicate, iC])
      · have c1 : ¬ (n : Int) < 256 - (i : Int) := by omega
        have fk1 := fk (hhigh (i + n) (by omega))
        repeat' (first 
         | (with_reducible first | refine awp_scope ?_ | refine awp_seq ?_ | refine awp_block ?_)
         | ((with_reducible first | refine awp_label ?_ | refine awp_skip ?_); try simp only [thenA, inBlockA, noGotoA])
         | (with_reducible refine awp_exit ?_; simp only [thenA, inBlockA, noGotoA, if_true, Nat.reduceEqDiff, if_false, ↓reduceIte])
         | (with_reducible refine awp_ret ?_; (try simp only [thenA, inBlockA, noGotoA]); (try simp [-List.reduceReplicate, Nat.add_one_le_iff, -getElem?_pos, -getElem?_neg, List.getElem?_cons_zero, List.getElem?_cons_succ, iC, bC, hlt, hlt2, hn1, w1, c1, hwi]))
         | ((with_reducible first | refine awp_reg 41 hX [0, 1, 4, 5, 6, 13, 17, 30] ?_ | change postOf _ _ _ _ _); simp [-List.reduceReplicate, Nat.add_one_le_iff, -getElem?_pos, -getElem?_neg, List.getElem?_cons_zero, List.getElem?_cons_succ, iC, bC, hlt, hlt2, hn1, w1, c1, hwi])
         | (with_reducible refine awp_if_b rfl (fun hc => ?_) (fun hc => ?_) <;> (try simp [-getElem?_pos, -getElem?_neg] at hc) <;> (try (exfalso; omega)))
         | ((with_reducible first | refine GuardK_b (fun hc => ?_) (fun hc => ?_)) <;> (try simp only [Bool.not_eq_true', Bool.not_eq_false', decide_eq_true_eq, decide_eq_false_iff_not] at hc) <;> (first | (exfalso; omega) | skip) <;> simp [-List.reduceReplicate, Nat.add_one_le_iff, -getElem?_pos, -getElem?_neg, List.getElem?_cons_zero, List.getElem?_cons_succ, iC, bC, hlt, hlt2, hn1, w1, c1, hwi, hc])
         | ((with_reducible first | refine hother _ _ rfl ?_); simp only [inBlockA, thenA, noGotoA, Nat.reduceEqDiff, if_false, if_true, ↓reduceIte])
         | (with_reducible refine And.intro (by omega) ?_)
         | fail)
        refine next _ _ (()) (by omega) (by first | trivial | omega | assumption) (by simp [-List.reduceReplicate, keep, iC, fk1]) (by simp [-List.reduceReplicate, iC, fk1])
  · have hj : i = 256 := by omega
    subst hj
    repeat' (first 
     | (with_reducible first | refine awp_scope ?_ | refine awp_seq ?_ | refine awp_block ?_)
     | ((with_reducible first | refine awp_label ?_ | refine awp_skip ?_); try simp only [thenA, inBlockA, noGotoA])
     | (with_reducible refine awp_exit ?_; simp only [thenA, inBlockA, noGotoA, if_true, Nat.reduceEqDiff, if_false, ↓reduceIte])
     | (with_reducible refine awp_ret ?_; (try simp only [thenA, inBlockA, noGotoA]); (try simp [-List.reduceReplicate, Nat.add_one_le_iff, -getElem?_pos, -getElem?_neg, List.getElem?_cons_zero, List.getElem?_cons_succ, iC, bC]))
     | ((with_reducible first | refine awp_reg 41 hX [0, 1, 4, 5, 6, 13, 17, 30] ?_ | change postOf _ _ _ _ _); simp [-List.reduceReplicate, Nat.add_one_le_iff, -getElem?_pos, -getElem?_neg, List.getElem?_cons_zero, List.getElem?_cons_succ, iC, bC])
     | (with_reducible refine awp_if_b rfl (fun hc => ?_) (fun hc => ?_) <;> (try simp [-getElem?_pos, -getElem?_neg] at hc) <;> (try (exfalso; omega)))
     | ((with_reducible first | refine GuardK_b (fun hc => ?_) (fun hc => ?_)) <;> (try simp only [Bool.not_eq_true', Bool.not_eq_false', decide_eq_true_eq, decide_eq_false_iff_not] at hc) <;> (first | (exfalso; omega) | skip) <;> simp [-List.reduceReplicate, Nat.add_one_le_iff, -getElem?_pos, -getElem?_neg, List.getElem?_cons_zero, List.getElem?_cons_succ, iC, bC, hc])
     | ((with_reducible first | refine hother _ _ rfl ?_); simp only [inBlockA, thenA, noGotoA, Nat.reduceEqDiff, if_false, if_true, ↓reduceIte])
     | (with_reducible refine And.intro (by omega) ?_)
     | fail)
theorem shr04_den (x n : Nat) (hx : x < 2 ^ 256) (hn : n ≤ 256) : DenV Try.prog 95 [.c (bitsC x), .c (iC n)] (.c (bitsC (x / 2 ^ n))) :=
  Den.frame rfl rfl ((shr04_own x n hx hn).freeze fun r ob' ⟨h1, h2⟩ => ⟨0, _, _, (bitsL (x / 2 ^ n)).map bC, h1, h2, rfl, rfl, rfl⟩)
set_option maxHeartbeats 4000000 in
theorem of04_den (l : List UInt8) (hl : l.length = 32) : DenV Try.prog 93 [hashM l] (.c (bitsC (hv l))) := by
  refine Den.frame (by simp [ltBs, ltB, lt_hash]) rfl ?_
  have hb := fun i k b => hv_bit l i k b
  have lB : ((bitsL (hv l)).map bC).length = 256 := by simp [bitsL_len]
  have gB : ∀ j, j < 256 → ((bitsL (hv l)).map bC)[j]? = some (bC ((hv l).testBit j)) := fun j h => by rw [List.getElem?_map, bitsL_get _ j h]; rfl
  obtain ⟨D, D0, DN, DL, DS⟩ : ∃ D : Nat → List C, D 0 = [] ∧ D 256 = (bitsL (hv l)).map bC ∧ (∀ i, i ≤ 256 → (D i).length = i) ∧ ∀ i, i < 256 → D i ++ [bC ((hv l).testBit i)] = D (i + 1) :=
    ⟨fun i => ((bitsL (hv l)).map bC).take i, by simp, by simp only; rw [List.take_of_length_le (by omega)], fun i h => by simp only [List.length_take]; omega, fun i h => by simp only; rw [List.take_add_one, gB i h]; rfl⟩
  unfold bitsC
  rw [← DN]
  clear DN lB gB
  generalize (hv l).testBit = fx at *
  have lb : (l.map bC8).length = 32 := by simp [hl]
  have gl : ∀ (i : Nat) b, l[i]? = some b → (l.map bC8)[i]? = some (bC8 b) := fun i b h => by rw [List.getElem?_map, h]; rfl
  unfold hashM
  refine den_of Try.func93 rfl rfl (by simp [Try.ntmps93]) (fun X hX hO => ?_)
  rw [Try.ntmps93] at hX
  simp only [Try.results93]
  repeat' (first 
   | (with_reducible first | refine awp_scope ?_ | refine awp_seq ?_ | refine awp_block ?_)
   | ((with_reducible first | refine awp_label ?_ | refine awp_skip ?_); try simp only [thenA, inBlockA, noGotoA])
   | (with_reducible refine awp_exit ?_; simp only [thenA, inBlockA, noGotoA, if_true, Nat.reduceEqDiff, if_false, ↓reduceIte])
   | (with_reducible refine awp_ret ?_; (try simp only [thenA, inBlockA, noGotoA]); (try simp [-List.reduceReplicate, Nat.add_one_le_iff, -getElem?_pos, -getElem?_neg, List.getElem?_cons_zero, List.getElem?_cons_succ, iC, lb]))
   | ((with_reducible first | refine awp_reg 28 hX [1, 2, 3, 4, 5, 6, 8, 16] ?_ | change postOf _ _ _ _ _); simp [-List.reduceReplicate, Nat.add_one_le_iff, -getElem?_pos, -getElem?_neg, List.getElem?_cons_zero, List.getElem?_cons_succ, iC, lb])
   | (with_reducible refine awp_if_b rfl (fun hc => ?_) (fun hc => ?_) <;> (try simp [-getElem?_pos, -getElem?_neg] at hc) <;> (try (exfalso; omega)))
   | ((with_reducible first | refine GuardK_b (fun hc => ?_) (fun hc => ?_)) <;> (try simp only [Bool.not_eq_true', Bool.not_eq_false', decide_eq_true_eq, decide_eq_false_iff_not] at hc) <;> (first | (exfalso; omega) | skip) <;> simp [-List.reduceReplicate, Nat.add_one_le_iff, -getElem?_pos, -getElem?_neg, List.getElem?_cons_zero, List.getElem?_cons_succ, iC, lb, hc])
   | ((with_reducible first | refine hother _ _ rfl ?_ | refine hother2 _ _ rfl ?_); simp only [inBlockA, thenA, noGotoA, Nat.reduceEqDiff, if_false, if_true, ↓reduceIte])
   | (with_reducible refine And.intro (by omega) ?_)
   | fail)
  refine awp_nil 3 4 1 (by simp) ?_
  simp
  refine awp_forU [1, 3, 4] (fun j (g : Nat × Bool) => [(3, .ms 1 g.1 0 (8 * j)), (4, .c (iC (31 - (j : Int))))]) (fun j (g : Nat × Bool) => [⟨71, 1, false, 0, up (l.map bC8), none⟩, ⟨4, 1, g.2, g.1, up (D (8 * j)), none⟩]) (fun j (g : Nat × Bool) => True) (32) ((0, true)) (by first | trivial | (simp; done) | omega | (intros; simp at *; done)) (by simp [-List.reduceReplicate, keep, iC, D0]) (by simp [-List.reduceReplicate, iC, D0]) ?_
  rintro j g Q1 hi hH next hother
  conv => arg 5; arg 1; simp only [List.cons_append, List.nil_append, keep, get, Nat.reduceEqDiff, if_true, if_false, ↓reduceIte]
  by_cases hlt : j < 32
  · obtain ⟨i, hi'⟩ : ∃ i, 31 - j = i := ⟨_, rfl⟩
    have e1 : (31 : Int) - (j : Int) = (i : Int) := by omega
    have e3 : (31 : Int) - ((j : Int) + 1) = (i : Int) - 1 := by omega
    have hi32 : i < 32 := by omega
    have hi2 : (i : Int) < 32 := by omega
    have wi := wrap_in ((i : Int) - 1) (by omega)
    obtain ⟨b, hbi⟩ : ∃ b, l[i]? = some b := ⟨_, List.getElem?_eq_getElem (by omega)⟩
    have hgb := gl i b hbi
    have hbits := fun k (hk : k < 8) => hb i k b hbi hl hi32 hk
    have hj31 : 31 - i = j := by omega
    rw [hj31] at hbits
    have hb256 := b.toNat_lt
    have w1 := wrap_in (b.toNat : Int) (by omega)
    obtain ⟨XK, hX0, hX1, hXl⟩ : ∃ XK : Nat → Nat, XK 0 = b.toNat ∧ (∀ k, XK (k + 1) = XK k / 2) ∧ ∀ k, XK k = b.toNat / 2 ^ k :=
      ⟨fun k => b.toNat / 2 ^ k, by simp, fun k => by simp only; rw [Nat.div_div_eq_div_mul, Nat.pow_succ], fun k => rfl⟩
    have hXb : ∀ k, XK k < 256 := fun k => by rw [hXl]; exact Nat.lt_of_le_of_lt (Nat.div_le_self _ _) hb256
    simp only [← hXl] at hbits
    unfold bC8 at hgb
    repeat' (first 
     | (with_reducible first | refine awp_scope ?_ | refine awp_seq ?_ | refine awp_block ?_)
     | ((with_reducible first | refine awp_label ?_ | refine awp_skip ?_); try simp only [thenA, inBlockA, noGotoA])
     | (with_reducible refine awp_exit ?_; simp only [thenA, inBlockA, noGotoA, if_true, Nat.reduceEqDiff, if_false, ↓reduceIte])
     | (with_reducible refine awp_ret ?_; (try simp only [thenA, inBlockA, noGotoA]); (try simp [-List.reduceReplicate, Nat.add_one_le_iff, -getElem?_pos, -getElem?_neg, List.getElem?_cons_zero, List.getElem?_cons_succ, iC, bC, bC8, e1, hi32, hi2, hgb, hbi, lb, w1]))
     | ((with_reducible first | refine awp_reg 28 hX [1, 2, 3, 4, 5, 6, 8, 16] ?_ | change postOf _ _ _ _ _); simp [-List.reduceReplicate, Nat.add_one_le_iff, -getElem?_pos, -getElem?_neg, List.getElem?_cons_zero, List.getElem?_cons_succ, iC, bC, bC8, e1, hi32, hi2, hgb, hbi, lb, w1])
     | (with_reducible refine awp_if_b rfl (fun hc => ?_) (fun hc => ?_) <;> (try simp [-getElem?_pos, -getElem?_neg] at hc) <;> (try (exfalso; omega)))
     | ((with_reducible first | refine GuardK_b (fun hc => ?_) (fun hc => ?_)) <;> (try simp only [Bool.not_eq_true', Bool.not_eq_false', decide_eq_true_eq, decide_eq_false_iff_not] at hc) <;> (first | (exfalso; omega) | skip) <;> simp [-List.reduceReplicate, Nat.add_one_le_iff, -getElem?_pos, -getElem?_neg, List.getElem?_cons_zero, List.getElem?_cons_succ, iC, bC, bC8, e1, hi32, hi2, hgb, hbi, lb, w1, hc])
     | ((with_reducible first | refine hother _ _ rfl ?_ | refine hother2 _ _ rfl ?_); simp only [inBlockA, thenA, noGotoA, Nat.reduceEqDiff, if_false, if_true, ↓reduceIte])
     | (with_reducible refine And.intro (by omega) ?_)
     | fail)
    have next1 := next; have hother2 := hother; clear next hother
    rw [← hX0]
    refine awp_forU [1, 3, 4, 5, 6] (fun k (q : Nat × Bool) => [(3, .ms 1 q.1 0 (8 * j + k)), (5, .c (iC (XK k))), (6, .c (iC k))]) (fun k (q : Nat × Bool) => [⟨71, 1, false, 0, up (l.map bC8), none⟩, ⟨4, 1, q.2, q.1, up (D (8 * j + k)), none⟩]) (fun k (q : Nat × Bool) => True) (8) (g) (by first | trivial | (simp; done) | omega | (intros; simp at *; done)) (by simp [-List.reduceReplicate, keep, iC]) (by simp [-List.reduceReplicate, iC]) ?_
    rintro k q Q1 hi hH next hother
    conv => arg 5; arg 1; simp only [List.cons_append, List.nil_append, keep, get, Nat.reduceEqDiff, if_true, if_false, ↓reduceIte]
    have hwk := wrap_in ((k : Int) + 1) (by omega)
    by_cases hk8 : k < 8
    · have hk2 : (k : Int) < 8 := by omega
      have ds := DS (8 * j + k) (by omega)
      have dl := DL (8 * j + k) (by omega)
      rw [hbits k hk8] at ds
      have hxk := hXb k
      have s1 := hX1 k
      have m1 : ((XK k : Int)).tmod 2 = ((XK k % 2 : Nat) : Int) := rfl
      have m2 : ((XK k : Int)).tdiv 2 = ((XK (k + 1) : Nat) : Int) := by rw [s1]; rfl
      have w2 := wrap_in ((XK (k + 1) : Nat) : Int) (by have := hXb (k + 1); omega)
      have m3 : ∀ z : Nat, (decide (((z : Int)) = 1)) = decide (z = 1) := fun z => decide_eq_decide.2 (by omega)
      generalize XK k % 2 = zz at *
      unfold bC at ds
      repeat' (first 
       | (with_reducible first | refine awp_scope ?_ | refine awp_seq ?_ | refine awp_block ?_)
       | ((with_reducible first | refine awp_label ?_ | refine awp_skip ?_); try simp only [thenA, inBlockA, noGotoA])
       | (with_reducible refine awp_exit ?_; simp only [thenA, inBlockA, noGotoA, if_true, Nat.reduceEqDiff, if_false, ↓reduceIte])
       | (with_reducible refine awp_ret ?_; (try simp only [thenA, inBlockA, noGotoA]); (try simp [-List.reduceReplicate, Nat.add_one_le_iff, -getElem?_pos, -getElem?_neg, List.getElem?_cons_zero, List.getElem?_cons_succ, iC, bC, hk2, m1, m2, m3, w2, dl, ds, roomB, hwk]))
       | ((with_reducible first | refine awp_reg 28 hX [1, 2, 3, 4, 5, 6, 8, 16] ?_ | change postOf _ _ _ _ _); simp [-List.reduceReplicate, Nat.add_one_le_iff, -getElem?_pos, -getElem?_neg, List.getElem?_cons_zero, List.getElem?_cons_succ, iC, bC, hk2, m1, m2, m3, w2, dl, ds, roomB, hwk])
       | (with_reducible refine awp_if_b rfl (fun hc => ?_) (fun hc => ?_) <;> (try simp [-getElem?_pos, -getElem?_neg] at hc) <;> (try (exfalso; omega)))
       | ((with_reducible first | refine GuardK_b (fun hc => ?_) (fun hc => ?_)) <;> (try simp only [Bool.not_eq_true', Bool.not_eq_false', decide_eq_true_eq, decide_eq_false_iff_not] at hc) <;> (first | (exfalso; omega) | skip) <;> simp [-List.reduceReplicate, Nat.add_one_le_iff, -getElem?_pos, -getElem?_neg, List.getElem?_cons_zero, List.getElem?_cons_succ, iC, bC, hk2, m1, m2, m3, w2, dl, ds, roomB, hwk, hc])
       | ((with_reducible first | refine hother _ _ rfl ?_ | refine hother2 _ _ rfl ?_); simp only [inBlockA, thenA, noGotoA, Nat.reduceEqDiff, if_false, if_true, ↓reduceIte])
       | (with_reducible refine And.intro (by omega) ?_)
       | fail)
      refine next _ _ ((q.1 + 1, false)) (by omega) (by first | trivial | omega | assumption) (by simp [-List.reduceReplicate, keep, iC, ds, Nat.add_assoc]) (by simp [-List.reduceReplicate, iC, ds, Nat.add_assoc])
    · have hk3 : k = 8 := by omega
      subst hk3
      have e8 : 8 * (j + 1) = 8 * j + 8 := by omega
      repeat' (first 
       | (with_reducible first | refine awp_scope ?_ | refine awp_seq ?_ | refine awp_block ?_)
       | ((with_reducible first | refine awp_label ?_ | refine awp_skip ?_); try simp only [thenA, inBlockA, noGotoA])
       | (with_reducible refine awp_exit ?_; simp only [thenA, inBlockA, noGotoA, if_true, Nat.reduceEqDiff, if_false, ↓reduceIte])
       | (with_reducible refine awp_ret ?_; (try simp only [thenA, inBlockA, noGotoA]); (try simp [-List.reduceReplicate, Nat.add_one_le_iff, -getElem?_pos, -getElem?_neg, List.getElem?_cons_zero, List.getElem?_cons_succ, iC, bC, e1, wi]))
       | ((with_reducible first | refine awp_reg 28 hX [1, 2, 3, 4, 5, 6, 8, 16] ?_ | change postOf _ _ _ _ _); simp [-List.reduceReplicate, Nat.add_one_le_iff, -getElem?_pos, -getElem?_neg, List.getElem?_cons_zero, List.getElem?_cons_succ, iC, bC, e1, wi])
       | (with_reducible refine awp_if_b rfl (fun hc => ?_) (fun hc => ?_) <;> (try simp [-getElem?_pos, -getElem?_neg] at hc) <;> (try (exfalso; omega)))
       | ((with_reducible first | refine GuardK_b (fun hc => ?_) (fun hc => ?_)) <;> (try simp only [Bool.not_eq_true', Bool.not_eq_false', decide_eq_true_eq, decide_eq_false_iff_not] at hc) <;> (first | (exfalso; omega) | skip) <;> simp [-List.reduceReplicate, Nat.add_one_le_iff, -getElem?_pos, -getElem?_neg, List.getElem?_cons_zero, List.getElem?_cons_succ, iC, bC, e1, wi, hc])
       | ((with_reducible first | refine hother _ _ rfl ?_ | refine hother2 _ _ rfl ?_); simp only [inBlockA, thenA, noGotoA, Nat.reduceEqDiff, if_false, if_true, ↓reduceIte])
       | (with_reducible refine And.intro (by omega) ?_)
       | fail)
      refine next1 _ _ (q) (by omega) (by first | trivial | omega | assumption) (by simp [-List.reduceReplicate, keep, iC, e8, e3]) (by simp [-List.reduceReplicate, iC, e8, e3])
  · have hj : j = 32 := by omega
    subst hj
    have hexit := hother; clear hother next
    repeat' (first 
     | (with_reducible first | refine awp_scope ?_ | refine awp_seq ?_ | refine awp_block ?_)
     | ((with_reducible first | refine awp_label ?_ | refine awp_skip ?_); try simp only [thenA, inBlockA, noGotoA])
     | (with_reducible refine awp_exit ?_; simp only [thenA, inBlockA, noGotoA, if_true, Nat.reduceEqDiff, if_false, ↓reduceIte])
     | (with_reducible refine awp_ret ?_; (try simp only [thenA, inBlockA, noGotoA]); (try simp [-List.reduceReplicate, Nat.add_one_le_iff, -getElem?_pos, -getElem?_neg, List.getElem?_cons_zero, List.getElem?_cons_succ, iC, bC]))
     | ((with_reducible first | refine awp_reg 28 hX [1, 2, 3, 4, 5, 6, 8, 16] ?_ | change postOf _ _ _ _ _); simp [-List.reduceReplicate, Nat.add_one_le_iff, -getElem?_pos, -getElem?_neg, List.getElem?_cons_zero, List.getElem?_cons_succ, iC, bC])
     | (with_reducible refine awp_if_b rfl (fun hc => ?_) (fun hc => ?_) <;> (try simp [-getElem?_pos, -getElem?_neg] at hc) <;> (try (exfalso; omega)))
     | ((with_reducible first | refine GuardK_b (fun hc => ?_) (fun hc => ?_)) <;> (try simp only [Bool.not_eq_true', Bool.not_eq_false', decide_eq_true_eq, decide_eq_false_iff_not] at hc) <;> (first | (exfalso; omega) | skip) <;> simp [-List.reduceReplicate, Nat.add_one_le_iff, -getElem?_pos, -getElem?_neg, List.getElem?_cons_zero, List.getElem?_cons_succ, iC, bC, hc])
     | ((with_reducible first | refine hother _ _ rfl ?_ | refine hother2 _ _ rfl ?_); simp only [inBlockA, thenA, noGotoA, Nat.reduceEqDiff, if_false, if_true, ↓reduceIte])
     | (with_reducible refine And.intro (by omega) ?_)
     | fail)
    refine hexit _ _ rfl ?_
    simp only [inBlockA, thenA, ↓reduceIte]
    refine awp_frz2 3 [] [⟨71, 1, false, 0, up (l.map bC8), none⟩] [] _ (D 256) _ hO rfl rfl rfl (by simp [ltB]) (by simp [ltB, up]) ?_
    repeat' (first 
     | (with_reducible first | refine awp_scope ?_ | refine awp_seq ?_ | refine awp_block ?_)
     | ((with_reducible first | refine awp_label ?_ | refine awp_skip ?_); try simp only [thenA, inBlockA, noGotoA])
     | (with_reducible refine awp_exit ?_; simp only [thenA, inBlockA, noGotoA, if_true, Nat.reduceEqDiff, if_false, ↓reduceIte])
     | (with_reducible refine awp_ret ?_; (try simp only [thenA, inBlockA, noGotoA]); (try simp [-List.reduceReplicate, Nat.add_one_le_iff, -getElem?_pos, -getElem?_neg, List.getElem?_cons_zero, List.getElem?_cons_succ, iC, bC]))
     | ((with_reducible first | refine awp_reg 28 hX [1, 2, 3, 4, 5, 6, 8, 16] ?_ | change postOf _ _ _ _ _); simp [-List.reduceReplicate, Nat.add_one_le_iff, -getElem?_pos, -getElem?_neg, List.getElem?_cons_zero, List.getElem?_cons_succ, iC, bC])
     | (with_reducible refine awp_if_b rfl (fun hc => ?_) (fun hc => ?_) <;> (try simp [-getElem?_pos, -getElem?_neg] at hc) <;> (try (exfalso; omega)))
     | ((with_reducible first | refine GuardK_b (fun hc => ?_) (fun hc => ?_)) <;> (try simp only [Bool.not_eq_true', Bool.not_eq_false', decide_eq_true_eq, decide_eq_false_iff_not] at hc) <;> (first | (exfalso; omega) | skip) <;> simp [-List.reduceReplicate, Nat.add_one_le_iff, -getElem?_pos, -getElem?_neg, List.getElem?_cons_zero, List.getElem?_cons_succ, iC, bC, hc])
     | ((with_reducible first | refine hother _ _ rfl ?_ | refine hother2 _ _ rfl ?_); simp only [inBlockA, thenA, noGotoA, Nat.reduceEqDiff, if_false, if_true, ↓reduceIte])
     | (with_reducible refine And.intro (by omega) ?_)
     | fail)
end Go.Av
