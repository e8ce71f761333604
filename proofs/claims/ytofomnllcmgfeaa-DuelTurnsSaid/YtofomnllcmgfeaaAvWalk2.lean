/- 1 texts of the program logic over abstract values, joined: each is proved without any condition beyond its own words. -/
import Derived.Test.YtofomnllcmgfeaaAvWalk1
set_option exponentiation.threshold 1000
set_option linter.unusedVariables false
set_option linter.unusedSimpArgs false
set_option maxRecDepth 100000
set_option maxHeartbeats 4000000
namespace Go.Av
open Go Go.Proofs Go.Proofs.Ytofomnllcmgfeaa Go.RowKit
/-! ### word.Lead, large.Cmp, Len, Of, Shl -/
def largeM (x : Nat) : M := .agg (up (limC 5 x))
theorem limC5_get (x i : Nat) (h : i < 5) : (limC 5 x)[i]? = some (u64C (lim x i)) := limC_get 5 x i h
set_option maxHeartbeats 4000000 in
theorem lead_den (x : Nat) (hx : x < 18446744073709551616) : DenV Try.prog 123 [.c (u64C x)] (.c (iC ((64 - bl x : Nat) : Int))) := by
  refine Den.frame rfl rfl ?_
  obtain ⟨b1, b2⟩ := bl_spec x
  have hq : ∀ i, x < 2 ^ (64 - i) → ¬ x < 2 ^ (63 - i) → i < 64 → 64 - bl x = i := fun i h1 h2 h3 => by
    have := bl_eq_of h1 (.inr (by rw [show 64 - i - 1 = 63 - i by omega]; omega))
    omega
  have hq2 : x < 2 ^ (64 - 64) → 64 - bl x = 64 := fun h1 => by
    have : x = 0 := by simp at h1; exact h1
    subst this; rfl
  generalize 64 - bl x = r at *
  refine den_of Try.func123 rfl rfl (by simp [Try.ntmps123]) (fun X hX hO => ?_)
  rw [Try.ntmps123] at hX
  simp only [Try.results123]
  repeat' (first 
   | (with_reducible first | refine awp_scope ?_ | refine awp_seq ?_ | refine awp_block ?_)
   | ((with_reducible first | refine awp_label ?_ | refine awp_skip ?_); try simp only [thenA, inBlockA, noGotoA])
   | (with_reducible refine awp_exit ?_; simp only [thenA, inBlockA, noGotoA, if_true, Nat.reduceEqDiff, if_false, ↓reduceIte])
   | (with_reducible refine awp_ret ?_; (try simp only [thenA, inBlockA, noGotoA]); (try simp [-List.reduceReplicate, Nat.add_one_le_iff, -getElem?_pos, -getElem?_neg, List.getElem?_cons_zero, List.getElem?_cons_succ, iC, u64C]))
   | ((with_reducible first | refine awp_reg 18 hX [0, 2, 3, 4, 5, 6, 13] ?_ | change postOf _ _ _ _ _); simp [-List.reduceReplicate, Nat.add_one_le_iff, -getElem?_pos, -getElem?_neg, List.getElem?_cons_zero, List.getElem?_cons_succ, iC, u64C])
   | (with_reducible refine awp_if_b rfl (fun hc => ?_) (fun hc => ?_) <;> (try simp [-getElem?_pos, -getElem?_neg] at hc) <;> (try (exfalso; omega)))
   | ((with_reducible first | refine GuardK_b (fun hc => ?_) (fun hc => ?_)) <;> (try simp only [Bool.not_eq_true', Bool.not_eq_false', decide_eq_true_eq, decide_eq_false_iff_not] at hc) <;> (first | (exfalso; omega) | skip) <;> simp [-List.reduceReplicate, Nat.add_one_le_iff, -getElem?_pos, -getElem?_neg, List.getElem?_cons_zero, List.getElem?_cons_succ, iC, u64C, hc])
   | ((with_reducible first | refine hother _ _ rfl ?_); simp only [inBlockA, thenA, noGotoA, Nat.reduceEqDiff, if_false, if_true, ↓reduceIte])
   | (with_reducible refine And.intro (by omega) ?_)
   | fail)
  refine awp_forU [0, 3, 5] (fun i (_u : Unit) => [(3, .c (iC i)), (5, .c (iC i))]) (fun i (_u : Unit) => []) (fun i (_u : Unit) => x < 2 ^ (64 - i)) (64) (()) (by first | trivial | (simp; done) | omega | (intros; simp at *; done)) (by simp [-List.reduceReplicate, keep, iC]) (by simp [-List.reduceReplicate, iC]) ?_
  rintro i _u Q1 hi hH next hother
  conv => arg 5; arg 1; simp only [List.cons_append, List.nil_append, keep, get, Nat.reduceEqDiff, if_true, if_false, ↓reduceIte]
  have hwi := wrap_in ((i : Int) + 1) (by omega)
  by_cases hlt : i < 64
  · have w1 := wrap_in (63 - (i : Int)) (by omega)
    have w2 := wrapU64 (63 - (i : Int)) (by omega)
    have i1 : ¬ 63 - (i : Int) < 0 := by omega
    have tn : (63 - (i : Int)).toNat = 63 - i := by omega
    have mn : min (63 - i) IntKind.u64.bits = 63 - i := by show min (63 - i) 64 = 63 - i; omega
    have hi2 : (i : Int) < 64 := by omega
    have fd := fdiv_pow x (63 - i)
    by_cases c : x < 2 ^ (63 - i)
    · have d0 : x / 2 ^ (63 - i) = 0 := Nat.div_eq_of_lt c
      rw [d0] at fd
      have nx : x < 2 ^ (64 - (i + 1)) := by rw [show 64 - (i + 1) = 63 - i by omega]; exact c
      repeat' (first 
       | (with_reducible first | refine awp_scope ?_ | refine awp_seq ?_ | refine awp_block ?_)
       | ((with_reducible first | refine awp_label ?_ | refine awp_skip ?_); try simp only [thenA, inBlockA, noGotoA])
       | (with_reducible refine awp_exit ?_; simp only [thenA, inBlockA, noGotoA, if_true, Nat.reduceEqDiff, if_false, ↓reduceIte])
       | (with_reducible refine awp_ret ?_; (try simp only [thenA, inBlockA, noGotoA]); (try simp [-List.reduceReplicate, Nat.add_one_le_iff, -getElem?_pos, -getElem?_neg, List.getElem?_cons_zero, List.getElem?_cons_succ, iC, bC, u64C, hi2, w1, w2, i1, tn, mn, fd, hwi]))
       | ((with_reducible first | refine awp_reg 18 hX [0, 2, 3, 4, 5, 6, 13] ?_ | change postOf _ _ _ _ _); simp [-List.reduceReplicate, Nat.add_one_le_iff, -getElem?_pos, -getElem?_neg, List.getElem?_cons_zero, List.getElem?_cons_succ, iC, bC, u64C, hi2, w1, w2, i1, tn, mn, fd, hwi])
       | (with_reducible refine awp_if_b rfl (fun hc => ?_) (fun hc => ?_) <;> (try simp [-getElem?_pos, -getElem?_neg] at hc) <;> (try (exfalso; omega)))
       | ((with_reducible first | refine GuardK_b (fun hc => ?_) (fun hc => ?_)) <;> (try simp only [Bool.not_eq_true', Bool.not_eq_false', decide_eq_true_eq, decide_eq_false_iff_not] at hc) <;> (first | (exfalso; omega) | skip) <;> simp [-List.reduceReplicate, Nat.add_one_le_iff, -getElem?_pos, -getElem?_neg, List.getElem?_cons_zero, List.getElem?_cons_succ, iC, bC, u64C, hi2, w1, w2, i1, tn, mn, fd, hwi, hc])
       | ((with_reducible first | refine hother _ _ rfl ?_); simp only [inBlockA, thenA, noGotoA, Nat.reduceEqDiff, if_false, if_true, ↓reduceIte])
       | (with_reducible refine And.intro (by omega) ?_)
       | fail)
      refine next _ _ (()) (by omega) (by first | trivial | omega | assumption) (by simp [-List.reduceReplicate, keep, iC]) (by simp [-List.reduceReplicate, iC])
    · have d0 : ¬ ((x / 2 ^ (63 - i) : Nat) : Int) = 0 := by
        have := Nat.div_pos (show 2 ^ (63 - i) ≤ x by omega) (Nat.two_pow_pos _)
        omega
      have hr := hq i hH c hlt
      generalize x / 2 ^ (63 - i) = z at *
      repeat' (first 
       | (with_reducible first | refine awp_scope ?_ | refine awp_seq ?_ | refine awp_block ?_)
       | ((with_reducible first | refine awp_label ?_ | refine awp_skip ?_); try simp only [thenA, inBlockA, noGotoA])
       | (with_reducible refine awp_exit ?_; simp only [thenA, inBlockA, noGotoA, if_true, Nat.reduceEqDiff, if_false, ↓reduceIte])
       | (with_reducible refine awp_ret ?_; (try simp only [thenA, inBlockA, noGotoA]); (try simp [-List.reduceReplicate, Nat.add_one_le_iff, -getElem?_pos, -getElem?_neg, List.getElem?_cons_zero, List.getElem?_cons_succ, iC, bC, u64C, hi2, w1, w2, i1, tn, mn, fd, d0, hr]))
       | ((with_reducible first | refine awp_reg 18 hX [0, 2, 3, 4, 5, 6, 13] ?_ | change postOf _ _ _ _ _); simp [-List.reduceReplicate, Nat.add_one_le_iff, -getElem?_pos, -getElem?_neg, List.getElem?_cons_zero, List.getElem?_cons_succ, iC, bC, u64C, hi2, w1, w2, i1, tn, mn, fd, d0, hr])
       | (with_reducible refine awp_if_b rfl (fun hc => ?_) (fun hc => ?_) <;> (try simp [-getElem?_pos, -getElem?_neg] at hc) <;> (try (exfalso; omega)))
       | ((with_reducible first | refine GuardK_b (fun hc => ?_) (fun hc => ?_)) <;> (try simp only [Bool.not_eq_true', Bool.not_eq_false', decide_eq_true_eq, decide_eq_false_iff_not] at hc) <;> (first | (exfalso; omega) | skip) <;> simp [-List.reduceReplicate, Nat.add_one_le_iff, -getElem?_pos, -getElem?_neg, List.getElem?_cons_zero, List.getElem?_cons_succ, iC, bC, u64C, hi2, w1, w2, i1, tn, mn, fd, d0, hr, hc])
       | ((with_reducible first | refine hother _ _ rfl ?_); simp only [inBlockA, thenA, noGotoA, Nat.reduceEqDiff, if_false, if_true, ↓reduceIte])
       | (with_reducible refine And.intro (by omega) ?_)
       | fail)
  · have hi3 : i = 64 := by omega
    subst hi3
    have hr := hq2 hH
    repeat' (first 
     | (with_reducible first | refine awp_scope ?_ | refine awp_seq ?_ | refine awp_block ?_)
     | ((with_reducible first | refine awp_label ?_ | refine awp_skip ?_); try simp only [thenA, inBlockA, noGotoA])
     | (with_reducible refine awp_exit ?_; simp only [thenA, inBlockA, noGotoA, if_true, Nat.reduceEqDiff, if_false, ↓reduceIte])
     | (with_reducible refine awp_ret ?_; (try simp only [thenA, inBlockA, noGotoA]); (try simp [-List.reduceReplicate, Nat.add_one_le_iff, -getElem?_pos, -getElem?_neg, List.getElem?_cons_zero, List.getElem?_cons_succ, iC, hr]))
     | ((with_reducible first | refine awp_reg 18 hX [0, 2, 3, 4, 5, 6, 13] ?_ | change postOf _ _ _ _ _); simp [-List.reduceReplicate, Nat.add_one_le_iff, -getElem?_pos, -getElem?_neg, List.getElem?_cons_zero, List.getElem?_cons_succ, iC, hr])
     | (with_reducible refine awp_if_b rfl (fun hc => ?_) (fun hc => ?_) <;> (try simp [-getElem?_pos, -getElem?_neg] at hc) <;> (try (exfalso; omega)))
     | ((with_reducible first | refine GuardK_b (fun hc => ?_) (fun hc => ?_)) <;> (try simp only [Bool.not_eq_true', Bool.not_eq_false', decide_eq_true_eq, decide_eq_false_iff_not] at hc) <;> (first | (exfalso; omega) | skip) <;> simp [-List.reduceReplicate, Nat.add_one_le_iff, -getElem?_pos, -getElem?_neg, List.getElem?_cons_zero, List.getElem?_cons_succ, iC, hr, hc])
     | ((with_reducible first | refine hother _ _ rfl ?_); simp only [inBlockA, thenA, noGotoA, Nat.reduceEqDiff, if_false, if_true, ↓reduceIte])
     | (with_reducible refine And.intro (by omega) ?_)
     | fail)
set_option maxHeartbeats 4000000 in
theorem cmp_den (x y : Nat) (hx : x < 2 ^ 320) (hy : y < 2 ^ 320) : DenV Try.prog 68 [largeM x, largeM y] (.c (iC (cmpN x y))) := by
  refine Den.frame (by simp [largeM, ltBs, ltB]) rfl ?_
  have gx := limC5_get x
  have gy := limC5_get y
  have lx := limC_len 5 x
  have ly := limC_len 5 y
  have hs := fun i => @lim_lt_of x y i
  have hs2 := fun i => @lim_lt_of y x i
  have he := fun i => @lim_eq_of x y i
  have h0 : x / 2 ^ (64 * (5 - 0)) = y / 2 ^ (64 * (5 - 0)) := by rw [Nat.div_eq_of_lt hx, Nat.div_eq_of_lt hy]
  unfold largeM
  generalize limC 5 x = cx at *
  generalize limC 5 y = cy at *
  generalize lim x = fx at *
  generalize lim y = fy at *
  refine den_of Try.func68 rfl rfl (by simp [Try.ntmps68]) (fun X hX hO => ?_)
  rw [Try.ntmps68] at hX
  simp only [Try.results68]
  repeat' (first 
   | (with_reducible first | refine awp_scope ?_ | refine awp_seq ?_ | refine awp_block ?_)
   | ((with_reducible first | refine awp_label ?_ | refine awp_skip ?_); try simp only [thenA, inBlockA, noGotoA])
   | (with_reducible refine awp_exit ?_; simp only [thenA, inBlockA, noGotoA, if_true, Nat.reduceEqDiff, if_false, ↓reduceIte])
   | (with_reducible refine awp_ret ?_; (try simp only [thenA, inBlockA, noGotoA]); (try simp [-List.reduceReplicate, Nat.add_one_le_iff, -getElem?_pos, -getElem?_neg, List.getElem?_cons_zero, List.getElem?_cons_succ, iC, lx, ly]))
   | ((with_reducible first | refine awp_reg 26 hX [2, 3, 4, 5, 6, 7, 8, 9, 21, 24] ?_ | refine awp_drw 26 hX [2, 3, 4, 5, 6, 7, 8, 9, 21, 24] Tab.mixed (by kernel_rfl) ?_ | refine DEv_cut _ _ _ _ _ _ _ _ _ _ _ _ (by kernel_rfl) ?_ | change postOf _ _ _ _ _); simp [-List.reduceReplicate, Nat.add_one_le_iff, -getElem?_pos, -getElem?_neg, List.getElem?_cons_zero, List.getElem?_cons_succ, iC, lx, ly])
   | (with_reducible refine awp_if_b rfl (fun hc => ?_) (fun hc => ?_) <;> (try simp [-getElem?_pos, -getElem?_neg] at hc) <;> (try (exfalso; omega)))
   | ((with_reducible first | refine GuardK_b (fun hc => ?_) (fun hc => ?_) | refine DGuard_b _ _ _ _ _ _ _ _ _ _ (fun hc => ?_) (fun hc => ?_)) <;> (try simp only [Bool.not_eq_true', Bool.not_eq_false', decide_eq_true_eq, decide_eq_false_iff_not] at hc) <;> (first | (exfalso; omega) | skip) <;> simp [-List.reduceReplicate, Nat.add_one_le_iff, -getElem?_pos, -getElem?_neg, List.getElem?_cons_zero, List.getElem?_cons_succ, iC, lx, ly, hc])
   | ((with_reducible first | refine hother _ _ rfl ?_); simp only [inBlockA, thenA, noGotoA, Nat.reduceEqDiff, if_false, if_true, ↓reduceIte])
   | (with_reducible refine And.intro (by omega) ?_)
   | fail)
  refine awp_forU [2, 3, 8] (fun i (_u : Unit) => [(8, .c (iC i))]) (fun i (_u : Unit) => [⟨50, 1, false, 0, up cx, none⟩, ⟨50, 1, false, 0, up cy, none⟩]) (fun i (_u : Unit) => x / 2 ^ (64 * (5 - i)) = y / 2 ^ (64 * (5 - i))) (5) (()) (h0) (by simp [-List.reduceReplicate, keep, iC]) (by simp [-List.reduceReplicate, iC]) ?_
  rintro i _u Q1 hi hH next hother
  conv => arg 5; arg 1; simp only [List.cons_append, List.nil_append, keep, get, Nat.reduceEqDiff, if_true, if_false, ↓reduceIte]
  have hwi := wrap_in ((i : Int) + 1) (by omega)
  by_cases hlt : i < 5
  · obtain ⟨j, hj⟩ : ∃ j, 4 - i = j := ⟨_, rfl⟩
    have hij : (4 - (i : Int)) = (j : Int) := by omega
    have e1 : 5 - i = j + 1 := by omega
    have e2 : 5 - (i + 1) = j := by omega
    have wj := wrap_in (j : Int) (by omega)
    have hj5 : j < 5 := by omega
    have hi2 : (i : Int) < 5 := by omega
    rw [e1] at hH
    rw [e2] at next
    have g1 := gx j hj5
    have g2 := gy j hj5
    by_cases c : fx j = fy j
    · have nx := he j hH c
      repeat' (first 
       | (with_reducible first | refine awp_scope ?_ | refine awp_seq ?_ | refine awp_block ?_)
       | ((with_reducible first | refine awp_label ?_ | refine awp_skip ?_); try simp only [thenA, inBlockA, noGotoA])
       | (with_reducible refine awp_exit ?_; simp only [thenA, inBlockA, noGotoA, if_true, Nat.reduceEqDiff, if_false, ↓reduceIte])
       | (with_reducible refine awp_ret ?_; (try simp only [thenA, inBlockA, noGotoA]); (try simp [-List.reduceReplicate, Nat.add_one_le_iff, -getElem?_pos, -getElem?_neg, List.getElem?_cons_zero, List.getElem?_cons_succ, iC, bC, u64C, hi2, hij, wj, hj5, g1, g2, lx, ly, hwi, c]))
       | ((with_reducible first | refine awp_reg 26 hX [2, 3, 4, 5, 6, 7, 8, 9, 21, 24] ?_ | refine awp_drw 26 hX [2, 3, 4, 5, 6, 7, 8, 9, 21, 24] Tab.mixed (by kernel_rfl) ?_ | refine DEv_cut _ _ _ _ _ _ _ _ _ _ _ _ (by kernel_rfl) ?_ | change postOf _ _ _ _ _); simp [-List.reduceReplicate, Nat.add_one_le_iff, -getElem?_pos, -getElem?_neg, List.getElem?_cons_zero, List.getElem?_cons_succ, iC, bC, u64C, hi2, hij, wj, hj5, g1, g2, lx, ly, hwi, c])
       | (with_reducible refine awp_if_b rfl (fun hc => ?_) (fun hc => ?_) <;> (try simp [-getElem?_pos, -getElem?_neg] at hc) <;> (try (exfalso; omega)))
       | ((with_reducible first | refine GuardK_b (fun hc => ?_) (fun hc => ?_) | refine DGuard_b _ _ _ _ _ _ _ _ _ _ (fun hc => ?_) (fun hc => ?_)) <;> (try simp only [Bool.not_eq_true', Bool.not_eq_false', decide_eq_true_eq, decide_eq_false_iff_not] at hc) <;> (first | (exfalso; omega) | skip) <;> simp [-List.reduceReplicate, Nat.add_one_le_iff, -getElem?_pos, -getElem?_neg, List.getElem?_cons_zero, List.getElem?_cons_succ, iC, bC, u64C, hi2, hij, wj, hj5, g1, g2, lx, ly, hwi, c, hc])
       | ((with_reducible first | refine hother _ _ rfl ?_); simp only [inBlockA, thenA, noGotoA, Nat.reduceEqDiff, if_false, if_true, ↓reduceIte])
       | (with_reducible refine And.intro (by omega) ?_)
       | fail)
      refine next _ _ (()) (by omega) (by first | trivial | omega | assumption) (by simp [-List.reduceReplicate, keep, iC]) (by simp [-List.reduceReplicate, iC])
    · by_cases c2 : fx j < fy j
      · have hcm := (cmpN_lt (hs j hH c2)).symm
        repeat' (first 
         | (with_reducible first | refine awp_scope ?_ | refine awp_seq ?_ | refine awp_block ?_)
         | ((with_reducible first | refine awp_label ?_ | refine awp_skip ?_); try simp only [thenA, inBlockA, noGotoA])
         | (with_reducible refine awp_exit ?_; simp only [thenA, inBlockA, noGotoA, if_true, Nat.reduceEqDiff, if_false, ↓reduceIte])
         | (with_reducible refine awp_ret ?_; (try simp only [thenA, inBlockA, noGotoA]); (try simp [-List.reduceReplicate, Nat.add_one_le_iff, -getElem?_pos, -getElem?_neg, List.getElem?_cons_zero, List.getElem?_cons_succ, iC, bC, u64C, hi2, hij, wj, hj5, g1, g2, lx, ly, c, c2]))
         | ((with_reducible first | refine awp_reg 26 hX [2, 3, 4, 5, 6, 7, 8, 9, 21, 24] ?_ | refine awp_drw 26 hX [2, 3, 4, 5, 6, 7, 8, 9, 21, 24] Tab.mixed (by kernel_rfl) ?_ | refine DEv_cut _ _ _ _ _ _ _ _ _ _ _ _ (by kernel_rfl) ?_ | change postOf _ _ _ _ _); simp [-List.reduceReplicate, Nat.add_one_le_iff, -getElem?_pos, -getElem?_neg, List.getElem?_cons_zero, List.getElem?_cons_succ, iC, bC, u64C, hi2, hij, wj, hj5, g1, g2, lx, ly, c, c2])
         | (with_reducible refine awp_if_b rfl (fun hc => ?_) (fun hc => ?_) <;> (try simp [-getElem?_pos, -getElem?_neg] at hc) <;> (try (exfalso; omega)))
         | ((with_reducible first | refine GuardK_b (fun hc => ?_) (fun hc => ?_) | refine DGuard_b _ _ _ _ _ _ _ _ _ _ (fun hc => ?_) (fun hc => ?_)) <;> (try simp only [Bool.not_eq_true', Bool.not_eq_false', decide_eq_true_eq, decide_eq_false_iff_not] at hc) <;> (first | (exfalso; omega) | skip) <;> simp [-List.reduceReplicate, Nat.add_one_le_iff, -getElem?_pos, -getElem?_neg, List.getElem?_cons_zero, List.getElem?_cons_succ, iC, bC, u64C, hi2, hij, wj, hj5, g1, g2, lx, ly, c, c2, hc])
         | ((with_reducible first | refine hother _ _ rfl ?_); simp only [inBlockA, thenA, noGotoA, Nat.reduceEqDiff, if_false, if_true, ↓reduceIte])
         | (with_reducible refine And.intro (by omega) ?_)
         | fail)
        exact hcm
      · have hcm := (cmpN_gt (hs2 j hH.symm (by omega))).symm
        repeat' (first 
         | (with_reducible first | refine awp_scope ?_ | refine awp_seq ?_ | refine awp_block ?_)
         | ((with_reducible first | refine awp_label ?_ | refine awp_skip ?_); try simp only [thenA, inBlockA, noGotoA])
         | (with_reducible refine awp_exit ?_; simp only [thenA, inBlockA, noGotoA, if_true, Nat.reduceEqDiff, if_false, ↓reduceIte])
         | (with_reducible refine awp_ret ?_; (try simp only [thenA, inBlockA, noGotoA]); (try simp [-List.reduceReplicate, Nat.add_one_le_iff, -getElem?_pos, -getElem?_neg, List.getElem?_cons_zero, List.getElem?_cons_succ, iC, bC, u64C, hi2, hij, wj, hj5, g1, g2, lx, ly, c, c2]))
         | ((with_reducible first | refine awp_reg 26 hX [2, 3, 4, 5, 6, 7, 8, 9, 21, 24] ?_ | refine awp_drw 26 hX [2, 3, 4, 5, 6, 7, 8, 9, 21, 24] Tab.mixed (by kernel_rfl) ?_ | refine DEv_cut _ _ _ _ _ _ _ _ _ _ _ _ (by kernel_rfl) ?_ | change postOf _ _ _ _ _); simp [-List.reduceReplicate, Nat.add_one_le_iff, -getElem?_pos, -getElem?_neg, List.getElem?_cons_zero, List.getElem?_cons_succ, iC, bC, u64C, hi2, hij, wj, hj5, g1, g2, lx, ly, c, c2])
         | (with_reducible refine awp_if_b rfl (fun hc => ?_) (fun hc => ?_) <;> (try simp [-getElem?_pos, -getElem?_neg] at hc) <;> (try (exfalso; omega)))
         | ((with_reducible first | refine GuardK_b (fun hc => ?_) (fun hc => ?_) | refine DGuard_b _ _ _ _ _ _ _ _ _ _ (fun hc => ?_) (fun hc => ?_)) <;> (try simp only [Bool.not_eq_true', Bool.not_eq_false', decide_eq_true_eq, decide_eq_false_iff_not] at hc) <;> (first | (exfalso; omega) | skip) <;> simp [-List.reduceReplicate, Nat.add_one_le_iff, -getElem?_pos, -getElem?_neg, List.getElem?_cons_zero, List.getElem?_cons_succ, iC, bC, u64C, hi2, hij, wj, hj5, g1, g2, lx, ly, c, c2, hc])
         | ((with_reducible first | refine hother _ _ rfl ?_); simp only [inBlockA, thenA, noGotoA, Nat.reduceEqDiff, if_false, if_true, ↓reduceIte])
         | (with_reducible refine And.intro (by omega) ?_)
         | fail)
        exact hcm
  · have hi3 : i = 5 := by omega
    subst hi3
    have : x = y := by simpa using hH
    subst this
    have hcm := (cmpN_eq x).symm
    repeat' (first 
     | (with_reducible first | refine awp_scope ?_ | refine awp_seq ?_ | refine awp_block ?_)
     | ((with_reducible first | refine awp_label ?_ | refine awp_skip ?_); try simp only [thenA, inBlockA, noGotoA])
     | (with_reducible refine awp_exit ?_; simp only [thenA, inBlockA, noGotoA, if_true, Nat.reduceEqDiff, if_false, ↓reduceIte])
     | (with_reducible refine awp_ret ?_; (try simp only [thenA, inBlockA, noGotoA]); (try simp [-List.reduceReplicate, Nat.add_one_le_iff, -getElem?_pos, -getElem?_neg, List.getElem?_cons_zero, List.getElem?_cons_succ, iC]))
     | ((with_reducible first | refine awp_reg 26 hX [2, 3, 4, 5, 6, 7, 8, 9, 21, 24] ?_ | refine awp_drw 26 hX [2, 3, 4, 5, 6, 7, 8, 9, 21, 24] Tab.mixed (by kernel_rfl) ?_ | refine DEv_cut _ _ _ _ _ _ _ _ _ _ _ _ (by kernel_rfl) ?_ | change postOf _ _ _ _ _); simp [-List.reduceReplicate, Nat.add_one_le_iff, -getElem?_pos, -getElem?_neg, List.getElem?_cons_zero, List.getElem?_cons_succ, iC])
     | (with_reducible refine awp_if_b rfl (fun hc => ?_) (fun hc => ?_) <;> (try simp [-getElem?_pos, -getElem?_neg] at hc) <;> (try (exfalso; omega)))
     | ((with_reducible first | refine GuardK_b (fun hc => ?_) (fun hc => ?_) | refine DGuard_b _ _ _ _ _ _ _ _ _ _ (fun hc => ?_) (fun hc => ?_)) <;> (try simp only [Bool.not_eq_true', Bool.not_eq_false', decide_eq_true_eq, decide_eq_false_iff_not] at hc) <;> (first | (exfalso; omega) | skip) <;> simp [-List.reduceReplicate, Nat.add_one_le_iff, -getElem?_pos, -getElem?_neg, List.getElem?_cons_zero, List.getElem?_cons_succ, iC, hc])
     | ((with_reducible first | refine hother _ _ rfl ?_); simp only [inBlockA, thenA, noGotoA, Nat.reduceEqDiff, if_false, if_true, ↓reduceIte])
     | (with_reducible refine And.intro (by omega) ?_)
     | fail)
    exact hcm
theorem bl_le {x k : Nat} (h : x < 2 ^ k) : bl x ≤ k := by
  obtain ⟨a, b⟩ := bl_spec x
  rcases b with c | c
  · omega
  · rcases Nat.lt_or_ge k (bl x) with d | d
    · have : 2 ^ k ≤ 2 ^ (bl x - 1) := Nat.pow_le_pow_right (by decide) (by omega)
      omega
    · exact d
set_option maxHeartbeats 4000000 in
theorem len_den (x : Nat) (hx : x < 2 ^ (64 * 5)) : DenV Try.prog 113 [largeM x] (.c (iC (bl x))) := by
  refine Den.frame (by simp [largeM, ltBs, ltB]) rfl ?_
  have gx := limC5_get x
  have lx := limC_len 5 x
  have hb := fun j => @bl_high x j
  have hz := fun j => @lim_zero_high x j
  have hlt := lim_lt x
  have hble := bl_le hx
  have hb0 : x < 2 ^ (64 * 0) → bl x = 0 := fun h => by
    have : x = 0 := by simpa using h
    subst this; rfl
  have ld := fun j => lead_den (lim x j) (hlt j)
  have lb := fun j => bl_le (show lim x j < 2 ^ 64 from hlt j)
  unfold largeM
  obtain ⟨P, hP⟩ : ∃ P : Nat → Prop, P = fun j => x < 2 ^ (64 * j) := ⟨_, rfl⟩
  have hb' : ∀ j, P (j + 1) → lim x j ≠ 0 → bl x = 64 * j + bl (lim x j) := by rw [hP]; exact hb
  have hz' : ∀ j, P (j + 1) → lim x j = 0 → P j := by rw [hP]; exact hz
  have hb0' : P 0 → bl x = 0 := by rw [hP]; exact hb0
  have hx' : P 5 := by rw [hP]; exact hx
  clear hP hb hz hb0 hx
  generalize limC 5 x = cx at *
  generalize lim x = fx at *
  generalize bl x = r at *
  refine den_of Try.func113 rfl rfl (by simp [Try.ntmps113]) (fun X hX hO => ?_)
  rw [Try.ntmps113] at hX
  simp only [Try.results113]
  repeat' (first 
   | (with_reducible first | refine awp_scope ?_ | refine awp_seq ?_ | refine awp_block ?_)
   | ((with_reducible first | refine awp_label ?_ | refine awp_skip ?_); try simp only [thenA, inBlockA, noGotoA])
   | (with_reducible refine awp_exit ?_; simp only [thenA, inBlockA, noGotoA, if_true, Nat.reduceEqDiff, if_false, ↓reduceIte])
   | (with_reducible refine awp_ret ?_; (try simp only [thenA, inBlockA, noGotoA]); (try simp [-List.reduceReplicate, Nat.add_one_le_iff, -getElem?_pos, -getElem?_neg, List.getElem?_cons_zero, List.getElem?_cons_succ, iC, lx]))
   | ((with_reducible first | refine awp_reg 21 hX [1, 2, 3, 4, 5, 6, 13] ?_ | change postOf _ _ _ _ _); simp [-List.reduceReplicate, Nat.add_one_le_iff, -getElem?_pos, -getElem?_neg, List.getElem?_cons_zero, List.getElem?_cons_succ, iC, lx])
   | (with_reducible refine awp_if_b rfl (fun hc => ?_) (fun hc => ?_) <;> (try simp [-getElem?_pos, -getElem?_neg] at hc) <;> (try (exfalso; omega)))
   | ((with_reducible first | refine GuardK_b (fun hc => ?_) (fun hc => ?_)) <;> (try simp only [Bool.not_eq_true', Bool.not_eq_false', decide_eq_true_eq, decide_eq_false_iff_not] at hc) <;> (first | (exfalso; omega) | skip) <;> simp [-List.reduceReplicate, Nat.add_one_le_iff, -getElem?_pos, -getElem?_neg, List.getElem?_cons_zero, List.getElem?_cons_succ, iC, lx, hc])
   | ((with_reducible first | refine hother _ _ rfl ?_); simp only [inBlockA, thenA, noGotoA, Nat.reduceEqDiff, if_false, if_true, ↓reduceIte])
   | (with_reducible refine And.intro (by omega) ?_)
   | fail)
  refine awp_forU [1, 5] (fun i (_u : Unit) => [(5, .c (iC i))]) (fun i (_u : Unit) => [⟨50, 1, false, 0, up cx, none⟩]) (fun i (_u : Unit) => P (5 - i)) (5) (()) (hx') (by simp [-List.reduceReplicate, keep, iC]) (by simp [-List.reduceReplicate, iC]) ?_
  rintro i _u Q1 hi hH next hother
  conv => arg 5; arg 1; simp only [List.cons_append, List.nil_append, keep, get, Nat.reduceEqDiff, if_true, if_false, ↓reduceIte]
  have hwi := wrap_in ((i : Int) + 1) (by omega)
  by_cases hlt5 : i < 5
  · obtain ⟨j, hj⟩ : ∃ j, 4 - i = j := ⟨_, rfl⟩
    have hij : (4 - (i : Int)) = (j : Int) := by omega
    have e1 : 5 - i = j + 1 := by omega
    have e2 : 5 - (i + 1) = j := by omega
    have wj := wrap_in (j : Int) (by omega)
    have hj5 : j < 5 := by omega
    have hi2 : (i : Int) < 5 := by omega
    rw [e1] at hH
    rw [e2] at next
    have g1 := gx j hj5
    by_cases c : fx j = 0
    · have nx := hz' j hH c
      repeat' (first 
       | (with_reducible first | refine awp_scope ?_ | refine awp_seq ?_ | refine awp_block ?_)
       | ((with_reducible first | refine awp_label ?_ | refine awp_skip ?_); try simp only [thenA, inBlockA, noGotoA])
       | (with_reducible refine awp_exit ?_; simp only [thenA, inBlockA, noGotoA, if_true, Nat.reduceEqDiff, if_false, ↓reduceIte])
       | (with_reducible refine awp_ret ?_; (try simp only [thenA, inBlockA, noGotoA]); (try simp [-List.reduceReplicate, Nat.add_one_le_iff, -getElem?_pos, -getElem?_neg, List.getElem?_cons_zero, List.getElem?_cons_succ, iC, bC, u64C, hi2, hij, wj, hj5, g1, lx, hwi, c]))
       | ((with_reducible first | refine awp_reg 21 hX [1, 2, 3, 4, 5, 6, 13] ?_ | change postOf _ _ _ _ _); simp [-List.reduceReplicate, Nat.add_one_le_iff, -getElem?_pos, -getElem?_neg, List.getElem?_cons_zero, List.getElem?_cons_succ, iC, bC, u64C, hi2, hij, wj, hj5, g1, lx, hwi, c])
       | (with_reducible refine awp_if_b rfl (fun hc => ?_) (fun hc => ?_) <;> (try simp [-getElem?_pos, -getElem?_neg] at hc) <;> (try (exfalso; omega)))
       | ((with_reducible first | refine GuardK_b (fun hc => ?_) (fun hc => ?_)) <;> (try simp only [Bool.not_eq_true', Bool.not_eq_false', decide_eq_true_eq, decide_eq_false_iff_not] at hc) <;> (first | (exfalso; omega) | skip) <;> simp [-List.reduceReplicate, Nat.add_one_le_iff, -getElem?_pos, -getElem?_neg, List.getElem?_cons_zero, List.getElem?_cons_succ, iC, bC, u64C, hi2, hij, wj, hj5, g1, lx, hwi, c, hc])
       | ((with_reducible first | refine hother _ _ rfl ?_); simp only [inBlockA, thenA, noGotoA, Nat.reduceEqDiff, if_false, if_true, ↓reduceIte])
       | (with_reducible refine And.intro (by omega) ?_)
       | fail)
      refine next _ _ (()) (by omega) (by first | trivial | omega | assumption) (by simp [-List.reduceReplicate, keep, iC]) (by simp [-List.reduceReplicate, iC])
    · have q1 := ld j
      have hbj := hb' j hH c
      have hlb := lb j
      generalize fx j = a at *
      obtain ⟨z, hz1⟩ : ∃ z, 64 - bl a = z := ⟨_, rfl⟩
      rw [hz1] at q1
      have c' : ¬ (a : Int) = 0 := by omega
      have w1 := wrap_in (64 * (i : Int)) (by omega)
      have w2 := wrap_in (320 - 64 * (i : Int)) (by omega)
      have w3 := wrap_in (320 - 64 * (i : Int) - (z : Int)) (by omega)
      have w4 : 320 - 64 * (i : Int) - (z : Int) = (r : Int) := by omega
      have w5 := wrap_in (r : Int) (by omega)
      unfold u64C at q1
      repeat' (first 
       | (with_reducible first | refine awp_scope ?_ | refine awp_seq ?_ | refine awp_block ?_)
       | ((with_reducible first | refine awp_label ?_ | refine awp_skip ?_); try simp only [thenA, inBlockA, noGotoA])
       | (with_reducible refine awp_exit ?_; simp only [thenA, inBlockA, noGotoA, if_true, Nat.reduceEqDiff, if_false, ↓reduceIte])
       | (with_reducible refine awp_ret ?_; (try simp only [thenA, inBlockA, noGotoA]); (try simp [-List.reduceReplicate, Nat.add_one_le_iff, -getElem?_pos, -getElem?_neg, List.getElem?_cons_zero, List.getElem?_cons_succ, iC, bC, u64C, hi2, hij, wj, hj5, g1, lx, c, c', w1, w2, w3, w4, w5]))
       | ((with_reducible first | refine awp_reg 21 hX [1, 2, 3, 4, 5, 6, 13] ?_ | change postOf _ _ _ _ _); simp [-List.reduceReplicate, Nat.add_one_le_iff, -getElem?_pos, -getElem?_neg, List.getElem?_cons_zero, List.getElem?_cons_succ, iC, bC, u64C, hi2, hij, wj, hj5, g1, lx, c, c', w1, w2, w3, w4, w5])
       | ((first | (refine (q1 _).det ?_)); try simp [-List.reduceReplicate, Nat.add_one_le_iff, -getElem?_pos, -getElem?_neg, List.getElem?_cons_zero, List.getElem?_cons_succ, iC, bC, u64C, hi2, hij, wj, hj5, g1, lx, c, c', w1, w2, w3, w4, w5])
       | (with_reducible refine awp_if_b rfl (fun hc => ?_) (fun hc => ?_) <;> (try simp [-getElem?_pos, -getElem?_neg] at hc) <;> (try (exfalso; omega)))
       | ((with_reducible first | refine GuardK_b (fun hc => ?_) (fun hc => ?_)) <;> (try simp only [Bool.not_eq_true', Bool.not_eq_false', decide_eq_true_eq, decide_eq_false_iff_not] at hc) <;> (first | (exfalso; omega) | skip) <;> simp [-List.reduceReplicate, Nat.add_one_le_iff, -getElem?_pos, -getElem?_neg, List.getElem?_cons_zero, List.getElem?_cons_succ, iC, bC, u64C, hi2, hij, wj, hj5, g1, lx, c, c', w1, w2, w3, w4, w5, hc])
       | ((with_reducible first | refine hother _ _ rfl ?_); simp only [inBlockA, thenA, noGotoA, Nat.reduceEqDiff, if_false, if_true, ↓reduceIte])
       | (with_reducible refine And.intro (by omega) ?_)
       | fail)
  · have hi3 : i = 5 := by omega
    subst hi3
    have hr := hb0' hH
    repeat' (first 
     | (with_reducible first | refine awp_scope ?_ | refine awp_seq ?_ | refine awp_block ?_)
     | ((with_reducible first | refine awp_label ?_ | refine awp_skip ?_); try simp only [thenA, inBlockA, noGotoA])
     | (with_reducible refine awp_exit ?_; simp only [thenA, inBlockA, noGotoA, if_true, Nat.reduceEqDiff, if_false, ↓reduceIte])
     | (with_reducible refine awp_ret ?_; (try simp only [thenA, inBlockA, noGotoA]); (try simp [-List.reduceReplicate, Nat.add_one_le_iff, -getElem?_pos, -getElem?_neg, List.getElem?_cons_zero, List.getElem?_cons_succ, iC, hr]))
     | ((with_reducible first | refine awp_reg 21 hX [1, 2, 3, 4, 5, 6, 13] ?_ | change postOf _ _ _ _ _); simp [-List.reduceReplicate, Nat.add_one_le_iff, -getElem?_pos, -getElem?_neg, List.getElem?_cons_zero, List.getElem?_cons_succ, iC, hr])
     | (with_reducible refine awp_if_b rfl (fun hc => ?_) (fun hc => ?_) <;> (try simp [-getElem?_pos, -getElem?_neg] at hc) <;> (try (exfalso; omega)))
     | ((with_reducible first | refine GuardK_b (fun hc => ?_) (fun hc => ?_)) <;> (try simp only [Bool.not_eq_true', Bool.not_eq_false', decide_eq_true_eq, decide_eq_false_iff_not] at hc) <;> (first | (exfalso; omega) | skip) <;> simp [-List.reduceReplicate, Nat.add_one_le_iff, -getElem?_pos, -getElem?_neg, List.getElem?_cons_zero, List.getElem?_cons_succ, iC, hr, hc])
     | ((with_reducible first | refine hother _ _ rfl ?_); simp only [inBlockA, thenA, noGotoA, Nat.reduceEqDiff, if_false, if_true, ↓reduceIte])
     | (with_reducible refine And.intro (by omega) ?_)
     | fail)
theorem of_den (x : Nat) (hx : x < 18446744073709551616) : DenV Try.prog 101 [.c (u64C x)] (largeM x) := by
  have e : limC 5 x = [u64C x, u64C 0, u64C 0, u64C 0, u64C 0] := by
    have h0 : lim x 0 = x := by simp [lim]; omega
    have h1 : ∀ i, lim x (i + 1) = 0 := fun i => by
      unfold lim
      rw [Nat.div_eq_of_lt]
      have : 2 ^ 64 ≤ 2 ^ (64 * (i + 1)) := Nat.pow_le_pow_right (by decide) (by omega)
      exact Nat.lt_of_lt_of_le hx this
    have h2 := h1 0
    have h3 := h1 1
    have h4 := h1 2
    have h5 := h1 3
    simp only [Nat.zero_add] at h2
    simp [limC, List.range_succ, h0, h2, h3, h4, h5]
  refine Den.frame rfl (by simp [largeM, ltB]) ?_
  unfold largeM
  rw [e]
  refine den_of Try.func101 rfl rfl (by simp [Try.ntmps101]) (fun X hX hO => ?_)
  rw [Try.ntmps101] at hX
  simp only [Try.results101]
  repeat' (first 
   | (with_reducible first | refine awp_scope ?_ | refine awp_seq ?_ | refine awp_block ?_)
   | ((with_reducible first | refine awp_label ?_ | refine awp_skip ?_); try simp only [thenA, inBlockA, noGotoA])
   | (with_reducible refine awp_exit ?_; simp only [thenA, inBlockA, noGotoA, if_true, Nat.reduceEqDiff, if_false, ↓reduceIte])
   | (with_reducible refine awp_ret ?_; (try simp only [thenA, inBlockA, noGotoA]); (try simp [-List.reduceReplicate, Nat.add_one_le_iff, -getElem?_pos, -getElem?_neg, List.getElem?_cons_zero, List.getElem?_cons_succ, u64C]))
   | ((with_reducible first | refine awp_reg 5 hX [0, 2] ?_ | change postOf _ _ _ _ _); simp [-List.reduceReplicate, Nat.add_one_le_iff, -getElem?_pos, -getElem?_neg, List.getElem?_cons_zero, List.getElem?_cons_succ, u64C])
   | (with_reducible refine awp_if_b rfl (fun hc => ?_) (fun hc => ?_) <;> (try simp [-getElem?_pos, -getElem?_neg] at hc) <;> (try (exfalso; omega)))
   | ((with_reducible first | refine GuardK_b (fun hc => ?_) (fun hc => ?_)) <;> (try simp only [Bool.not_eq_true', Bool.not_eq_false', decide_eq_true_eq, decide_eq_false_iff_not] at hc) <;> (first | (exfalso; omega) | skip) <;> simp [-List.reduceReplicate, Nat.add_one_le_iff, -getElem?_pos, -getElem?_neg, List.getElem?_cons_zero, List.getElem?_cons_succ, u64C, hc])
   | (with_reducible refine And.intro (by omega) ?_)
   | fail)
  rfl
theorem limC_zero : limC 5 0 = List.replicate 5 (C.v (.int .u64 0)) := by
  have h1 : ∀ i, lim 0 i = 0 := fun i => by simp [lim]
  simp [limC, List.range_succ, h1, u64C]
/-- The limbs below a place, zeros from there on. -/
def shlF (y i : Nat) : List C := (List.range 5).map fun t => u64C (if t < i then lim y t else 0)
theorem shlF_facts (y s : Nat) (h : ∀ t, t < s → lim y t = 0) : shlF y s = List.replicate 5 (C.v (.int .u64 0)) ∧ shlF y 5 = limC 5 y ∧ (∀ i, (shlF y i).length = 5) ∧ ∀ i, i < 5 → (shlF y i).set i (u64C (lim y i)) = shlF y (i + 1) := by
  refine ⟨?_, ?_, fun i => by simp [shlF], fun i hi => ?_⟩
  · unfold shlF
    apply List.ext_getElem (by simp)
    intro t h1 h2
    simp at h1
    simp only [List.getElem_map, List.getElem_range, List.getElem_replicate]
    by_cases c : t < s
    · rw [if_pos c, h t c]; rfl
    · rw [if_neg c]; rfl
  · unfold shlF limC
    refine List.map_congr_left fun t ht => ?_
    rw [if_pos (List.mem_range.1 ht)]
  · unfold shlF
    apply List.ext_getElem (by simp)
    intro t h1 h2
    simp at h1
    rw [List.getElem_set]
    simp only [List.getElem_map, List.getElem_range]
    by_cases c : i = t
    · subst c
      rw [if_pos rfl, if_pos (by omega)]
    · rw [if_neg c]
      by_cases d : t < i
      · rw [if_pos d, if_pos (by omega)]
      · rw [if_neg d, if_neg (by omega)]
set_option maxHeartbeats 8000000 in
theorem shl_den (x n : Nat) (hx : x < 2 ^ (64 * 5)) (hy : x * 2 ^ n < 2 ^ (64 * 5)) (hn : n < 1000000) : DenV Try.prog 100 [largeM x, .c (iC n)] (.tup [largeM (x * 2 ^ n), .c (bC true)]) := by
  refine Den.frame (by simp [largeM, ltBs, ltB]) (by simp [largeM, ltB, ltBs]) ?_
  have ld := len_den x hx
  have z0 : zeroT Try.prog 50 = some (up (List.replicate 5 (C.v (.int .u64 0)))) := by kernel_rfl
  have lz : (List.replicate 5 (C.v (.int .u64 0))).length = 5 := rfl
  by_cases h0 : x = 0
  · subst h0
    have hb : bl 0 = 0 := rfl
    rw [hb] at ld
    rw [Nat.zero_mul]
    unfold largeM at *
    rw [limC_zero] at *
    have tz : (List.replicate 5 (C.v (Value.int .u64 0))).take 5 = List.replicate 5 (C.v (Value.int .u64 0)) := rfl
    generalize (List.replicate 5 (C.v (Value.int .u64 0))) = zs at *
    refine den_of Try.func100 rfl rfl (by simp [Try.ntmps100]) (fun X hX hO => ?_)
    rw [Try.ntmps100] at hX
    simp only [Try.results100]
    have i1 : ¬ (n : Int) < 0 := by omega
    repeat' (first 
     | (with_reducible first | refine awp_scope ?_ | refine awp_seq ?_ | refine awp_block ?_)
     | ((with_reducible first | refine awp_label ?_ | refine awp_skip ?_); try simp only [thenA, inBlockA, noGotoA])
     | (with_reducible refine awp_exit ?_; simp only [thenA, inBlockA, noGotoA, if_true, Nat.reduceEqDiff, if_false, ↓reduceIte])
     | (with_reducible refine awp_ret ?_; (try simp only [thenA, inBlockA, noGotoA]); (try simp [-List.reduceReplicate, Nat.add_one_le_iff, -getElem?_pos, -getElem?_neg, List.getElem?_cons_zero, List.getElem?_cons_succ, iC, bC, z0, lz, tz, i1, -Tab.zero50]))
     | ((with_reducible first | refine awp_reg 70 hX [1, 2, 4, 5, 6, 7, 8, 9, 23, 27, 36, 54] ?_ | refine awp_drw 70 hX [1, 2, 4, 5, 6, 7, 8, 9, 23, 27, 36, 54] Tab.mixed (by kernel_rfl) ?_ | refine DEv_cut _ _ _ _ _ _ _ _ _ _ _ _ (by kernel_rfl) ?_ | change postOf _ _ _ _ _); simp [-List.reduceReplicate, Nat.add_one_le_iff, -getElem?_pos, -getElem?_neg, List.getElem?_cons_zero, List.getElem?_cons_succ, iC, bC, z0, lz, tz, i1, -Tab.zero50])
     | ((first | (refine (ld _).det ?_) | (refine ⟨_, _, ld _, fun _ => rfl, ?_⟩)); try simp [-List.reduceReplicate, Nat.add_one_le_iff, -getElem?_pos, -getElem?_neg, List.getElem?_cons_zero, List.getElem?_cons_succ, iC, bC, z0, lz, tz, i1, -Tab.zero50])
     | (with_reducible refine awp_if_b rfl (fun hc => ?_) (fun hc => ?_) <;> (try simp [-getElem?_pos, -getElem?_neg] at hc) <;> (try (exfalso; omega)))
     | ((with_reducible first | refine GuardK_b (fun hc => ?_) (fun hc => ?_) | refine DGuard_b _ _ _ _ _ _ _ _ _ _ (fun hc => ?_) (fun hc => ?_)) <;> (try simp only [Bool.not_eq_true', Bool.not_eq_false', decide_eq_true_eq, decide_eq_false_iff_not] at hc) <;> (first | (exfalso; omega) | skip) <;> simp [-List.reduceReplicate, Nat.add_one_le_iff, -getElem?_pos, -getElem?_neg, List.getElem?_cons_zero, List.getElem?_cons_succ, iC, bC, z0, lz, tz, i1, -Tab.zero50, hc])
     | ((with_reducible first | refine hother _ _ rfl ?_); simp only [inBlockA, thenA, noGotoA, Nat.reduceEqDiff, if_false, if_true, ↓reduceIte])
     | (with_reducible refine And.intro (by omega) ?_)
     | fail)
  · have hbl : bl x ≠ 0 := by unfold bl; rw [if_neg h0]; omega
    have hbn : bl x + n ≤ 320 := by
      obtain ⟨_, b⟩ := bl_spec x
      rcases b with c | c
      · omega
      · rcases Nat.lt_or_ge 320 (bl x + n) with d | d
        · exfalso
          have h1 : 2 ^ (bl x - 1) * 2 ^ n ≤ x * 2 ^ n := Nat.mul_le_mul_right _ c
          rw [← Nat.pow_add] at h1
          have h2 : 2 ^ (64 * 5) ≤ 2 ^ (bl x - 1 + n) := Nat.pow_le_pow_right (by decide) (by omega)
          omega
        · exact d
    obtain ⟨s, hs⟩ : ∃ s, n / 64 = s := ⟨_, rfl⟩
    obtain ⟨b, hb⟩ : ∃ b, n % 64 = b := ⟨_, rfl⟩
    have hb64 : b < 64 := by omega
    have hs5 : s < 5 := by omega
    have hnsb : n = 64 * s + b := by omega
    have hlow : ∀ t, t < s → lim (x * 2 ^ n) t = 0 := fun t h => by rw [hnsb]; exact lim_shl_low x s b t h
    obtain ⟨F0, F5, FL, FS⟩ := shlF_facts (x * 2 ^ n) s hlow
    have st0 : lim (x * 2 ^ n) s = lim x 0 * 2 ^ b % 18446744073709551616 := by rw [hnsb]; exact lim_shl_0 x s b
    have st1 : ∀ j, lim (x * 2 ^ n) (s + (j + 1)) = lim x (j + 1) * 2 ^ b % 18446744073709551616 + lim x j / 2 ^ (64 - b) := fun j => by rw [hnsb]; exact lim_shl_succ x s b j hb64
    have st2 : ∀ j, lim x (j + 1) * 2 ^ b % 18446744073709551616 ||| lim x j / 2 ^ (64 - b) = lim (x * 2 ^ n) (s + (j + 1)) := fun j => by rw [hnsb]; exact shl_or x s b j hb64
    have hlx := lim_lt x
    have gx := limC5_get x
    have lx := limC_len 5 x
    have tx : (limC 5 x).take 5 = limC 5 x := List.take_of_length_le (by rw [lx]; omega)
    unfold largeM at *
    rw [← F5]
    rw [← F0] at z0
    have FT : ∀ i, (shlF (x * 2 ^ n) i).take 5 = shlF (x * 2 ^ n) i := fun i => List.take_of_length_le (by rw [FL]; omega)
    clear F0 F5 hlow lz
    generalize shlF (x * 2 ^ n) = F at *
    generalize lim (x * 2 ^ n) = fy at *
    generalize lim x = fx at *
    generalize limC 5 x = cx at *
    generalize bl x = m at *
    have hm0 : (0 : Int) < m := by omega
    have w0 := wrap_in (320 - (m : Int)) (by omega)
    have c0 : ¬ (320 : Int) - m < n := by omega
    have c1 : ¬ (m : Int) = 0 := by omega
    have q1 : ((n : Int)).tdiv 64 = (s : Int) := by rw [← hs]; rfl
    have q2 : ((n : Int)).tmod 64 = (b : Int) := by rw [← hb]; rfl
    have i1 : ¬ (n : Int) < 0 := by omega
    have w1 := wrap_in (s : Int) (by omega)
    have w2 := wrapU64 (b : Int) (by omega)
    refine den_of Try.func100 rfl rfl (by simp [Try.ntmps100]) (fun X hX hO => ?_)
    rw [Try.ntmps100] at hX
    simp only [Try.results100]
    repeat' (first 
     | (with_reducible first | refine awp_scope ?_ | refine awp_seq ?_ | refine awp_block ?_)
     | ((with_reducible first | refine awp_label ?_ | refine awp_skip ?_); try simp only [thenA, inBlockA, noGotoA])
     | (with_reducible refine awp_exit ?_; simp only [thenA, inBlockA, noGotoA, if_true, Nat.reduceEqDiff, if_false, ↓reduceIte])
     | (with_reducible refine awp_ret ?_; (try simp only [thenA, inBlockA, noGotoA]); (try simp [-List.reduceReplicate, Nat.add_one_le_iff, -getElem?_pos, -getElem?_neg, List.getElem?_cons_zero, List.getElem?_cons_succ, iC, bC, z0, FL, FT, lx, tx, i1, hm0, w0, c0, c1, q1, q2, w1, w2, -Tab.zero50]))
     | ((with_reducible first | refine awp_reg 70 hX [1, 2, 4, 5, 6, 7, 8, 9, 23, 27, 36, 54] ?_ | refine awp_drw 70 hX [1, 2, 4, 5, 6, 7, 8, 9, 23, 27, 36, 54] Tab.mixed (by kernel_rfl) ?_ | refine DEv_cut _ _ _ _ _ _ _ _ _ _ _ _ (by kernel_rfl) ?_ | change postOf _ _ _ _ _); simp [-List.reduceReplicate, Nat.add_one_le_iff, -getElem?_pos, -getElem?_neg, List.getElem?_cons_zero, List.getElem?_cons_succ, iC, bC, z0, FL, FT, lx, tx, i1, hm0, w0, c0, c1, q1, q2, w1, w2, -Tab.zero50])
     | ((first | (refine (ld _).det ?_) | (refine ⟨_, _, ld _, fun _ => rfl, ?_⟩)); try simp [-List.reduceReplicate, Nat.add_one_le_iff, -getElem?_pos, -getElem?_neg, List.getElem?_cons_zero, List.getElem?_cons_succ, iC, bC, z0, FL, FT, lx, tx, i1, hm0, w0, c0, c1, q1, q2, w1, w2, -Tab.zero50])
     | (with_reducible refine awp_if_b rfl (fun hc => ?_) (fun hc => ?_) <;> (try simp [-getElem?_pos, -getElem?_neg] at hc) <;> (try (exfalso; omega)))
     | ((with_reducible first | refine GuardK_b (fun hc => ?_) (fun hc => ?_) | refine DGuard_b _ _ _ _ _ _ _ _ _ _ (fun hc => ?_) (fun hc => ?_)) <;> (try simp only [Bool.not_eq_true', Bool.not_eq_false', decide_eq_true_eq, decide_eq_false_iff_not] at hc) <;> (first | (exfalso; omega) | skip) <;> simp [-List.reduceReplicate, Nat.add_one_le_iff, -getElem?_pos, -getElem?_neg, List.getElem?_cons_zero, List.getElem?_cons_succ, iC, bC, z0, FL, FT, lx, tx, i1, hm0, w0, c0, c1, q1, q2, w1, w2, -Tab.zero50, hc])
     | ((with_reducible first | refine hother _ _ rfl ?_); simp only [inBlockA, thenA, noGotoA, Nat.reduceEqDiff, if_false, if_true, ↓reduceIte])
     | (with_reducible refine And.intro (by omega) ?_)
     | fail)
    refine awp_forU [2, 4, 6, 7, 8, 9] (fun j (_u : Unit) => [(9, .c (iC (s + j : Nat)))]) (fun j (_u : Unit) => [⟨50, 1, false, 0, up cx, none⟩, ⟨50, 1, false, 0, up (F s), none⟩, ⟨50, 1, false, 0, up (F (s + j)), none⟩]) (fun j (_u : Unit) => True) (5 - s) (()) (by first | trivial | (simp; done) | omega | (intros; simp at *; done)) (by simp [-List.reduceReplicate, keep, iC]) (by simp [-List.reduceReplicate, iC]) ?_
    rintro j _u Q1 hi hH next hother
    conv => arg 5; arg 1; simp only [List.cons_append, List.nil_append, keep, get, Nat.reduceEqDiff, if_true, if_false, ↓reduceIte]
    obtain ⟨i, hi'⟩ : ∃ i, s + j = i := ⟨_, rfl⟩
    have e1 : s + (j + 1) = i + 1 := by omega
    rw [hi'] at ⊢
    rw [e1] at next
    have hwi := wrap_in ((i : Int) + 1) (by omega)
    by_cases hlt : i < 5
    · have hlt2 : (i : Int) < 5 := by omega
      have hj5 : j < 5 := by omega
      have is1 : (i : Int) - (s : Int) = (j : Int) := by omega
      have wj := wrap_in (j : Int) (by omega)
      have g1 := gx j hj5
      have mb : min b IntKind.u64.bits = b := by show min b 64 = b; omega
      have hA : IntKind.u64.wrap ((fx j : Int) * 2 ^ b) = ((fx j * 2 ^ b % 18446744073709551616 : Nat) : Int) := by rw [mul_pow2, modU64]; rfl
      obtain ⟨A, hAe⟩ : ∃ A, fx j * 2 ^ b % 18446744073709551616 = A := ⟨_, rfl⟩
      rw [hAe] at hA
      have hfs := FS i hlt
      have i2 : ¬ (b : Int) < 0 := by omega
      have fl := FL i
      have hup : ∀ z, (up (F i)).set i (M.c z) = up ((F i).set i z) := fun z => by simp [up, List.map_set]
      have fl2 : ∀ z, ((F i).set i z).length = 5 := fun z => by simp [FL]
      unfold u64C at *
      by_cases hj : j = 0
      · subst hj
        have hA2 : A = fy i := by rw [← hAe, ← st0]; congr 1
        subst hA2
        have c2 : ¬ (s : Int) < (i : Int) := by omega
        have w00 : IntKind.i64.wrap 0 = 0 := rfl
        repeat' (first 
         | (with_reducible first | refine awp_scope ?_ | refine awp_seq ?_ | refine awp_block ?_)
         | ((with_reducible first | refine awp_label ?_ | refine awp_skip ?_); try simp only [thenA, inBlockA, noGotoA])
         | (with_reducible refine awp_exit ?_; simp only [thenA, inBlockA, noGotoA, if_true, Nat.reduceEqDiff, if_false, ↓reduceIte])
         | (with_reducible refine awp_ret ?_; (try simp only [thenA, inBlockA, noGotoA]); (try simp [-List.reduceReplicate, Nat.add_one_le_iff, -getElem?_pos, -getElem?_neg, List.getElem?_cons_zero, List.getElem?_cons_succ, iC, bC, u64C, hlt2, is1, wj, w00, g1, mb, hA, fl, hup, hfs, hj5, lx, hlt, i2, c2, hwi]))
         | ((with_reducible first | refine awp_reg 70 hX [1, 2, 4, 5, 6, 7, 8, 9, 23, 27, 36, 54] ?_ | refine awp_drw 70 hX [1, 2, 4, 5, 6, 7, 8, 9, 23, 27, 36, 54] Tab.mixed (by kernel_rfl) ?_ | refine DEv_cut _ _ _ _ _ _ _ _ _ _ _ _ (by kernel_rfl) ?_ | change postOf _ _ _ _ _); simp [-List.reduceReplicate, Nat.add_one_le_iff, -getElem?_pos, -getElem?_neg, List.getElem?_cons_zero, List.getElem?_cons_succ, iC, bC, u64C, hlt2, is1, wj, w00, g1, mb, hA, fl, hup, hfs, hj5, lx, hlt, i2, c2, hwi])
         | (with_reducible refine awp_if_b rfl (fun hc => ?_) (fun hc => ?_) <;> (try simp [-getElem?_pos, -getElem?_neg] at hc) <;> (try (exfalso; omega)))
         | ((with_reducible first | refine GuardK_b (fun hc => ?_) (fun hc => ?_) | refine DGuard_b _ _ _ _ _ _ _ _ _ _ (fun hc => ?_) (fun hc => ?_)) <;> (try simp only [Bool.not_eq_true', Bool.not_eq_false', decide_eq_true_eq, decide_eq_false_iff_not] at hc) <;> (first | (exfalso; omega) | skip) <;> simp [-List.reduceReplicate, Nat.add_one_le_iff, -getElem?_pos, -getElem?_neg, List.getElem?_cons_zero, List.getElem?_cons_succ, iC, bC, u64C, hlt2, is1, wj, w00, g1, mb, hA, fl, hup, hfs, hj5, lx, hlt, i2, c2, hwi, hc])
         | ((with_reducible first | refine hother _ _ rfl ?_); simp only [inBlockA, thenA, noGotoA, Nat.reduceEqDiff, if_false, if_true, ↓reduceIte])
         | (with_reducible refine And.intro (by omega) ?_)
         | fail)
        all_goals exact next _ _ () (by omega) trivial (by simp [keep, iC]) rfl
      · obtain ⟨k, hk⟩ : ∃ k, k + 1 = j := ⟨j - 1, by omega⟩
        have c2 : (s : Int) < (i : Int) := by omega
        have stk := st1 k
        have sok := st2 k
        rw [hk, hi', hAe] at stk sok
        by_cases hb0 : b = 0
        · have hA2 : A = fy i := by
            rw [stk, hb0, Nat.div_eq_of_lt (hlx k)]; rfl
          subst hA2
          have c3 : ¬ (0 : Int) < (b : Int) := by omega
          repeat' (first 
           | (with_reducible first | refine awp_scope ?_ | refine awp_seq ?_ | refine awp_block ?_)
           | ((with_reducible first | refine awp_label ?_ | refine awp_skip ?_); try simp only [thenA, inBlockA, noGotoA])
           | (with_reducible refine awp_exit ?_; simp only [thenA, inBlockA, noGotoA, if_true, Nat.reduceEqDiff, if_false, ↓reduceIte])
           | (with_reducible refine awp_ret ?_; (try simp only [thenA, inBlockA, noGotoA]); (try simp [-List.reduceReplicate, Nat.add_one_le_iff, -getElem?_pos, -getElem?_neg, List.getElem?_cons_zero, List.getElem?_cons_succ, iC, bC, u64C, hlt2, is1, wj, g1, mb, hA, fl, hup, hfs, hj5, lx, hlt, i2, c2, c3, hwi]))
           | ((with_reducible first | refine awp_reg 70 hX [1, 2, 4, 5, 6, 7, 8, 9, 23, 27, 36, 54] ?_ | refine awp_drw 70 hX [1, 2, 4, 5, 6, 7, 8, 9, 23, 27, 36, 54] Tab.mixed (by kernel_rfl) ?_ | refine DEv_cut _ _ _ _ _ _ _ _ _ _ _ _ (by kernel_rfl) ?_ | change postOf _ _ _ _ _); simp [-List.reduceReplicate, Nat.add_one_le_iff, -getElem?_pos, -getElem?_neg, List.getElem?_cons_zero, List.getElem?_cons_succ, iC, bC, u64C, hlt2, is1, wj, g1, mb, hA, fl, hup, hfs, hj5, lx, hlt, i2, c2, c3, hwi])
           | (with_reducible refine awp_if_b rfl (fun hc => ?_) (fun hc => ?_) <;> (try simp [-getElem?_pos, -getElem?_neg] at hc) <;> (try (exfalso; omega)))
           | ((with_reducible first | refine GuardK_b (fun hc => ?_) (fun hc => ?_) | refine DGuard_b _ _ _ _ _ _ _ _ _ _ (fun hc => ?_) (fun hc => ?_)) <;> (try simp only [Bool.not_eq_true', Bool.not_eq_false', decide_eq_true_eq, decide_eq_false_iff_not] at hc) <;> (first | (exfalso; omega) | skip) <;> simp [-List.reduceReplicate, Nat.add_one_le_iff, -getElem?_pos, -getElem?_neg, List.getElem?_cons_zero, List.getElem?_cons_succ, iC, bC, u64C, hlt2, is1, wj, g1, mb, hA, fl, hup, hfs, hj5, lx, hlt, i2, c2, c3, hwi, hc])
           | ((with_reducible first | refine hother _ _ rfl ?_); simp only [inBlockA, thenA, noGotoA, Nat.reduceEqDiff, if_false, if_true, ↓reduceIte])
           | (with_reducible refine And.intro (by omega) ?_)
           | fail)
          all_goals exact next _ _ () (by omega) trivial (by simp [keep, iC]) rfl
        · have c3 : (0 : Int) < (b : Int) := by omega
          have is3 : (j : Int) - 1 = (k : Int) := by omega
          have wk := wrap_in (k : Int) (by omega)
          have hk5 : k < 5 := by omega
          have g2 := gx k hk5
          have w64 := wrapU64 (64 - (b : Int)) (by omega)
          have tn : (64 - (b : Int)).toNat = 64 - b := by omega
          have mn : min (64 - b) IntKind.u64.bits = 64 - b := by show min (64 - b) 64 = 64 - b; omega
          have i3 : ¬ (64 - (b : Int)) < 0 := by omega
          have fd := fdiv_pow (fx k) (64 - b)
          have hAl : A < 18446744073709551616 := by rw [← hAe]; exact Nat.mod_lt _ (by decide)
          have hor := orU .u64 A (fx k / 2 ^ (64 - b)) hAl (Nat.lt_of_le_of_lt (Nat.div_le_self _ _) (hlx k)) rfl
          rw [sok] at hor
          generalize fx k / 2 ^ (64 - b) = D at *
          have gA : ((F i).set i (C.v (.int .u64 A)))[i]? = some (C.v (.int .u64 A)) := by simp [FL, hlt]
          have ss : ((F i).set i (C.v (.int .u64 A))).set i (C.v (.int .u64 (fy i))) = F (i + 1) := by rw [List.set_set]; exact hfs
          have fA := fl2 (C.v (.int .u64 A))
          have hup2 : ∀ z, (up ((F i).set i (C.v (.int .u64 A)))).set i (M.c z) = up (((F i).set i (C.v (.int .u64 A))).set i z) := fun z => by simp [up, List.map_set]
          have hG := hup (C.v (.int .u64 A))
          generalize (F i).set i (C.v (.int .u64 A)) = G at *
          repeat' (first 
           | (with_reducible first | refine awp_scope ?_ | refine awp_seq ?_ | refine awp_block ?_)
           | ((with_reducible first | refine awp_label ?_ | refine awp_skip ?_); try simp only [thenA, inBlockA, noGotoA])
           | (with_reducible refine awp_exit ?_; simp only [thenA, inBlockA, noGotoA, if_true, Nat.reduceEqDiff, if_false, ↓reduceIte])
           | (with_reducible refine awp_ret ?_; (try simp only [thenA, inBlockA, noGotoA]); (try simp [-List.reduceReplicate, Nat.add_one_le_iff, -getElem?_pos, -getElem?_neg, List.getElem?_cons_zero, List.getElem?_cons_succ, iC, bC, u64C, hlt2, is1, is3, wj, wk, g1, g2, mb, hA, fl, hG, hup2, hj5, hk5, lx, hlt, i2, i3, c2, c3, hwi, w64, tn, mn, fd, hor, gA, ss, fA]))
           | ((with_reducible first | refine awp_reg 70 hX [1, 2, 4, 5, 6, 7, 8, 9, 23, 27, 36, 54] ?_ | refine awp_drw 70 hX [1, 2, 4, 5, 6, 7, 8, 9, 23, 27, 36, 54] Tab.mixed (by kernel_rfl) ?_ | refine DEv_cut _ _ _ _ _ _ _ _ _ _ _ _ (by kernel_rfl) ?_ | change postOf _ _ _ _ _); simp [-List.reduceReplicate, Nat.add_one_le_iff, -getElem?_pos, -getElem?_neg, List.getElem?_cons_zero, List.getElem?_cons_succ, iC, bC, u64C, hlt2, is1, is3, wj, wk, g1, g2, mb, hA, fl, hG, hup2, hj5, hk5, lx, hlt, i2, i3, c2, c3, hwi, w64, tn, mn, fd, hor, gA, ss, fA])
           | (with_reducible refine awp_if_b rfl (fun hc => ?_) (fun hc => ?_) <;> (try simp [-getElem?_pos, -getElem?_neg] at hc) <;> (try (exfalso; omega)))
           | ((with_reducible first | refine GuardK_b (fun hc => ?_) (fun hc => ?_) | refine DGuard_b _ _ _ _ _ _ _ _ _ _ (fun hc => ?_) (fun hc => ?_)) <;> (try simp only [Bool.not_eq_true', Bool.not_eq_false', decide_eq_true_eq, decide_eq_false_iff_not] at hc) <;> (first | (exfalso; omega) | skip) <;> simp [-List.reduceReplicate, Nat.add_one_le_iff, -getElem?_pos, -getElem?_neg, List.getElem?_cons_zero, List.getElem?_cons_succ, iC, bC, u64C, hlt2, is1, is3, wj, wk, g1, g2, mb, hA, fl, hG, hup2, hj5, hk5, lx, hlt, i2, i3, c2, c3, hwi, w64, tn, mn, fd, hor, gA, ss, fA, hc])
           | ((with_reducible first | refine hother _ _ rfl ?_); simp only [inBlockA, thenA, noGotoA, Nat.reduceEqDiff, if_false, if_true, ↓reduceIte])
           | (with_reducible refine And.intro (by omega) ?_)
           | fail)
          all_goals exact next _ _ () (by omega) trivial (by simp [keep, iC]) rfl
    · have hi5 : i = 5 := by omega
      subst hi5
      repeat' (first 
       | (with_reducible first | refine awp_scope ?_ | refine awp_seq ?_ | refine awp_block ?_)
       | ((with_reducible first | refine awp_label ?_ | refine awp_skip ?_); try simp only [thenA, inBlockA, noGotoA])
       | (with_reducible refine awp_exit ?_; simp only [thenA, inBlockA, noGotoA, if_true, Nat.reduceEqDiff, if_false, ↓reduceIte])
       | (with_reducible refine awp_ret ?_; (try simp only [thenA, inBlockA, noGotoA]); (try simp [-List.reduceReplicate, Nat.add_one_le_iff, -getElem?_pos, -getElem?_neg, List.getElem?_cons_zero, List.getElem?_cons_succ, iC, bC, FL, FT]))
       | ((with_reducible first | refine awp_reg 70 hX [1, 2, 4, 5, 6, 7, 8, 9, 23, 27, 36, 54] ?_ | refine awp_drw 70 hX [1, 2, 4, 5, 6, 7, 8, 9, 23, 27, 36, 54] Tab.mixed (by kernel_rfl) ?_ | refine DEv_cut _ _ _ _ _ _ _ _ _ _ _ _ (by kernel_rfl) ?_ | change postOf _ _ _ _ _); simp [-List.reduceReplicate, Nat.add_one_le_iff, -getElem?_pos, -getElem?_neg, List.getElem?_cons_zero, List.getElem?_cons_succ, iC, bC, FL, FT])
       | (with_reducible refine awp_if_b rfl (fun hc => ?_) (fun hc => ?_) <;> (try simp [-getElem?_pos, -getElem?_neg] at hc) <;> (try (exfalso; omega)))
       | ((with_reducible first | refine GuardK_b (fun hc => ?_) (fun hc => ?_) | refine DGuard_b _ _ _ _ _ _ _ _ _ _ (fun hc => ?_) (fun hc => ?_)) <;> (try simp only [Bool.not_eq_true', Bool.not_eq_false', decide_eq_true_eq, decide_eq_false_iff_not] at hc) <;> (first | (exfalso; omega) | skip) <;> simp [-List.reduceReplicate, Nat.add_one_le_iff, -getElem?_pos, -getElem?_neg, List.getElem?_cons_zero, List.getElem?_cons_succ, iC, bC, FL, FT, hc])
       | ((with_reducible first | refine hother _ _ rfl ?_); simp only [inBlockA, thenA, noGotoA, Nat.reduceEqDiff, if_false, if_true, ↓reduceIte])
       | (with_reducible refine And.intro (by omega) ?_)
       | fail)
end Go.Av
