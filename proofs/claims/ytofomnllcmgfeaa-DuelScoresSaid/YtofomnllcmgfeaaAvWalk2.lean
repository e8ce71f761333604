/- 34 texts of the program logic over abstract values, joined: each is proved without any condition beyond its own words. -/
import Derived.Test.YtofomnllcmgfeaaAvWalk1
import Derived.RangeFuncBox
import Derived.RangeFuncLeaves
import Derived.Shelf.Abstract
import Derived.WalkKit
import Derived.OwnWalkIn
import Derived.TacticsInMore
import Derived.LoopNIn
import Derived.LoopIn
import Derived.Maps.AppendAt
import Derived.Below
import Derived.Stop.RegionWithIn
import Derived.Shelf.RegionOpen
import Derived.RangeFuncCalls
import Derived.Test.YtofomnllcmgfeaaProg
import Derived.Test.YtofomnllcmgfeaaAvEngine3
import Derived.Shelf.Strings.Builder1
import Derived.Shelf.Strings.Builder2
import Derived.Shelf.Strings.OnBuilder
import Derived.Shelf.Strings.BuilderF
import Derived.Shelf.Strings.Prefix
import Derived.Shelf.Bits.Mul64
import Derived.Shelf.Strings.Repeat
import Derived.Test.YtofomnllcmgfeaaAvEngine2
set_option exponentiation.threshold 1000
set_option linter.unusedVariables false
set_option linter.unusedSimpArgs false
set_option maxRecDepth 100000
set_option maxHeartbeats 4000000
namespace Go.Av
open Go Go.Proofs Go.Proofs.Ytofomnllcmgfeaa Go.RowKit
/-! ### word.Lead, large.Cmp, Len, Of, Shl -/
def largeM (x : Nat) : M := .agg (up (limC 5 x))
theorem limC5_get (x i : Nat) (h : i < 5) : (limC 5 x)[i]? = some (u64C (lim x i)) := limC_get 5 x i h
set_option maxHeartbeats 4000000 in
theorem lead_den (x : Nat) (hx : x < 18446744073709551616) : DenV Try.prog 123 [.c (u64C x)] (.c (iC ((64 - bl x : Nat) : Int))) := by
  refine Den.frame rfl rfl ?_
  obtain ⟨b1, b2⟩ := bl_spec x
  have hq : ∀ i, x < 2 ^ (64 - i) → ¬ x < 2 ^ (63 - i) → i < 64 → 64 - bl x = i := fun i h1 h2 h3 => by
    have := bl_eq_of h1 (.inr (by rw [show 64 - i - 1 = 63 - i by omega]; omega))
    omega
  have hq2 : x < 2 ^ (64 - 64) → 64 - bl x = 64 := fun h1 => by
    have : x = 0 := by simp at h1; exact h1
    subst this; rfl
  generalize 64 - bl x = r at *
  refine den_of Try.func123 rfl rfl (by simp [Try.ntmps123]) (fun X hX hO => ?_)
  rw [Try.ntmps123] at hX
  simp only [Try.results123]
  repeat' (first 
   | (with_reducible first | refine awp_scope ?_ | refine awp_seq ?_ | refine awp_block ?_)
   | ((with_reducible first | refine awp_label ?_ | refine awp_skip ?_); try simp only [thenA, inBlockA, noGotoA])
   | (with_reducible refine awp_exit ?_; simp only [thenA, inBlockA, noGotoA, if_true, Nat.reduceEqDiff, if_false, ↓reduceIte])
   | (with_reducible refine awp_ret ?_; (try simp only [thenA, inBlockA, noGotoA]); (try simp [-List.reduceReplicate, Nat.add_one_le_iff, -getElem?_pos, -getElem?_neg, List.getElem?_cons_zero, List.getElem?_cons_succ, iC, u64C]))
   | ((with_reducible first | refine awp_reg 18 hX [0, 2, 3, 4, 5, 6, 13] ?_ | change postOf _ _ _ _ _); simp [-List.reduceReplicate, Nat.add_one_le_iff, -getElem?_pos, -getElem?_neg, List.getElem?_cons_zero, List.getElem?_cons_succ, iC, u64C])
   | (with_reducible refine awp_if_b rfl (fun hc => ?_) (fun hc => ?_) <;> (try simp [-getElem?_pos, -getElem?_neg] at hc) <;> (try (exfalso; omega)))
   | ((with_reducible first | refine GuardK_b (fun hc => ?_) (fun hc => ?_)) <;> (try simp only [Bool.not_eq_true', Bool.not_eq_false', decide_eq_true_eq, decide_eq_false_iff_not] at hc) <;> (first | (exfalso; omega) | skip) <;> simp [-List.reduceReplicate, Nat.add_one_le_iff, -getElem?_pos, -getElem?_neg, List.getElem?_cons_zero, List.getElem?_cons_succ, iC, u64C, hc])
   | ((with_reducible first | refine hother _ _ rfl ?_); simp only [inBlockA, thenA, noGotoA, Nat.reduceEqDiff, if_false, if_true, ↓reduceIte])
   | (with_reducible refine And.intro (by omega) ?_)
   | fail)
  refine awp_forU [0, 3, 5] (fun i (_u : Unit) => [(3, .c (iC i)), (5, .c (iC i))]) (fun i (_u : Unit) => []) (fun i (_u : Unit) => x < 2 ^ (64 - i)) (64) (()) (by first | trivial | (simp; done) | omega | (intros; simp at *; done)) (by simp [-List.reduceReplicate, keep, iC]) (by simp [-List.reduceReplicate, iC]) ?_
  rintro i _u Q1 hi hH next hother
  conv => arg 5; arg 1; simp only [List.cons_append, List.nil_append, keep, get, Nat.reduceEqDiff, if_true, if_false, ↓reduceIte]
  have hwi := wrap_in ((i : Int) + 1) (by omega)
  by_cases hlt : i < 64
  · have w1 := wrap_in (63 - (i : Int)) (by omega)
    have w2 := wrapU64 (63 - (i : Int)) (by omega)
    have i1 : ¬ 63 - (i : Int) < 0 := by omega
    have tn : (63 - (i : Int)).toNat = 63 - i := by omega
    have mn : min (63 - i) IntKind.u64.bits = 63 - i := by show min (63 - i) 64 = 63 - i; omega
    have hi2 : (i : Int) < 64 := by omega
    have fd := fdiv_pow x (63 - i)
    by_cases c : x < 2 ^ (63 - i)
    · have d0 : x / 2 ^ (63 - i) = 0 := Nat.div_eq_of_lt c
      rw [d0] at fd
      have nx : x < 2 ^ (64 - (i + 1)) := by rw [show 64 - (i + 1) = 63 - i by omega]; exact c
      repeat' (first 
       | (with_reducible first | refine awp_scope ?_ | refine awp_seq ?_ | refine awp_block ?_)
       | ((with_reducible first | refine awp_label ?_ | refine awp_skip ?_); try simp only [thenA, inBlockA, noGotoA])
       | (with_reducible refine awp_exit ?_; simp only [thenA, inBlockA, noGotoA, if_true, Nat.reduceEqDiff, if_false, ↓reduceIte])
       | (with_reducible refine awp_ret ?_; (try simp only [thenA, inBlockA, noGotoA]); (try simp [-List.reduceReplicate, Nat.add_one_le_iff, -getElem?_pos, -getElem?_neg, List.getElem?_cons_zero, List.getElem?_cons_succ, iC, bC, u64C, hi2, w1, w2, i1, tn, mn, fd, hwi]))
       | ((with_reducible first | refine awp_reg 18 hX [0, 2, 3, 4, 5, 6, 13] ?_ | change postOf _ _ _ _ _); simp [-List.reduceReplicate, Nat.add_one_le_iff, -getElem?_pos, -getElem?_neg, List.getElem?_cons_zero, List.getElem?_cons_succ, iC, bC, u64C, hi2, w1, w2, i1, tn, mn, fd, hwi])
       | (with_reducible refine awp_if_b rfl (fun hc => ?_) (fun hc => ?_) <;> (try simp [-getElem?_pos, -getElem?_neg] at hc) <;> (try (exfalso; omega)))
       | ((with_reducible first | refine GuardK_b (fun hc => ?_) (fun hc => ?_)) <;> (try simp only [Bool.not_eq_true', Bool.not_eq_false', decide_eq_true_eq, decide_eq_false_iff_not] at hc) <;> (first | (exfalso; omega) | skip) <;> simp [-List.reduceReplicate, Nat.add_one_le_iff, -getElem?_pos, -getElem?_neg, List.getElem?_cons_zero, List.getElem?_cons_succ, iC, bC, u64C, hi2, w1, w2, i1, tn, mn, fd, hwi, hc])
       | ((with_reducible first | refine hother _ _ rfl ?_); simp only [inBlockA, thenA, noGotoA, Nat.reduceEqDiff, if_false, if_true, ↓reduceIte])
       | (with_reducible refine And.intro (by omega) ?_)
       | fail)
      refine next _ _ (()) (by omega) (by first | trivial | omega | assumption) (by simp [-List.reduceReplicate, keep, iC]) (by simp [-List.reduceReplicate, iC])
    · have d0 : ¬ ((x / 2 ^ (63 - i) : Nat) : Int) = 0 := by
        have := Nat.div_pos (show 2 ^ (63 - i) ≤ x by omega) (Nat.two_pow_pos _)
        omega
      have hr := hq i hH c hlt
      generalize x / 2 ^ (63 - i) = z at *
      repeat' (first 
       | (with_reducible first | refine awp_scope ?_ | refine awp_seq ?_ | refine awp_block ?_)
       | ((with_reducible first | refine awp_label ?_ | refine awp_skip ?_); try simp only [thenA, inBlockA, noGotoA])
       | (with_reducible refine awp_exit ?_; simp only [thenA, inBlockA, noGotoA, if_true, Nat.reduceEqDiff, if_false, ↓reduceIte])
       | (with_reducible refine awp_ret ?_; (try simp only [thenA, inBlockA, noGotoA]); (try simp [-List.reduceReplicate, Nat.add_one_le_iff, -getElem?_pos, -getElem?_neg, List.getElem?_cons_zero, List.getElem?_cons_succ, iC, bC, u64C, hi2, w1, w2, i1, tn, mn, fd, d0, hr]))
       | ((with_reducible first | refine awp_reg 18 hX [0, 2, 3, 4, 5, 6, 13] ?_ | change postOf _ _ _ _ _); simp [-List.reduceReplicate, Nat.add_one_le_iff, -getElem?_pos, -getElem?_neg, List.getElem?_cons_zero, List.getElem?_cons_succ, iC, bC, u64C, hi2, w1, w2, i1, tn, mn, fd, d0, hr])
       | (with_reducible refine awp_if_b rfl (fun hc => ?_) (fun hc => ?_) <;> (try simp [-getElem?_pos, -getElem?_neg] at hc) <;> (try (exfalso; omega)))
       | ((with_reducible first | refine GuardK_b (fun hc => ?_) (fun hc => ?_)) <;> (try simp only [Bool.not_eq_true', Bool.not_eq_false', decide_eq_true_eq, decide_eq_false_iff_not] at hc) <;> (first | (exfalso; omega) | skip) <;> simp [-List.reduceReplicate, Nat.add_one_le_iff, -getElem?_pos, -getElem?_neg, List.getElem?_cons_zero, List.getElem?_cons_succ, iC, bC, u64C, hi2, w1, w2, i1, tn, mn, fd, d0, hr, hc])
       | ((with_reducible first | refine hother _ _ rfl ?_); simp only [inBlockA, thenA, noGotoA, Nat.reduceEqDiff, if_false, if_true, ↓reduceIte])
       | (with_reducible refine And.intro (by omega) ?_)
       | fail)
  · have hi3 : i = 64 := by omega
    subst hi3
    have hr := hq2 hH
    repeat' (first 
     | (with_reducible first | refine awp_scope ?_ | refine awp_seq ?_ | refine awp_block ?_)
     | ((with_reducible first | refine awp_label ?_ | refine awp_skip ?_); try simp only [thenA, inBlockA, noGotoA])
     | (with_reducible refine awp_exit ?_; simp only [thenA, inBlockA, noGotoA, if_true, Nat.reduceEqDiff, if_false, ↓reduceIte])
     | (with_reducible refine awp_ret ?_; (try simp only [thenA, inBlockA, noGotoA]); (try simp [-List.reduceReplicate, Nat.add_one_le_iff, -getElem?_pos, -getElem?_neg, List.getElem?_cons_zero, List.getElem?_cons_succ, iC, hr]))
     | ((with_reducible first | refine awp_reg 18 hX [0, 2, 3, 4, 5, 6, 13] ?_ | change postOf _ _ _ _ _); simp [-List.reduceReplicate, Nat.add_one_le_iff, -getElem?_pos, -getElem?_neg, List.getElem?_cons_zero, List.getElem?_cons_succ, iC, hr])
     | (with_reducible refine awp_if_b rfl (fun hc => ?_) (fun hc => ?_) <;> (try simp [-getElem?_pos, -getElem?_neg] at hc) <;> (try (exfalso; omega)))
     | ((with_reducible first | refine GuardK_b (fun hc => ?_) (fun hc => ?_)) <;> (try simp only [Bool.not_eq_true', Bool.not_eq_false', decide_eq_true_eq, decide_eq_false_iff_not] at hc) <;> (first | (exfalso; omega) | skip) <;> simp [-List.reduceReplicate, Nat.add_one_le_iff, -getElem?_pos, -getElem?_neg, List.getElem?_cons_zero, List.getElem?_cons_succ, iC, hr, hc])
     | ((with_reducible first | refine hother _ _ rfl ?_); simp only [inBlockA, thenA, noGotoA, Nat.reduceEqDiff, if_false, if_true, ↓reduceIte])
     | (with_reducible refine And.intro (by omega) ?_)
     | fail)
set_option maxHeartbeats 4000000 in
theorem cmp_den (x y : Nat) (hx : x < 2 ^ 320) (hy : y < 2 ^ 320) : DenV Try.prog 68 [largeM x, largeM y] (.c (iC (cmpN x y))) := by
  refine Den.frame (by simp [largeM, ltBs, ltB]) rfl ?_
  have gx := limC5_get x
  have gy := limC5_get y
  have lx := limC_len 5 x
  have ly := limC_len 5 y
  have hs := fun i => @lim_lt_of x y i
  have hs2 := fun i => @lim_lt_of y x i
  have he := fun i => @lim_eq_of x y i
  have h0 : x / 2 ^ (64 * (5 - 0)) = y / 2 ^ (64 * (5 - 0)) := by rw [Nat.div_eq_of_lt hx, Nat.div_eq_of_lt hy]
  unfold largeM
  generalize limC 5 x = cx at *
  generalize limC 5 y = cy at *
  generalize lim x = fx at *
  generalize lim y = fy at *
  refine den_of Try.func68 rfl rfl (by simp [Try.ntmps68]) (fun X hX hO => ?_)
  rw [Try.ntmps68] at hX
  simp only [Try.results68]
  repeat' (first 
   | (with_reducible first | refine awp_scope ?_ | refine awp_seq ?_ | refine awp_block ?_)
   | ((with_reducible first | refine awp_label ?_ | refine awp_skip ?_); try simp only [thenA, inBlockA, noGotoA])
   | (with_reducible refine awp_exit ?_; simp only [thenA, inBlockA, noGotoA, if_true, Nat.reduceEqDiff, if_false, ↓reduceIte])
   | (with_reducible refine awp_ret ?_; (try simp only [thenA, inBlockA, noGotoA]); (try simp [-List.reduceReplicate, Nat.add_one_le_iff, -getElem?_pos, -getElem?_neg, List.getElem?_cons_zero, List.getElem?_cons_succ, iC, lx, ly]))
   | ((with_reducible first | refine awp_reg 26 hX [2, 3, 4, 5, 6, 7, 8, 9, 21, 24] ?_ | refine awp_drw 26 hX [2, 3, 4, 5, 6, 7, 8, 9, 21, 24] Tab.mixed (by kernel_rfl) ?_ | refine DEv_cut _ _ _ _ _ _ _ _ _ _ _ _ (by kernel_rfl) ?_ | change postOf _ _ _ _ _); simp [-List.reduceReplicate, Nat.add_one_le_iff, -getElem?_pos, -getElem?_neg, List.getElem?_cons_zero, List.getElem?_cons_succ, iC, lx, ly])
   | (with_reducible refine awp_if_b rfl (fun hc => ?_) (fun hc => ?_) <;> (try simp [-getElem?_pos, -getElem?_neg] at hc) <;> (try (exfalso; omega)))
   | ((with_reducible first | refine GuardK_b (fun hc => ?_) (fun hc => ?_) | refine DGuard_b _ _ _ _ _ _ _ _ _ _ (fun hc => ?_) (fun hc => ?_)) <;> (try simp only [Bool.not_eq_true', Bool.not_eq_false', decide_eq_true_eq, decide_eq_false_iff_not] at hc) <;> (first | (exfalso; omega) | skip) <;> simp [-List.reduceReplicate, Nat.add_one_le_iff, -getElem?_pos, -getElem?_neg, List.getElem?_cons_zero, List.getElem?_cons_succ, iC, lx, ly, hc])
   | ((with_reducible first | refine hother _ _ rfl ?_); simp only [inBlockA, thenA, noGotoA, Nat.reduceEqDiff, if_false, if_true, ↓reduceIte])
   | (with_reducible refine And.intro (by omega) ?_)
   | fail)
  refine awp_forU [2, 3, 8] (fun i (_u : Unit) => [(8, .c (iC i))]) (fun i (_u : Unit) => [⟨50, 1, false, 0, up cx, none⟩, ⟨50, 1, false, 0, up cy, none⟩]) (fun i (_u : Unit) => x / 2 ^ (64 * (5 - i)) = y / 2 ^ (64 * (5 - i))) (5) (()) (h0) (by simp [-List.reduceReplicate, keep, iC]) (by simp [-List.reduceReplicate, iC]) ?_
  rintro i _u Q1 hi hH next hother
  conv => arg 5; arg 1; simp only [List.cons_append, List.nil_append, keep, get, Nat.reduceEqDiff, if_true, if_false, ↓reduceIte]
  have hwi := wrap_in ((i : Int) + 1) (by omega)
  by_cases hlt : i < 5
  · obtain ⟨j, hj⟩ : ∃ j, 4 - i = j := ⟨_, rfl⟩
    have hij : (4 - (i : Int)) = (j : Int) := by omega
    have e1 : 5 - i = j + 1 := by omega
    have e2 : 5 - (i + 1) = j := by omega
    have wj := wrap_in (j : Int) (by omega)
    have hj5 : j < 5 := by omega
    have hi2 : (i : Int) < 5 := by omega
    rw [e1] at hH
    rw [e2] at next
    have g1 := gx j hj5
    have g2 := gy j hj5
    by_cases c : fx j = fy j
    · have nx := he j hH c
      repeat' (first 
       | (with_reducible first | refine awp_scope ?_ | refine awp_seq ?_ | refine awp_block ?_)
       | ((with_reducible first | refine awp_label ?_ | refine awp_skip ?_); try simp only [thenA, inBlockA, noGotoA])
       | (with_reducible refine awp_exit ?_; simp only [thenA, inBlockA, noGotoA, if_true, Nat.reduceEqDiff, if_false, ↓reduceIte])
       | (with_reducible refine awp_ret ?_; (try simp only [thenA, inBlockA, noGotoA]); (try simp [-List.reduceReplicate, Nat.add_one_le_iff, -getElem?_pos, -getElem?_neg, List.getElem?_cons_zero, List.getElem?_cons_succ, iC, bC, u64C, hi2, hij, wj, hj5, g1, g2, lx, ly, hwi, c]))
       | ((with_reducible first | refine awp_reg 26 hX [2, 3, 4, 5, 6, 7, 8, 9, 21, 24] ?_ | refine awp_drw 26 hX [2, 3, 4, 5, 6, 7, 8, 9, 21, 24] Tab.mixed (by kernel_rfl) ?_ | refine DEv_cut _ _ _ _ _ _ _ _ _ _ _ _ (by kernel_rfl) ?_ | change postOf _ _ _ _ _); simp [-List.reduceReplicate, Nat.add_one_le_iff, -getElem?_pos, -getElem?_neg, List.getElem?_cons_zero, List.getElem?_cons_succ, iC, bC, u64C, hi2, hij, wj, hj5, g1, g2, lx, ly, hwi, c])
       | (with_reducible refine awp_if_b rfl (fun hc => ?_) (fun hc => ?_) <;> (try simp [-getElem?_pos, -getElem?_neg] at hc) <;> (try (exfalso; omega)))
       | ((with_reducible first | refine GuardK_b (fun hc => ?_) (fun hc => ?_) | refine DGuard_b _ _ _ _ _ _ _ _ _ _ (fun hc => ?_) (fun hc => ?_)) <;> (try simp only [Bool.not_eq_true', Bool.not_eq_false', decide_eq_true_eq, decide_eq_false_iff_not] at hc) <;> (first | (exfalso; omega) | skip) <;> simp [-List.reduceReplicate, Nat.add_one_le_iff, -getElem?_pos, -getElem?_neg, List.getElem?_cons_zero, List.getElem?_cons_succ, iC, bC, u64C, hi2, hij, wj, hj5, g1, g2, lx, ly, hwi, c, hc])
       | ((with_reducible first | refine hother _ _ rfl ?_); simp only [inBlockA, thenA, noGotoA, Nat.reduceEqDiff, if_false, if_true, ↓reduceIte])
       | (with_reducible refine And.intro (by omega) ?_)
       | fail)
      refine next _ _ (()) (by omega) (by first | trivial | omega | assumption) (by simp [-List.reduceReplicate, keep, iC]) (by simp [-List.reduceReplicate, iC])
    · by_cases c2 : fx j < fy j
      · have hcm := (cmpN_lt (hs j hH c2)).symm
        repeat' (first 
         | (with_reducible first | refine awp_scope ?_ | refine awp_seq ?_ | refine awp_block ?_)
         | ((with_reducible first | refine awp_label ?_ | refine awp_skip ?_); try simp only [thenA, inBlockA, noGotoA])
         | (with_reducible refine awp_exit ?_; simp only [thenA, inBlockA, noGotoA, if_true, Nat.reduceEqDiff, if_false, ↓reduceIte])
         | (with_reducible refine awp_ret ?_; (try simp only [thenA, inBlockA, noGotoA]); (try simp [-List.reduceReplicate, Nat.add_one_le_iff, -getElem?_pos, -getElem?_neg, List.getElem?_cons_zero, List.getElem?_cons_succ, iC, bC, u64C, hi2, hij, wj, hj5, g1, g2, lx, ly, c, c2]))
         | ((with_reducible first | refine awp_reg 26 hX [2, 3, 4, 5, 6, 7, 8, 9, 21, 24] ?_ | refine awp_drw 26 hX [2, 3, 4, 5, 6, 7, 8, 9, 21, 24] Tab.mixed (by kernel_rfl) ?_ | refine DEv_cut _ _ _ _ _ _ _ _ _ _ _ _ (by kernel_rfl) ?_ | change postOf _ _ _ _ _); simp [-List.reduceReplicate, Nat.add_one_le_iff, -getElem?_pos, -getElem?_neg, List.getElem?_cons_zero, List.getElem?_cons_succ, iC, bC, u64C, hi2, hij, wj, hj5, g1, g2, lx, ly, c, c2])
         | (with_reducible refine awp_if_b rfl (fun hc => ?_) (fun hc => ?_) <;> (try simp [-getElem?_pos, -getElem?_neg] at hc) <;> (try (exfalso; omega)))
         | ((with_reducible first | refine GuardK_b (fun hc => ?_) (fun hc => ?_) | refine DGuard_b _ _ _ _ _ _ _ _ _ _ (fun hc => ?_) (fun hc => ?_)) <;> (try simp only [Bool.not_eq_true', Bool.not_eq_false', decide_eq_true_eq, decide_eq_false_iff_not] at hc) <;> (first | (exfalso; omega) | skip) <;> simp [-List.reduceReplicate, Nat.add_one_le_iff, -getElem?_pos, -getElem?_neg, List.getElem?_cons_zero, List.getElem?_cons_succ, iC, bC, u64C, hi2, hij, wj, hj5, g1, g2, lx, ly, c, c2, hc])
         | ((with_reducible first | refine hother _ _ rfl ?_); simp only [inBlockA, thenA, noGotoA, Nat.reduceEqDiff, if_false, if_true, ↓reduceIte])
         | (with_reducible refine And.intro (by omega) ?_)
         | fail)
        exact hcm
      · have hcm := (cmpN_gt (hs2 j hH.symm (by omega))).symm
        repeat' (first 
         | (with_reducible first | refine awp_scope ?_ | refine awp_seq ?_ | refine awp_block ?_)
         | ((with_reducible first | refine awp_label ?_ | refine awp_skip ?_); try simp only [thenA, inBlockA, noGotoA])
         | (with_reducible refine awp_exit ?_; simp only [thenA, inBlockA, noGotoA, if_true, Nat.reduceEqDiff, if_false, ↓reduceIte])
         | (with_reducible refine awp_ret ?_; (try simp only [thenA, inBlockA, noGotoA]); (try simp [-List.reduceReplicate, Nat.add_one_le_iff, -getElem?_pos, -getElem?_neg, List.getElem?_cons_zero, List.getElem?_cons_succ, iC, bC, u64C, hi2, hij, wj, hj5, g1, g2, lx, ly, c, c2]))
         | ((with_reducible first | refine awp_reg 26 hX [2, 3, 4, 5, 6, 7, 8, 9, 21, 24] ?_ | refine awp_drw 26 hX [2, 3, 4, 5, 6, 7, 8, 9, 21, 24] Tab.mixed (by kernel_rfl) ?_ | refine DEv_cut _ _ _ _ _ _ _ _ _ _ _ _ (by kernel_rfl) ?_ | change postOf _ _ _ _ _); simp [-List.reduceReplicate, Nat.add_one_le_iff, -getElem?_pos, -getElem?_neg, List.getElem?_cons_zero, List.getElem?_cons_succ, iC, bC, u64C, hi2, hij, wj, hj5, g1, g2, lx, ly, c, c2])
         | (with_reducible refine awp_if_b rfl (fun hc => ?_) (fun hc => ?_) <;> (try simp [-getElem?_pos, -getElem?_neg] at hc) <;> (try (exfalso; omega)))
         | ((with_reducible first | refine GuardK_b (fun hc => ?_) (fun hc => ?_) | refine DGuard_b _ _ _ _ _ _ _ _ _ _ (fun hc => ?_) (fun hc => ?_)) <;> (try simp only [Bool.not_eq_true', Bool.not_eq_false', decide_eq_true_eq, decide_eq_false_iff_not] at hc) <;> (first | (exfalso; omega) | skip) <;> simp [-List.reduceReplicate, Nat.add_one_le_iff, -getElem?_pos, -getElem?_neg, List.getElem?_cons_zero, List.getElem?_cons_succ, iC, bC, u64C, hi2, hij, wj, hj5, g1, g2, lx, ly, c, c2, hc])
         | ((with_reducible first | refine hother _ _ rfl ?_); simp only [inBlockA, thenA, noGotoA, Nat.reduceEqDiff, if_false, if_true, ↓reduceIte])
         | (with_reducible refine And.intro (by omega) ?_)
         | fail)
        exact hcm
  · have hi3 : i = 5 := by omega
    subst hi3
    have : x = y := by simpa using hH
    subst this
    have hcm := (cmpN_eq x).symm
    repeat' (first 
     | (with_reducible first | refine awp_scope ?_ | refine awp_seq ?_ | refine awp_block ?_)
     | ((with_reducible first | refine awp_label ?_ | refine awp_skip ?_); try simp only [thenA, inBlockA, noGotoA])
     | (with_reducible refine awp_exit ?_; simp only [thenA, inBlockA, noGotoA, if_true, Nat.reduceEqDiff, if_false, ↓reduceIte])
     | (with_reducible refine awp_ret ?_; (try simp only [thenA, inBlockA, noGotoA]); (try simp [-List.reduceReplicate, Nat.add_one_le_iff, -getElem?_pos, -getElem?_neg, List.getElem?_cons_zero, List.getElem?_cons_succ, iC]))
     | ((with_reducible first | refine awp_reg 26 hX [2, 3, 4, 5, 6, 7, 8, 9, 21, 24] ?_ | refine awp_drw 26 hX [2, 3, 4, 5, 6, 7, 8, 9, 21, 24] Tab.mixed (by kernel_rfl) ?_ | refine DEv_cut _ _ _ _ _ _ _ _ _ _ _ _ (by kernel_rfl) ?_ | change postOf _ _ _ _ _); simp [-List.reduceReplicate, Nat.add_one_le_iff, -getElem?_pos, -getElem?_neg, List.getElem?_cons_zero, List.getElem?_cons_succ, iC])
     | (with_reducible refine awp_if_b rfl (fun hc => ?_) (fun hc => ?_) <;> (try simp [-getElem?_pos, -getElem?_neg] at hc) <;> (try (exfalso; omega)))
     | ((with_reducible first | refine GuardK_b (fun hc => ?_) (fun hc => ?_) | refine DGuard_b _ _ _ _ _ _ _ _ _ _ (fun hc => ?_) (fun hc => ?_)) <;> (try simp only [Bool.not_eq_true', Bool.not_eq_false', decide_eq_true_eq, decide_eq_false_iff_not] at hc) <;> (first | (exfalso; omega) | skip) <;> simp [-List.reduceReplicate, Nat.add_one_le_iff, -getElem?_pos, -getElem?_neg, List.getElem?_cons_zero, List.getElem?_cons_succ, iC, hc])
     | ((with_reducible first | refine hother _ _ rfl ?_); simp only [inBlockA, thenA, noGotoA, Nat.reduceEqDiff, if_false, if_true, ↓reduceIte])
     | (with_reducible refine And.intro (by omega) ?_)
     | fail)
    exact hcm
theorem bl_le {x k : Nat} (h : x < 2 ^ k) : bl x ≤ k := by
  obtain ⟨a, b⟩ := bl_spec x
  rcases b with c | c
  · omega
  · rcases Nat.lt_or_ge k (bl x) with d | d
    · have : 2 ^ k ≤ 2 ^ (bl x - 1) := Nat.pow_le_pow_right (by decide) (by omega)
      omega
    · exact d
set_option maxHeartbeats 4000000 in
theorem len_den (x : Nat) (hx : x < 2 ^ (64 * 5)) : DenV Try.prog 113 [largeM x] (.c (iC (bl x))) := by
  refine Den.frame (by simp [largeM, ltBs, ltB]) rfl ?_
  have gx := limC5_get x
  have lx := limC_len 5 x
  have hb := fun j => @bl_high x j
  have hz := fun j => @lim_zero_high x j
  have hlt := lim_lt x
  have hble := bl_le hx
  have hb0 : x < 2 ^ (64 * 0) → bl x = 0 := fun h => by
    have : x = 0 := by simpa using h
    subst this; rfl
  have ld := fun j => lead_den (lim x j) (hlt j)
  have lb := fun j => bl_le (show lim x j < 2 ^ 64 from hlt j)
  unfold largeM
  obtain ⟨P, hP⟩ : ∃ P : Nat → Prop, P = fun j => x < 2 ^ (64 * j) := ⟨_, rfl⟩
  have hb' : ∀ j, P (j + 1) → lim x j ≠ 0 → bl x = 64 * j + bl (lim x j) := by rw [hP]; exact hb
  have hz' : ∀ j, P (j + 1) → lim x j = 0 → P j := by rw [hP]; exact hz
  have hb0' : P 0 → bl x = 0 := by rw [hP]; exact hb0
  have hx' : P 5 := by rw [hP]; exact hx
  clear hP hb hz hb0 hx
  generalize limC 5 x = cx at *
  generalize lim x = fx at *
  generalize bl x = r at *
  refine den_of Try.func113 rfl rfl (by simp [Try.ntmps113]) (fun X hX hO => ?_)
  rw [Try.ntmps113] at hX
  simp only [Try.results113]
  repeat' (first 
   | (with_reducible first | refine awp_scope ?_ | refine awp_seq ?_ | refine awp_block ?_)
   | ((with_reducible first | refine awp_label ?_ | refine awp_skip ?_); try simp only [thenA, inBlockA, noGotoA])
   | (with_reducible refine awp_exit ?_; simp only [thenA, inBlockA, noGotoA, if_true, Nat.reduceEqDiff, if_false, ↓reduceIte])
   | (with_reducible refine awp_ret ?_; (try simp only [thenA, inBlockA, noGotoA]); (try simp [-List.reduceReplicate, Nat.add_one_le_iff, -getElem?_pos, -getElem?_neg, List.getElem?_cons_zero, List.getElem?_cons_succ, iC, lx]))
   | ((with_reducible first | refine awp_reg 21 hX [1, 2, 3, 4, 5, 6, 13] ?_ | change postOf _ _ _ _ _); simp [-List.reduceReplicate, Nat.add_one_le_iff, -getElem?_pos, -getElem?_neg, List.getElem?_cons_zero, List.getElem?_cons_succ, iC, lx])
   | (with_reducible refine awp_if_b rfl (fun hc => ?_) (fun hc => ?_) <;> (try simp [-getElem?_pos, -getElem?_neg] at hc) <;> (try (exfalso; omega)))
   | ((with_reducible first | refine GuardK_b (fun hc => ?_) (fun hc => ?_)) <;> (try simp only [Bool.not_eq_true', Bool.not_eq_false', decide_eq_true_eq, decide_eq_false_iff_not] at hc) <;> (first | (exfalso; omega) | skip) <;> simp [-List.reduceReplicate, Nat.add_one_le_iff, -getElem?_pos, -getElem?_neg, List.getElem?_cons_zero, List.getElem?_cons_succ, iC, lx, hc])
   | ((with_reducible first | refine hother _ _ rfl ?_); simp only [inBlockA, thenA, noGotoA, Nat.reduceEqDiff, if_false, if_true, ↓reduceIte])
   | (with_reducible refine And.intro (by omega) ?_)
   | fail)
  refine awp_forU [1, 5] (fun i (_u : Unit) => [(5, .c (iC i))]) (fun i (_u : Unit) => [⟨50, 1, false, 0, up cx, none⟩]) (fun i (_u : Unit) => P (5 - i)) (5) (()) (hx') (by simp [-List.reduceReplicate, keep, iC]) (by simp [-List.reduceReplicate, iC]) ?_
  rintro i _u Q1 hi hH next hother
  conv => arg 5; arg 1; simp only [List.cons_append, List.nil_append, keep, get, Nat.reduceEqDiff, if_true, if_false, ↓reduceIte]
  have hwi := wrap_in ((i : Int) + 1) (by omega)
  by_cases hlt5 : i < 5
  · obtain ⟨j, hj⟩ : ∃ j, 4 - i = j := ⟨_, rfl⟩
    have hij : (4 - (i : Int)) = (j : Int) := by omega
    have e1 : 5 - i = j + 1 := by omega
    have e2 : 5 - (i + 1) = j := by omega
    have wj := wrap_in (j : Int) (by omega)
    have hj5 : j < 5 := by omega
    have hi2 : (i : Int) < 5 := by omega
    rw [e1] at hH
    rw [e2] at next
    have g1 := gx j hj5
    by_cases c : fx j = 0
    · have nx := hz' j hH c
      repeat' (first 
       | (with_reducible first | refine awp_scope ?_ | refine awp_seq ?_ | refine awp_block ?_)
       | ((with_reducible first | refine awp_label ?_ | refine awp_skip ?_); try simp only [thenA, inBlockA, noGotoA])
       | (with_reducible refine awp_exit ?_; simp only [thenA, inBlockA, noGotoA, if_true, Nat.reduceEqDiff, if_false, ↓reduceIte])
       | (with_reducible refine awp_ret ?_; (try simp only [thenA, inBlockA, noGotoA]); (try simp [-List.reduceReplicate, Nat.add_one_le_iff, -getElem?_pos, -getElem?_neg, List.getElem?_cons_zero, List.getElem?_cons_succ, iC, bC, u64C, hi2, hij, wj, hj5, g1, lx, hwi, c]))
       | ((with_reducible first | refine awp_reg 21 hX [1, 2, 3, 4, 5, 6, 13] ?_ | change postOf _ _ _ _ _); simp [-List.reduceReplicate, Nat.add_one_le_iff, -getElem?_pos, -getElem?_neg, List.getElem?_cons_zero, List.getElem?_cons_succ, iC, bC, u64C, hi2, hij, wj, hj5, g1, lx, hwi, c])
       | (with_reducible refine awp_if_b rfl (fun hc => ?_) (fun hc => ?_) <;> (try simp [-getElem?_pos, -getElem?_neg] at hc) <;> (try (exfalso; omega)))
       | ((with_reducible first | refine GuardK_b (fun hc => ?_) (fun hc => ?_)) <;> (try simp only [Bool.not_eq_true', Bool.not_eq_false', decide_eq_true_eq, decide_eq_false_iff_not] at hc) <;> (first | (exfalso; omega) | skip) <;> simp [-List.reduceReplicate, Nat.add_one_le_iff, -getElem?_pos, -getElem?_neg, List.getElem?_cons_zero, List.getElem?_cons_succ, iC, bC, u64C, hi2, hij, wj, hj5, g1, lx, hwi, c, hc])
       | ((with_reducible first | refine hother _ _ rfl ?_); simp only [inBlockA, thenA, noGotoA, Nat.reduceEqDiff, if_false, if_true, ↓reduceIte])
       | (with_reducible refine And.intro (by omega) ?_)
       | fail)
      refine next _ _ (()) (by omega) (by first | trivial | omega | assumption) (by simp [-List.reduceReplicate, keep, iC]) (by simp [-List.reduceReplicate, iC])
    · have q1 := ld j
      have hbj := hb' j hH c
      have hlb := lb j
      generalize fx j = a at *
      obtain ⟨z, hz1⟩ : ∃ z, 64 - bl a = z := ⟨_, rfl⟩
      rw [hz1] at q1
      have c' : ¬ (a : Int) = 0 := by omega
      have w1 := wrap_in (64 * (i : Int)) (by omega)
      have w2 := wrap_in (320 - 64 * (i : Int)) (by omega)
      have w3 := wrap_in (320 - 64 * (i : Int) - (z : Int)) (by omega)
      have w4 : 320 - 64 * (i : Int) - (z : Int) = (r : Int) := by omega
      have w5 := wrap_in (r : Int) (by omega)
      unfold u64C at q1
      repeat' (first 
       | (with_reducible first | refine awp_scope ?_ | refine awp_seq ?_ | refine awp_block ?_)
       | ((with_reducible first | refine awp_label ?_ | refine awp_skip ?_); try simp only [thenA, inBlockA, noGotoA])
       | (with_reducible refine awp_exit ?_; simp only [thenA, inBlockA, noGotoA, if_true, Nat.reduceEqDiff, if_false, ↓reduceIte])
       | (with_reducible refine awp_ret ?_; (try simp only [thenA, inBlockA, noGotoA]); (try simp [-List.reduceReplicate, Nat.add_one_le_iff, -getElem?_pos, -getElem?_neg, List.getElem?_cons_zero, List.getElem?_cons_succ, iC, bC, u64C, hi2, hij, wj, hj5, g1, lx, c, c', w1, w2, w3, w4, w5]))
       | ((with_reducible first | refine awp_reg 21 hX [1, 2, 3, 4, 5, 6, 13] ?_ | change postOf _ _ _ _ _); simp [-List.reduceReplicate, Nat.add_one_le_iff, -getElem?_pos, -getElem?_neg, List.getElem?_cons_zero, List.getElem?_cons_succ, iC, bC, u64C, hi2, hij, wj, hj5, g1, lx, c, c', w1, w2, w3, w4, w5])
       | ((first | (refine (q1 _).det ?_)); try simp [-List.reduceReplicate, Nat.add_one_le_iff, -getElem?_pos, -getElem?_neg, List.getElem?_cons_zero, List.getElem?_cons_succ, iC, bC, u64C, hi2, hij, wj, hj5, g1, lx, c, c', w1, w2, w3, w4, w5])
       | (with_reducible refine awp_if_b rfl (fun hc => ?_) (fun hc => ?_) <;> (try simp [-getElem?_pos, -getElem?_neg] at hc) <;> (try (exfalso; omega)))
       | ((with_reducible first | refine GuardK_b (fun hc => ?_) (fun hc => ?_)) <;> (try simp only [Bool.not_eq_true', Bool.not_eq_false', decide_eq_true_eq, decide_eq_false_iff_not] at hc) <;> (first | (exfalso; omega) | skip) <;> simp [-List.reduceReplicate, Nat.add_one_le_iff, -getElem?_pos, -getElem?_neg, List.getElem?_cons_zero, List.getElem?_cons_succ, iC, bC, u64C, hi2, hij, wj, hj5, g1, lx, c, c', w1, w2, w3, w4, w5, hc])
       | ((with_reducible first | refine hother _ _ rfl ?_); simp only [inBlockA, thenA, noGotoA, Nat.reduceEqDiff, if_false, if_true, ↓reduceIte])
       | (with_reducible refine And.intro (by omega) ?_)
       | fail)
  · have hi3 : i = 5 := by omega
    subst hi3
    have hr := hb0' hH
    repeat' (first 
     | (with_reducible first | refine awp_scope ?_ | refine awp_seq ?_ | refine awp_block ?_)
     | ((with_reducible first | refine awp_label ?_ | refine awp_skip ?_); try simp only [thenA, inBlockA, noGotoA])
     | (with_reducible refine awp_exit ?_; simp only [thenA, inBlockA, noGotoA, if_true, Nat.reduceEqDiff, if_false, ↓reduceIte])
     | (with_reducible refine awp_ret ?_; (try simp only [thenA, inBlockA, noGotoA]); (try simp [-List.reduceReplicate, Nat.add_one_le_iff, -getElem?_pos, -getElem?_neg, List.getElem?_cons_zero, List.getElem?_cons_succ, iC, hr]))
     | ((with_reducible first | refine awp_reg 21 hX [1, 2, 3, 4, 5, 6, 13] ?_ | change postOf _ _ _ _ _); simp [-List.reduceReplicate, Nat.add_one_le_iff, -getElem?_pos, -getElem?_neg, List.getElem?_cons_zero, List.getElem?_cons_succ, iC, hr])
     | (with_reducible refine awp_if_b rfl (fun hc => ?_) (fun hc => ?_) <;> (try simp [-getElem?_pos, -getElem?_neg] at hc) <;> (try (exfalso; omega)))
     | ((with_reducible first | refine GuardK_b (fun hc => ?_) (fun hc => ?_)) <;> (try simp only [Bool.not_eq_true', Bool.not_eq_false', decide_eq_true_eq, decide_eq_false_iff_not] at hc) <;> (first | (exfalso; omega) | skip) <;> simp [-List.reduceReplicate, Nat.add_one_le_iff, -getElem?_pos, -getElem?_neg, List.getElem?_cons_zero, List.getElem?_cons_succ, iC, hr, hc])
     | ((with_reducible first | refine hother _ _ rfl ?_); simp only [inBlockA, thenA, noGotoA, Nat.reduceEqDiff, if_false, if_true, ↓reduceIte])
     | (with_reducible refine And.intro (by omega) ?_)
     | fail)
theorem of_den (x : Nat) (hx : x < 18446744073709551616) : DenV Try.prog 101 [.c (u64C x)] (largeM x) := by
  have e : limC 5 x = [u64C x, u64C 0, u64C 0, u64C 0, u64C 0] := by
    have h0 : lim x 0 = x := by simp [lim]; omega
    have h1 : ∀ i, lim x (i + 1) = 0 := fun i => by
      unfold lim
      rw [Nat.div_eq_of_lt]
      have : 2 ^ 64 ≤ 2 ^ (64 * (i + 1)) := Nat.pow_le_pow_right (by decide) (by omega)
      exact Nat.lt_of_lt_of_le hx this
    have h2 := h1 0
    have h3 := h1 1
    have h4 := h1 2
    have h5 := h1 3
    simp only [Nat.zero_add] at h2
    simp [limC, List.range_succ, h0, h2, h3, h4, h5]
  refine Den.frame rfl (by simp [largeM, ltB]) ?_
  unfold largeM
  rw [e]
  refine den_of Try.func101 rfl rfl (by simp [Try.ntmps101]) (fun X hX hO => ?_)
  rw [Try.ntmps101] at hX
  simp only [Try.results101]
  repeat' (first 
   | (with_reducible first | refine awp_scope ?_ | refine awp_seq ?_ | refine awp_block ?_)
   | ((with_reducible first | refine awp_label ?_ | refine awp_skip ?_); try simp only [thenA, inBlockA, noGotoA])
   | (with_reducible refine awp_exit ?_; simp only [thenA, inBlockA, noGotoA, if_true, Nat.reduceEqDiff, if_false, ↓reduceIte])
   | (with_reducible refine awp_ret ?_; (try simp only [thenA, inBlockA, noGotoA]); (try simp [-List.reduceReplicate, Nat.add_one_le_iff, -getElem?_pos, -getElem?_neg, List.getElem?_cons_zero, List.getElem?_cons_succ, u64C]))
   | ((with_reducible first | refine awp_reg 5 hX [0, 2] ?_ | change postOf _ _ _ _ _); simp [-List.reduceReplicate, Nat.add_one_le_iff, -getElem?_pos, -getElem?_neg, List.getElem?_cons_zero, List.getElem?_cons_succ, u64C])
   | (with_reducible refine awp_if_b rfl (fun hc => ?_) (fun hc => ?_) <;> (try simp [-getElem?_pos, -getElem?_neg] at hc) <;> (try (exfalso; omega)))
   | ((with_reducible first | refine GuardK_b (fun hc => ?_) (fun hc => ?_)) <;> (try simp only [Bool.not_eq_true', Bool.not_eq_false', decide_eq_true_eq, decide_eq_false_iff_not] at hc) <;> (first | (exfalso; omega) | skip) <;> simp [-List.reduceReplicate, Nat.add_one_le_iff, -getElem?_pos, -getElem?_neg, List.getElem?_cons_zero, List.getElem?_cons_succ, u64C, hc])
   | (with_reducible refine And.intro (by omega) ?_)
   | fail)
  rfl
theorem limC_zero : limC 5 0 = List.replicate 5 (C.v (.int .u64 0)) := by
  have h1 : ∀ i, lim 0 i = 0 := fun i => by simp [lim]
  simp [limC, List.range_succ, h1, u64C]
/-- The limbs below a place, zeros from there on. -/
def shlF (y i : Nat) : List C := (List.range 5).map fun t => u64C (if t < i then lim y t else 0)
theorem shlF_facts (y s : Nat) (h : ∀ t, t < s → lim y t = 0) : shlF y s = List.replicate 5 (C.v (.int .u64 0)) ∧ shlF y 5 = limC 5 y ∧ (∀ i, (shlF y i).length = 5) ∧ ∀ i, i < 5 → (shlF y i).set i (u64C (lim y i)) = shlF y (i + 1) := by
  refine ⟨?_, ?_, fun i => by simp [shlF], fun i hi => ?_⟩
  · unfold shlF
    apply List.ext_getElem (by simp)
    intro t h1 h2
    simp at h1
    simp only [List.getElem_map, List.getElem_range, List.getElem_replicate]
    by_cases c : t < s
    · rw [if_pos c, h t c]; rfl
    · rw [if_neg c]; rfl
  · unfold shlF limC
    refine List.map_congr_left fun t ht => ?_
    rw [if_pos (List.mem_range.1 ht)]
  · unfold shlF
    apply List.ext_getElem (by simp)
    intro t h1 h2
    simp at h1
    rw [List.getElem_set]
    simp only [List.getElem_map, List.getElem_range]
    by_cases c : i = t
    · subst c
      rw [if_pos rfl, if_pos (by omega)]
    · rw [if_neg c]
      by_cases d : t < i
      · rw [if_pos d, if_pos (by omega)]
      · rw [if_neg d, if_neg (by omega)]
set_option maxHeartbeats 8000000 in
theorem shl_den (x n : Nat) (hx : x < 2 ^ (64 * 5)) (hy : x * 2 ^ n < 2 ^ (64 * 5)) (hn : n < 1000000) : DenV Try.prog 100 [largeM x, .c (iC n)] (.tup [largeM (x * 2 ^ n), .c (bC true)]) := by
  refine Den.frame (by simp [largeM, ltBs, ltB]) (by simp [largeM, ltB, ltBs]) ?_
  have ld := len_den x hx
  have z0 : zeroT Try.prog 50 = some (up (List.replicate 5 (C.v (.int .u64 0)))) := by kernel_rfl
  have lz : (List.replicate 5 (C.v (.int .u64 0))).length = 5 := rfl
  by_cases h0 : x = 0
  · subst h0
    have hb : bl 0 = 0 := rfl
    rw [hb] at ld
    rw [Nat.zero_mul]
    unfold largeM at *
    rw [limC_zero] at *
    have tz : (List.replicate 5 (C.v (Value.int .u64 0))).take 5 = List.replicate 5 (C.v (Value.int .u64 0)) := rfl
    generalize (List.replicate 5 (C.v (Value.int .u64 0))) = zs at *
    refine den_of Try.func100 rfl rfl (by simp [Try.ntmps100]) (fun X hX hO => ?_)
    rw [Try.ntmps100] at hX
    simp only [Try.results100]
    have i1 : ¬ (n : Int) < 0 := by omega
    repeat' (first 
     | (with_reducible first | refine awp_scope ?_ | refine awp_seq ?_ | refine awp_block ?_)
     | ((with_reducible first | refine awp_label ?_ | refine awp_skip ?_); try simp only [thenA, inBlockA, noGotoA])
     | (with_reducible refine awp_exit ?_; simp only [thenA, inBlockA, noGotoA, if_true, Nat.reduceEqDiff, if_false, ↓reduceIte])
     | (with_reducible refine awp_ret ?_; (try simp only [thenA, inBlockA, noGotoA]); (try simp [-List.reduceReplicate, Nat.add_one_le_iff, -getElem?_pos, -getElem?_neg, List.getElem?_cons_zero, List.getElem?_cons_succ, iC, bC, z0, lz, tz, i1, -Tab.zero50]))
     | ((with_reducible first | refine awp_reg 70 hX [1, 2, 4, 5, 6, 7, 8, 9, 23, 27, 36, 54] ?_ | refine awp_drw 70 hX [1, 2, 4, 5, 6, 7, 8, 9, 23, 27, 36, 54] Tab.mixed (by kernel_rfl) ?_ | refine DEv_cut _ _ _ _ _ _ _ _ _ _ _ _ (by kernel_rfl) ?_ | change postOf _ _ _ _ _); simp [-List.reduceReplicate, Nat.add_one_le_iff, -getElem?_pos, -getElem?_neg, List.getElem?_cons_zero, List.getElem?_cons_succ, iC, bC, z0, lz, tz, i1, -Tab.zero50])
     | ((first | (refine (ld _).det ?_) | (refine ⟨_, _, ld _, fun _ => rfl, ?_⟩)); try simp [-List.reduceReplicate, Nat.add_one_le_iff, -getElem?_pos, -getElem?_neg, List.getElem?_cons_zero, List.getElem?_cons_succ, iC, bC, z0, lz, tz, i1, -Tab.zero50])
     | (with_reducible refine awp_if_b rfl (fun hc => ?_) (fun hc => ?_) <;> (try simp [-getElem?_pos, -getElem?_neg] at hc) <;> (try (exfalso; omega)))
     | ((with_reducible first | refine GuardK_b (fun hc => ?_) (fun hc => ?_) | refine DGuard_b _ _ _ _ _ _ _ _ _ _ (fun hc => ?_) (fun hc => ?_)) <;> (try simp only [Bool.not_eq_true', Bool.not_eq_false', decide_eq_true_eq, decide_eq_false_iff_not] at hc) <;> (first | (exfalso; omega) | skip) <;> simp [-List.reduceReplicate, Nat.add_one_le_iff, -getElem?_pos, -getElem?_neg, List.getElem?_cons_zero, List.getElem?_cons_succ, iC, bC, z0, lz, tz, i1, -Tab.zero50, hc])
     | ((with_reducible first | refine hother _ _ rfl ?_); simp only [inBlockA, thenA, noGotoA, Nat.reduceEqDiff, if_false, if_true, ↓reduceIte])
     | (with_reducible refine And.intro (by omega) ?_)
     | fail)
  · have hbl : bl x ≠ 0 := by unfold bl; rw [if_neg h0]; omega
    have hbn : bl x + n ≤ 320 := by
      obtain ⟨_, b⟩ := bl_spec x
      rcases b with c | c
      · omega
      · rcases Nat.lt_or_ge 320 (bl x + n) with d | d
        · exfalso
          have h1 : 2 ^ (bl x - 1) * 2 ^ n ≤ x * 2 ^ n := Nat.mul_le_mul_right _ c
          rw [← Nat.pow_add] at h1
          have h2 : 2 ^ (64 * 5) ≤ 2 ^ (bl x - 1 + n) := Nat.pow_le_pow_right (by decide) (by omega)
          omega
        · exact d
    obtain ⟨s, hs⟩ : ∃ s, n / 64 = s := ⟨_, rfl⟩
    obtain ⟨b, hb⟩ : ∃ b, n % 64 = b := ⟨_, rfl⟩
    have hb64 : b < 64 := by omega
    have hs5 : s < 5 := by omega
    have hnsb : n = 64 * s + b := by omega
    have hlow : ∀ t, t < s → lim (x * 2 ^ n) t = 0 := fun t h => by rw [hnsb]; exact lim_shl_low x s b t h
    obtain ⟨F0, F5, FL, FS⟩ := shlF_facts (x * 2 ^ n) s hlow
    have st0 : lim (x * 2 ^ n) s = lim x 0 * 2 ^ b % 18446744073709551616 := by rw [hnsb]; exact lim_shl_0 x s b
    have st1 : ∀ j, lim (x * 2 ^ n) (s + (j + 1)) = lim x (j + 1) * 2 ^ b % 18446744073709551616 + lim x j / 2 ^ (64 - b) := fun j => by rw [hnsb]; exact lim_shl_succ x s b j hb64
    have st2 : ∀ j, lim x (j + 1) * 2 ^ b % 18446744073709551616 ||| lim x j / 2 ^ (64 - b) = lim (x * 2 ^ n) (s + (j + 1)) := fun j => by rw [hnsb]; exact shl_or x s b j hb64
    have hlx := lim_lt x
    have gx := limC5_get x
    have lx := limC_len 5 x
    have tx : (limC 5 x).take 5 = limC 5 x := List.take_of_length_le (by rw [lx]; omega)
    unfold largeM at *
    rw [← F5]
    rw [← F0] at z0
    have FT : ∀ i, (shlF (x * 2 ^ n) i).take 5 = shlF (x * 2 ^ n) i := fun i => List.take_of_length_le (by rw [FL]; omega)
    clear F0 F5 hlow lz
    generalize shlF (x * 2 ^ n) = F at *
    generalize lim (x * 2 ^ n) = fy at *
    generalize lim x = fx at *
    generalize limC 5 x = cx at *
    generalize bl x = m at *
    have hm0 : (0 : Int) < m := by omega
    have w0 := wrap_in (320 - (m : Int)) (by omega)
    have c0 : ¬ (320 : Int) - m < n := by omega
    have c1 : ¬ (m : Int) = 0 := by omega
    have q1 : ((n : Int)).tdiv 64 = (s : Int) := by rw [← hs]; rfl
    have q2 : ((n : Int)).tmod 64 = (b : Int) := by rw [← hb]; rfl
    have i1 : ¬ (n : Int) < 0 := by omega
    have w1 := wrap_in (s : Int) (by omega)
    have w2 := wrapU64 (b : Int) (by omega)
    refine den_of Try.func100 rfl rfl (by simp [Try.ntmps100]) (fun X hX hO => ?_)
    rw [Try.ntmps100] at hX
    simp only [Try.results100]
    repeat' (first 
     | (with_reducible first | refine awp_scope ?_ | refine awp_seq ?_ | refine awp_block ?_)
     | ((with_reducible first | refine awp_label ?_ | refine awp_skip ?_); try simp only [thenA, inBlockA, noGotoA])
     | (with_reducible refine awp_exit ?_; simp only [thenA, inBlockA, noGotoA, if_true, Nat.reduceEqDiff, if_false, ↓reduceIte])
     | (with_reducible refine awp_ret ?_; (try simp only [thenA, inBlockA, noGotoA]); (try simp [-List.reduceReplicate, Nat.add_one_le_iff, -getElem?_pos, -getElem?_neg, List.getElem?_cons_zero, List.getElem?_cons_succ, iC, bC, z0, FL, FT, lx, tx, i1, hm0, w0, c0, c1, q1, q2, w1, w2, -Tab.zero50]))
     | ((with_reducible first | refine awp_reg 70 hX [1, 2, 4, 5, 6, 7, 8, 9, 23, 27, 36, 54] ?_ | refine awp_drw 70 hX [1, 2, 4, 5, 6, 7, 8, 9, 23, 27, 36, 54] Tab.mixed (by kernel_rfl) ?_ | refine DEv_cut _ _ _ _ _ _ _ _ _ _ _ _ (by kernel_rfl) ?_ | change postOf _ _ _ _ _); simp [-List.reduceReplicate, Nat.add_one_le_iff, -getElem?_pos, -getElem?_neg, List.getElem?_cons_zero, List.getElem?_cons_succ, iC, bC, z0, FL, FT, lx, tx, i1, hm0, w0, c0, c1, q1, q2, w1, w2, -Tab.zero50])
     | ((first | (refine (ld _).det ?_) | (refine ⟨_, _, ld _, fun _ => rfl, ?_⟩)); try simp [-List.reduceReplicate, Nat.add_one_le_iff, -getElem?_pos, -getElem?_neg, List.getElem?_cons_zero, List.getElem?_cons_succ, iC, bC, z0, FL, FT, lx, tx, i1, hm0, w0, c0, c1, q1, q2, w1, w2, -Tab.zero50])
     | (with_reducible refine awp_if_b rfl (fun hc => ?_) (fun hc => ?_) <;> (try simp [-getElem?_pos, -getElem?_neg] at hc) <;> (try (exfalso; omega)))
     | ((with_reducible first | refine GuardK_b (fun hc => ?_) (fun hc => ?_) | refine DGuard_b _ _ _ _ _ _ _ _ _ _ (fun hc => ?_) (fun hc => ?_)) <;> (try simp only [Bool.not_eq_true', Bool.not_eq_false', decide_eq_true_eq, decide_eq_false_iff_not] at hc) <;> (first | (exfalso; omega) | skip) <;> simp [-List.reduceReplicate, Nat.add_one_le_iff, -getElem?_pos, -getElem?_neg, List.getElem?_cons_zero, List.getElem?_cons_succ, iC, bC, z0, FL, FT, lx, tx, i1, hm0, w0, c0, c1, q1, q2, w1, w2, -Tab.zero50, hc])
     | ((with_reducible first | refine hother _ _ rfl ?_); simp only [inBlockA, thenA, noGotoA, Nat.reduceEqDiff, if_false, if_true, ↓reduceIte])
     | (with_reducible refine And.intro (by omega) ?_)
     | fail)
    refine awp_forU [2, 4, 6, 7, 8, 9] (fun j (_u : Unit) => [(9, .c (iC (s + j : Nat)))]) (fun j (_u : Unit) => [⟨50, 1, false, 0, up cx, none⟩, ⟨50, 1, false, 0, up (F s), none⟩, ⟨50, 1, false, 0, up (F (s + j)), none⟩]) (fun j (_u : Unit) => True) (5 - s) (()) (by first | trivial | (simp; done) | omega | (intros; simp at *; done)) (by simp [-List.reduceReplicate, keep, iC]) (by simp [-List.reduceReplicate, iC]) ?_
    rintro j _u Q1 hi hH next hother
    conv => arg 5; arg 1; simp only [List.cons_append, List.nil_append, keep, get, Nat.reduceEqDiff, if_true, if_false, ↓reduceIte]
    obtain ⟨i, hi'⟩ : ∃ i, s + j = i := ⟨_, rfl⟩
    have e1 : s + (j + 1) = i + 1 := by omega
    rw [hi'] at ⊢
    rw [e1] at next
    have hwi := wrap_in ((i : Int) + 1) (by omega)
    by_cases hlt : i < 5
    · have hlt2 : (i : Int) < 5 := by omega
      have hj5 : j < 5 := by omega
      have is1 : (i : Int) - (s : Int) = (j : Int) := by omega
      have wj := wrap_in (j : Int) (by omega)
      have g1 := gx j hj5
      have mb : min b IntKind.u64.bits = b := by show min b 64 = b; omega
      have hA : IntKind.u64.wrap ((fx j : Int) * 2 ^ b) = ((fx j * 2 ^ b % 18446744073709551616 : Nat) : Int) := by rw [mul_pow2, modU64]; rfl
      obtain ⟨A, hAe⟩ : ∃ A, fx j * 2 ^ b % 18446744073709551616 = A := ⟨_, rfl⟩
      rw [hAe] at hA
      have hfs := FS i hlt
      have i2 : ¬ (b : Int) < 0 := by omega
      have fl := FL i
      have hup : ∀ z, (up (F i)).set i (M.c z) = up ((F i).set i z) := fun z => by simp [up, List.map_set]
      have fl2 : ∀ z, ((F i).set i z).length = 5 := fun z => by simp [FL]
      unfold u64C at *
      by_cases hj : j = 0
      · subst hj
        have hA2 : A = fy i := by rw [← hAe, ← st0]; congr 1
        subst hA2
        have c2 : ¬ (s : Int) < (i : Int) := by omega
        have w00 : IntKind.i64.wrap 0 = 0 := rfl
        repeat' (first 
         | (with_reducible first | refine awp_scope ?_ | refine awp_seq ?_ | refine awp_block ?_)
         | ((with_reducible first | refine awp_label ?_ | refine awp_skip ?_); try simp only [thenA, inBlockA, noGotoA])
         | (with_reducible refine awp_exit ?_; simp only [thenA, inBlockA, noGotoA, if_true, Nat.reduceEqDiff, if_false, ↓reduceIte])
         | (with_reducible refine awp_ret ?_; (try simp only [thenA, inBlockA, noGotoA]); (try simp [-List.reduceReplicate, Nat.add_one_le_iff, -getElem?_pos, -getElem?_neg, List.getElem?_cons_zero, List.getElem?_cons_succ, iC, bC, u64C, hlt2, is1, wj, w00, g1, mb, hA, fl, hup, hfs, hj5, lx, hlt, i2, c2, hwi]))
         | ((with_reducible first | refine awp_reg 70 hX [1, 2, 4, 5, 6, 7, 8, 9, 23, 27, 36, 54] ?_ | refine awp_drw 70 hX [1, 2, 4, 5, 6, 7, 8, 9, 23, 27, 36, 54] Tab.mixed (by kernel_rfl) ?_ | refine DEv_cut _ _ _ _ _ _ _ _ _ _ _ _ (by kernel_rfl) ?_ | change postOf _ _ _ _ _); simp [-List.reduceReplicate, Nat.add_one_le_iff, -getElem?_pos, -getElem?_neg, List.getElem?_cons_zero, List.getElem?_cons_succ, iC, bC, u64C, hlt2, is1, wj, w00, g1, mb, hA, fl, hup, hfs, hj5, lx, hlt, i2, c2, hwi])
         | (with_reducible refine awp_if_b rfl (fun hc => ?_) (fun hc => ?_) <;> (try simp [-getElem?_pos, -getElem?_neg] at hc) <;> (try (exfalso; omega)))
         | ((with_reducible first | refine GuardK_b (fun hc => ?_) (fun hc => ?_) | refine DGuard_b _ _ _ _ _ _ _ _ _ _ (fun hc => ?_) (fun hc => ?_)) <;> (try simp only [Bool.not_eq_true', Bool.not_eq_false', decide_eq_true_eq, decide_eq_false_iff_not] at hc) <;> (first | (exfalso; omega) | skip) <;> simp [-List.reduceReplicate, Nat.add_one_le_iff, -getElem?_pos, -getElem?_neg, List.getElem?_cons_zero, List.getElem?_cons_succ, iC, bC, u64C, hlt2, is1, wj, w00, g1, mb, hA, fl, hup, hfs, hj5, lx, hlt, i2, c2, hwi, hc])
         | ((with_reducible first | refine hother _ _ rfl ?_); simp only [inBlockA, thenA, noGotoA, Nat.reduceEqDiff, if_false, if_true, ↓reduceIte])
         | (with_reducible refine And.intro (by omega) ?_)
         | fail)
        all_goals exact next _ _ () (by omega) trivial (by simp [keep, iC]) rfl
      · obtain ⟨k, hk⟩ : ∃ k, k + 1 = j := ⟨j - 1, by omega⟩
        have c2 : (s : Int) < (i : Int) := by omega
        have stk := st1 k
        have sok := st2 k
        rw [hk, hi', hAe] at stk sok
        by_cases hb0 : b = 0
        · have hA2 : A = fy i := by
            rw [stk, hb0, Nat.div_eq_of_lt (hlx k)]; rfl
          subst hA2
          have c3 : ¬ (0 : Int) < (b : Int) := by omega
          repeat' (first 
           | (with_reducible first | refine awp_scope ?_ | refine awp_seq ?_ | refine awp_block ?_)
           | ((with_reducible first | refine awp_label ?_ | refine awp_skip ?_); try simp only [thenA, inBlockA, noGotoA])
           | (with_reducible refine awp_exit ?_; simp only [thenA, inBlockA, noGotoA, if_true, Nat.reduceEqDiff, if_false, ↓reduceIte])
           | (with_reducible refine awp_ret ?_; (try simp only [thenA, inBlockA, noGotoA]); (try simp [-List.reduceReplicate, Nat.add_one_le_iff, -getElem?_pos, -getElem?_neg, List.getElem?_cons_zero, List.getElem?_cons_succ, iC, bC, u64C, hlt2, is1, wj, g1, mb, hA, fl, hup, hfs, hj5, lx, hlt, i2, c2, c3, hwi]))
           | ((with_reducible first | refine awp_reg 70 hX [1, 2, 4, 5, 6, 7, 8, 9, 23, 27, 36, 54] ?_ | refine awp_drw 70 hX [1, 2, 4, 5, 6, 7, 8, 9, 23, 27, 36, 54] Tab.mixed (by kernel_rfl) ?_ | refine DEv_cut _ _ _ _ _ _ _ _ _ _ _ _ (by kernel_rfl) ?_ | change postOf _ _ _ _ _); simp [-List.reduceReplicate, Nat.add_one_le_iff, -getElem?_pos, -getElem?_neg, List.getElem?_cons_zero, List.getElem?_cons_succ, iC, bC, u64C, hlt2, is1, wj, g1, mb, hA, fl, hup, hfs, hj5, lx, hlt, i2, c2, c3, hwi])
           | (with_reducible refine awp_if_b rfl (fun hc => ?_) (fun hc => ?_) <;> (try simp [-getElem?_pos, -getElem?_neg] at hc) <;> (try (exfalso; omega)))
           | ((with_reducible first | refine GuardK_b (fun hc => ?_) (fun hc => ?_) | refine DGuard_b _ _ _ _ _ _ _ _ _ _ (fun hc => ?_) (fun hc => ?_)) <;> (try simp only [Bool.not_eq_true', Bool.not_eq_false', decide_eq_true_eq, decide_eq_false_iff_not] at hc) <;> (first | (exfalso; omega) | skip) <;> simp [-List.reduceReplicate, Nat.add_one_le_iff, -getElem?_pos, -getElem?_neg, List.getElem?_cons_zero, List.getElem?_cons_succ, iC, bC, u64C, hlt2, is1, wj, g1, mb, hA, fl, hup, hfs, hj5, lx, hlt, i2, c2, c3, hwi, hc])
           | ((with_reducible first | refine hother _ _ rfl ?_); simp only [inBlockA, thenA, noGotoA, Nat.reduceEqDiff, if_false, if_true, ↓reduceIte])
           | (with_reducible refine And.intro (by omega) ?_)
           | fail)
          all_goals exact next _ _ () (by omega) trivial (by simp [keep, iC]) rfl
        · have c3 : (0 : Int) < (b : Int) := by omega
          have is3 : (j : Int) - 1 = (k : Int) := by omega
          have wk := wrap_in (k : Int) (by omega)
          have hk5 : k < 5 := by omega
          have g2 := gx k hk5
          have w64 := wrapU64 (64 - (b : Int)) (by omega)
          have tn : (64 - (b : Int)).toNat = 64 - b := by omega
          have mn : min (64 - b) IntKind.u64.bits = 64 - b := by show min (64 - b) 64 = 64 - b; omega
          have i3 : ¬ (64 - (b : Int)) < 0 := by omega
          have fd := fdiv_pow (fx k) (64 - b)
          have hAl : A < 18446744073709551616 := by rw [← hAe]; exact Nat.mod_lt _ (by decide)
          have hor := orU .u64 A (fx k / 2 ^ (64 - b)) hAl (Nat.lt_of_le_of_lt (Nat.div_le_self _ _) (hlx k)) rfl
          rw [sok] at hor
          generalize fx k / 2 ^ (64 - b) = D at *
          have gA : ((F i).set i (C.v (.int .u64 A)))[i]? = some (C.v (.int .u64 A)) := by simp [FL, hlt]
          have ss : ((F i).set i (C.v (.int .u64 A))).set i (C.v (.int .u64 (fy i))) = F (i + 1) := by rw [List.set_set]; exact hfs
          have fA := fl2 (C.v (.int .u64 A))
          have hup2 : ∀ z, (up ((F i).set i (C.v (.int .u64 A)))).set i (M.c z) = up (((F i).set i (C.v (.int .u64 A))).set i z) := fun z => by simp [up, List.map_set]
          have hG := hup (C.v (.int .u64 A))
          generalize (F i).set i (C.v (.int .u64 A)) = G at *
          repeat' (first 
           | (with_reducible first | refine awp_scope ?_ | refine awp_seq ?_ | refine awp_block ?_)
           | ((with_reducible first | refine awp_label ?_ | refine awp_skip ?_); try simp only [thenA, inBlockA, noGotoA])
           | (with_reducible refine awp_exit ?_; simp only [thenA, inBlockA, noGotoA, if_true, Nat.reduceEqDiff, if_false, ↓reduceIte])
           | (with_reducible refine awp_ret ?_; (try simp only [thenA, inBlockA, noGotoA]); (try simp [-List.reduceReplicate, Nat.add_one_le_iff, -getElem?_pos, -getElem?_neg, List.getElem?_cons_zero, List.getElem?_cons_succ, iC, bC, u64C, hlt2, is1, is3, wj, wk, g1, g2, mb, hA, fl, hG, hup2, hj5, hk5, lx, hlt, i2, i3, c2, c3, hwi, w64, tn, mn, fd, hor, gA, ss, fA]))
           | ((with_reducible first | refine awp_reg 70 hX [1, 2, 4, 5, 6, 7, 8, 9, 23, 27, 36, 54] ?_ | refine awp_drw 70 hX [1, 2, 4, 5, 6, 7, 8, 9, 23, 27, 36, 54] Tab.mixed (by kernel_rfl) ?_ | refine DEv_cut _ _ _ _ _ _ _ _ _ _ _ _ (by kernel_rfl) ?_ | change postOf _ _ _ _ _); simp [-List.reduceReplicate, Nat.add_one_le_iff, -getElem?_pos, -getElem?_neg, List.getElem?_cons_zero, List.getElem?_cons_succ, iC, bC, u64C, hlt2, is1, is3, wj, wk, g1, g2, mb, hA, fl, hG, hup2, hj5, hk5, lx, hlt, i2, i3, c2, c3, hwi, w64, tn, mn, fd, hor, gA, ss, fA])
           | (with_reducible refine awp_if_b rfl (fun hc => ?_) (fun hc => ?_) <;> (try simp [-getElem?_pos, -getElem?_neg] at hc) <;> (try (exfalso; omega)))
           | ((with_reducible first | refine GuardK_b (fun hc => ?_) (fun hc => ?_) | refine DGuard_b _ _ _ _ _ _ _ _ _ _ (fun hc => ?_) (fun hc => ?_)) <;> (try simp only [Bool.not_eq_true', Bool.not_eq_false', decide_eq_true_eq, decide_eq_false_iff_not] at hc) <;> (first | (exfalso; omega) | skip) <;> simp [-List.reduceReplicate, Nat.add_one_le_iff, -getElem?_pos, -getElem?_neg, List.getElem?_cons_zero, List.getElem?_cons_succ, iC, bC, u64C, hlt2, is1, is3, wj, wk, g1, g2, mb, hA, fl, hG, hup2, hj5, hk5, lx, hlt, i2, i3, c2, c3, hwi, w64, tn, mn, fd, hor, gA, ss, fA, hc])
           | ((with_reducible first | refine hother _ _ rfl ?_); simp only [inBlockA, thenA, noGotoA, Nat.reduceEqDiff, if_false, if_true, ↓reduceIte])
           | (with_reducible refine And.intro (by omega) ?_)
           | fail)
          all_goals exact next _ _ () (by omega) trivial (by simp [keep, iC]) rfl
    · have hi5 : i = 5 := by omega
      subst hi5
      repeat' (first 
       | (with_reducible first | refine awp_scope ?_ | refine awp_seq ?_ | refine awp_block ?_)
       | ((with_reducible first | refine awp_label ?_ | refine awp_skip ?_); try simp only [thenA, inBlockA, noGotoA])
       | (with_reducible refine awp_exit ?_; simp only [thenA, inBlockA, noGotoA, if_true, Nat.reduceEqDiff, if_false, ↓reduceIte])
       | (with_reducible refine awp_ret ?_; (try simp only [thenA, inBlockA, noGotoA]); (try simp [-List.reduceReplicate, Nat.add_one_le_iff, -getElem?_pos, -getElem?_neg, List.getElem?_cons_zero, List.getElem?_cons_succ, iC, bC, FL, FT]))
       | ((with_reducible first | refine awp_reg 70 hX [1, 2, 4, 5, 6, 7, 8, 9, 23, 27, 36, 54] ?_ | refine awp_drw 70 hX [1, 2, 4, 5, 6, 7, 8, 9, 23, 27, 36, 54] Tab.mixed (by kernel_rfl) ?_ | refine DEv_cut _ _ _ _ _ _ _ _ _ _ _ _ (by kernel_rfl) ?_ | change postOf _ _ _ _ _); simp [-List.reduceReplicate, Nat.add_one_le_iff, -getElem?_pos, -getElem?_neg, List.getElem?_cons_zero, List.getElem?_cons_succ, iC, bC, FL, FT])
       | (with_reducible refine awp_if_b rfl (fun hc => ?_) (fun hc => ?_) <;> (try simp [-getElem?_pos, -getElem?_neg] at hc) <;> (try (exfalso; omega)))
       | ((with_reducible first | refine GuardK_b (fun hc => ?_) (fun hc => ?_) | refine DGuard_b _ _ _ _ _ _ _ _ _ _ (fun hc => ?_) (fun hc => ?_)) <;> (try simp only [Bool.not_eq_true', Bool.not_eq_false', decide_eq_true_eq, decide_eq_false_iff_not] at hc) <;> (first | (exfalso; omega) | skip) <;> simp [-List.reduceReplicate, Nat.add_one_le_iff, -getElem?_pos, -getElem?_neg, List.getElem?_cons_zero, List.getElem?_cons_succ, iC, bC, FL, FT, hc])
       | ((with_reducible first | refine hother _ _ rfl ?_); simp only [inBlockA, thenA, noGotoA, Nat.reduceEqDiff, if_false, if_true, ↓reduceIte])
       | (with_reducible refine And.intro (by omega) ?_)
       | fail)
end Go.Av

/-! ### up: the places of a level: a range over a function, over the world -/
set_option linter.unusedVariables false
set_option linter.unusedSimpArgs false
namespace Go.Av.Up
open Go Go.Proofs Go.RowKit Go.Shelf
attribute [local go_sem] Oper.semAt_some

def hit (zs : List Int) (from_ level : Int) (i : Nat) : Bool := decide (from_ ≤ (i : Int)) && decide (level ≤ zs[i]?.getD 0)
def pl (zs : List Int) (from_ level : Int) (k : Nat) : List Nat := (List.range (min k zs.length)).filter (hit zs from_ level)
theorem pl_yes {zs : List Int} {from_ level : Int} {k : Nat} (hk : k < zs.length) (h1 : from_ ≤ (k : Int)) (h2 : level ≤ zs[k]?.getD 0) : pl zs from_ level (k + 1) = pl zs from_ level k ++ [k] := by
  unfold pl
  rw [show min (k + 1) zs.length = k + 1 by omega, show min k zs.length = k by omega, List.range_succ, List.filter_append]
  simp only [List.filter_cons, List.filter_nil, hit, h1, h2, decide_true, Bool.and_self, if_true]
theorem pl_no {zs : List Int} {from_ level : Int} {k : Nat} (hk : k < zs.length) (h2 : ¬ level ≤ zs[k]?.getD 0) : pl zs from_ level (k + 1) = pl zs from_ level k := by
  unfold pl
  rw [show min (k + 1) zs.length = k + 1 by omega, show min k zs.length = k by omega, List.range_succ, List.filter_append]
  simp [List.filter_cons, hit, h2]
theorem pl_all {zs : List Int} {from_ level : Int} {k : Nat} (hk : zs.length ≤ k) : pl zs from_ level k = pl zs from_ level zs.length := by
  unfold pl; rw [show min k zs.length = zs.length by omega, Nat.min_self]
theorem pl_start {zs : List Int} {from_ level : Int} {k : Nat} (hk : (k : Int) ≤ max from_ 0) : pl zs from_ level k = [] := by
  unfold pl
  rw [List.filter_eq_nil_iff]
  intro i hi
  rw [List.mem_range] at hi
  simp only [hit, Bool.and_eq_true, decide_eq_true_eq]
  omega
theorem pl_len (zs : List Int) (from_ level : Int) (k : Nat) : (pl zs from_ level k).length ≤ k := by
  unfold pl
  refine Nat.le_trans (List.length_filter_le _ _) ?_
  rw [List.length_range]; omega
theorem pl_prefix (zs : List Int) (from_ level : Int) (k : Nat) : pl zs from_ level k <+: pl zs from_ level zs.length := by
  unfold pl
  rw [Nat.min_self]
  obtain ⟨d, hd⟩ : ∃ d, zs.length = min k zs.length + d := ⟨zs.length - min k zs.length, by omega⟩
  rw [hd, List.range_add, List.filter_append]
  rw [show min k (min k zs.length + d) = min k zs.length by omega]
  exact List.prefix_append _ _

/-- What lies below B, but for one block, lies as it lay. -/
def BX (c B : Nat) (w w' : World) : Prop := ∀ k, k < B → k ≠ c → w'.heap[k]? = w.heap[k]?
theorem BX.refl (c B : Nat) (w : World) : BX c B w w := fun _ _ _ => rfl
theorem BX.trans {c B : Nat} {w w1 w2 : World} (h : BX c B w w1) (k : BX c B w1 w2) : BX c B w w2 := fun b hb hc => (k b hb hc).trans (h b hb hc)
theorem BX.drew {c B : Nat} {w w1 : World} (h : BX c B w w1) : BX c B w w1.drew := h
theorem BX.cell {c B : Nat} {w w1 : World} (h : BX c B w w1) {p : Addr} (hb : p.block < B) (hc : p.block ≠ c) : w1.cell? p = w.cell? p := World.cell?_of_block (w := w) (h p.block hb hc)
theorem BX.of_below {c B : Nat} {w w1 : World} (h : Below B w w1) : BX c B w w1 := fun k hk _ => h.block k hk
set_option maxRecDepth 100000 in
set_option maxHeartbeats 4000000 in
theorem each1_in (F : Fence) (n : Nat) (h7 : F.fn 77) (hro : F.round = none) (hn : 1 ≤ n) (l B1 B2 B3 n₀ c b off cap : Nat) (zs : List Int) (from_ level : Int) (hf : from_ ≤ 9223372036854775807) (hreach : zs.length ≤ 1000000) (hb : b < n₀) (h1n : B1 < n₀) (h2n : B2 < n₀) (h3n : B3 < n₀) (hcb : b < c) (h1c : B1 ≠ c) (h2c : B2 ≠ c) (h3c : B3 ≠ c) (J Jx : List Nat → World → Prop) (hJ : ∀ s W, J s W → J s W.drew)
    (hY : ∀ pre (x : Nat) W, J pre W → pre.length < zs.length → YieldAt F (n - 1) Try.prog l #[.int .i64 (x : Int)] W fun e W' =>
      (e = .returned (.bool true) ∧ J (pre ++ [x]) W' ∧ BX c n₀ W W') ∨ (e = .returned (.bool false) ∧ Jx (pre ++ [x]) W'))
    (W : World) (hB1 : W.cell? ⟨B1, 0, none⟩ = some (.int .i64 from_)) (hB2 : W.cell? ⟨B2, 0, none⟩ = some (.slice (some ⟨b, off, none⟩) zs.length cap)) (hB3 : W.cell? ⟨B3, 0, none⟩ = some (.int .i64 level)) (hc : ∀ j, j < zs.length → W.cell? ⟨b, off + j, none⟩ = some (.int .i64 (zs[j]?.getD 0))) (h0 : J [] W) :
    CallsIn F n Try.prog 77 #[.func (.yield l) #[] #[], .pointer (some ⟨B1, 0, none⟩), .pointer (some ⟨B2, 0, none⟩), .pointer (some ⟨B3, 0, none⟩)] W fun e W' => (∃ v, e = .returned v) ∧
      ((∃ ys, ys = pl zs from_ level zs.length ∧ J ys W') ∨ (∃ pre, pre <+: pl zs from_ level zs.length ∧ Jx pre W')) := by
  refine callsIn_of_wp Try.func77 rfl h7 ?_ hro
  simp only [Try.ntmps77, List.size_toArray, List.length_cons, List.length_nil, Nat.reduceAdd, Nat.reduceSub, Array.replicate_succ, Array.replicate_zero, List.push_toArray, List.append_toArray, List.nil_append, List.cons_append]
  have hpl := pl_len zs from_ level
  refine (fun (key : ∀ (m : Int) (v6 : Value), 0 ≤ m → from_ ≤ m → m ≤ max from_ 0 → Code.wpIn F n Try.prog ?C ?Q { tmps := #[.func (.yield l) #[] #[], .pointer (some ⟨B1, 0, none⟩), .pointer (some ⟨B2, 0, none⟩), .pointer (some ⟨B3, 0, none⟩), undef, .int .i64 m, v6, .int .i64 m, undef, undef, undef, undef, undef, undef, undef, undef, undef, undef, undef, undef, undef, undef, undef, undef, undef, undef], defers := [] } W) => ?main) ?proof
  case main =>
    gi_wp2
    · exact key 0 _ (by omega) (by omega) (by omega)
    · exact key from_ _ (by omega) (by omega) (by omega)
  case proof =>
  intro m v6 hm0 hm1 hm2
  gi_loopw [5] (fun i wr => ∃ k : Nat, i = .int .i64 (k : Int) ∧ k ≤ 9223372036854775807 ∧ from_ ≤ (k : Int) ∧ J (pl zs from_ level k) wr ∧ BX c n₀ W wr)
    (fun i _ => zs.length - (intOf i).toNat)
  case atStart => exact ⟨m.toNat, by rw [Int.toNat_of_nonneg (by omega)], by omega, by omega, by rw [pl_start (by omega)]; exact h0, BX.refl _ _ _⟩
  case round =>
    obtain ⟨k, rfl, hk64, hfk, hJs, hnx⟩ := hrel
    have hc1 : wr.cell? ⟨B1, 0, none⟩ = some (.int .i64 from_) := (hnx.cell (p := ⟨B1, 0, none⟩) h1n h1c).trans hB1
    have hc2 : wr.cell? ⟨B2, 0, none⟩ = some (.slice (some ⟨b, off, none⟩) zs.length cap) := (hnx.cell (p := ⟨B2, 0, none⟩) h2n h2c).trans hB2
    have hc3 : wr.cell? ⟨B3, 0, none⟩ = some (.int .i64 level) := (hnx.cell (p := ⟨B3, 0, none⟩) h3n h3c).trans hB3
    by_cases hlt : k < zs.length
    · have hcx : wr.cell? ⟨b, off + k, none⟩ = some (.int .i64 (zs[k]?.getD 0)) := (hnx.cell (p := ⟨b, off + k, none⟩) hb (Nat.ne_of_lt hcb)).trans (hc k hlt)
      obtain ⟨fn, tmps, assign, body, hy, hR⟩ := hY _ k wr.drew (hJ _ _ hJs) (by have := hpl k; omega)
      generalize hz : zs[k]?.getD 0 = z at *
      by_cases hge : level ≤ z
      · gi_wp2
        clear hY hB1 hB2 hB3 hc h0 hpl hc1
        rename_i Qr Kb hKb Kc hKc
        have fin : ∀ (bb : Bool) (W3 : World), ((bb = true ∧ J (pl zs from_ level k ++ [k]) W3 ∧ BX c n₀ wr.drew W3) ∨ (bb = false ∧ Jx (pl zs from_ level k ++ [k]) W3)) → Exit.then Kc (Exit.inBlock 1 (Exit.then Kb Qr)) Exit.normal { tmps := #[.func (.yield l) #[] #[], .pointer (some ⟨B1, 0, none⟩), .pointer (some ⟨B2, 0, none⟩), .pointer (some ⟨B3, 0, none⟩), undef, .int .i64 (k : Int), v6, .int .i64 m, .int .i64 (k : Int), .slice (some ⟨b, off, none⟩) zs.length cap, .int .i64 (zs.length : Int), .bool true, u12, u13, .slice (some ⟨b, off, none⟩) zs.length cap, .int .i64 (k : Int), .pointer (some ⟨b, off + k, none⟩), .int .i64 z, .int .i64 level, .bool true, .bool true, .func (.yield l) #[] #[], .int .i64 (k : Int), .bool bb, .bool !bb, .bool !bb], defers := [] } W3 := by
          intro bb W3 hor2
          rcases hor2 with ⟨rfl, hJ3, hk3⟩ | ⟨rfl, hJx3⟩
          · gi_wp2
            go_roundw
            case rel => exact ⟨k + 1, by simp, by omega, by omega, by rw [pl_yes hlt hfk (by rw [hz]; exact hge)]; exact hJ3, (hnx.drew).trans hk3⟩
            case measure => simp [intOf]; omega
          · gi_wp2
            refine bodyPost_ret (results_none rfl _ _ _) rfl ?_
            exact ⟨⟨_, rfl⟩, .inr ⟨_, by rw [← pl_yes hlt hfk (by rw [hz]; exact hge)]; exact pl_prefix _ _ _ _, hJx3⟩⟩
        generalize Exit.then Kc (Exit.inBlock 1 (Exit.then Kb Qr)) = QQ at fin ⊢
        clear hKb hKc Kb Kc Qr hnx hfk hk64 hJs hJ hz
        gi_region_with (refine hR.mono ?_; intro e W3 hor; obtain ⟨bb, rfl, hor2⟩ : ∃ bb : Bool, e = Ending.returned (Value.bool bb) ∧ ((bb = true ∧ J (pl zs from_ level k ++ [k]) W3 ∧ BX c n₀ wr.drew W3) ∨ (bb = false ∧ Jx (pl zs from_ level k ++ [k]) W3)) := hor.elim (fun h => ⟨true, h.1, .inl ⟨rfl, h.2⟩⟩) (fun h => ⟨false, h.1, .inr ⟨rfl, h.2⟩⟩); clear hor)
        all_goals exact fin _ _ hor2
      · gi_wp2
        clear hY hB1 hB2 hB3 hc h0 hpl hc1 hy hR
        rename_i Qr Kb hKb Kc hKc
        have fin : ∀ (u21 u22 u23 u24 : Value), Exit.then Kc (Exit.inBlock 1 (Exit.then Kb Qr)) Exit.normal { tmps := #[.func (.yield l) #[] #[], .pointer (some ⟨B1, 0, none⟩), .pointer (some ⟨B2, 0, none⟩), .pointer (some ⟨B3, 0, none⟩), undef, .int .i64 (k : Int), v6, .int .i64 m, .int .i64 (k : Int), .slice (some ⟨b, off, none⟩) zs.length cap, .int .i64 (zs.length : Int), .bool true, u12, u13, .slice (some ⟨b, off, none⟩) zs.length cap, .int .i64 (k : Int), .pointer (some ⟨b, off + k, none⟩), .int .i64 z, .int .i64 level, .bool false, .bool false, u21, u22, u23, u24, .bool false], defers := [] } wr.drew := by
          intro u21 u22 u23 u24
          gi_wp2
          go_roundw
          case rel => exact ⟨k + 1, by simp, by omega, by omega, by rw [pl_no hlt (by rw [hz]; omega)]; exact hJ _ _ hJs, hnx.drew⟩
          case measure => simp [intOf]; omega
        generalize Exit.then Kc (Exit.inBlock 1 (Exit.then Kb Qr)) = QQ at fin ⊢
        clear hKb hKc Kb Kc Qr hnx hfk hk64 hJs hJ hz
        gi_region_with (refine ⟨fun _ h => (by cases h), ?_⟩)
        all_goals exact fin _ _ _ _
    · gi_wp2
      go_end0
      exact ⟨⟨_, rfl⟩, .inl ⟨_, rfl, by rw [← pl_all (k := k) (by omega)]; exact hJs⟩⟩
end Go.Av.Up

/-! ### up: Places, Count: over the world -/
set_option linter.unusedVariables false
set_option linter.unusedSimpArgs false
namespace Go.Av.Up
open Go Go.Proofs Go.RowKit Go.Shelf
attribute [local go_sem] Oper.semAt_some
/-- The slice value holds these numbers, in a block below n₀; or there are none. -/
def Ints (n₀ : Nat) (W : World) (sv : Value) (zs : List Int) : Prop :=
  ((∃ a cap, sv = .slice a 0 cap) ∧ zs = []) ∨ ∃ b off cap, sv = .slice (some ⟨b, off, none⟩) zs.length cap ∧ b < n₀ ∧ ∀ j, j < zs.length → W.cell? ⟨b, off + j, none⟩ = some (.int .i64 (zs[j]?.getD 0))
theorem Ints.below {n₀ : Nat} {A B : World} (h : Below n₀ A B) {sv : Value} {zs : List Int} : Ints n₀ A sv zs → Ints n₀ B sv zs
  | .inl e => .inl e
  | .inr ⟨b, off, cap, e, hb, hc⟩ => .inr ⟨b, off, cap, e, hb, fun j hj => (h.cell (p := ⟨b, off + j, none⟩) hb).trans (hc j hj)⟩

set_option maxRecDepth 100000 in
set_option maxHeartbeats 4000000 in
theorem each1_nil_in (F : Fence) (n : Nat) (h7 : F.fn 77) (hro : F.round = none) (l B1 B2 B3 : Nat) (a : Option Addr) (cap : Nat) (from_ level : Int) (J : List Nat → World → Prop) (W : World) (hB1 : W.cell? ⟨B1, 0, none⟩ = some (.int .i64 from_)) (hB2 : W.cell? ⟨B2, 0, none⟩ = some (.slice a 0 cap)) (h0 : J [] W) :
    CallsIn F n Try.prog 77 #[.func (.yield l) #[] #[], .pointer (some ⟨B1, 0, none⟩), .pointer (some ⟨B2, 0, none⟩), .pointer (some ⟨B3, 0, none⟩)] W fun e W' => (∃ v, e = .returned v) ∧ J [] W' := by
  refine callsIn_of_wp Try.func77 rfl h7 ?_ hro
  simp only [Try.ntmps77, List.size_toArray, List.length_cons, List.length_nil, Nat.reduceAdd, Nat.reduceSub, Array.replicate_succ, Array.replicate_zero, List.push_toArray, List.append_toArray, List.nil_append, List.cons_append]
  gi_wp2
  all_goals
    gi_loopw [5] (fun i wr => ∃ m : Int, i = .int .i64 m ∧ 0 ≤ m ∧ J [] wr ∧ wr = W) (fun _ _ => 0)
    case atStart => exact ⟨_, rfl, by omega, h0, rfl⟩
    case round =>
      obtain ⟨m, rfl, hm, hJs, rfl⟩ := hrel
      have hlt : ¬ m < 0 := by omega
      gi_wp2
      go_end0
      exact ⟨⟨_, rfl⟩, hJs⟩
set_option maxHeartbeats 1000000 in
theorem each_in (F : Fence) (n : Nat) (h5 : F.fn 54) (hro : F.round = none) (a : Option Addr) (len cap : Nat) (from_ level : Int) (w : World) :
    CallsIn F n Try.prog 54 #[.slice a len cap, .int .i64 from_, .int .i64 level] w fun e w' => e = .returned (.func (.func 77) #[] #[.pointer (some ⟨w.heap.size + 1, 0, none⟩), .pointer (some ⟨w.heap.size, 0, none⟩), .pointer (some ⟨w.heap.size + 1 + 1, 0, none⟩)]) ∧ w' = ((w.alloc (.cells #[.slice a len cap] 22)).alloc (.cells #[.int .i64 from_] 3)).alloc (.cells #[.int .i64 level] 3) := by
  refine callsIn_of_wp Try.func54 rfl h5 ?_ hro
  simp only [Try.ntmps54, List.size_toArray, List.length_cons, List.length_nil, Nat.reduceAdd, Nat.reduceSub, Array.replicate_succ, Array.replicate_zero, List.push_toArray, List.append_toArray, List.nil_append, List.cons_append]
  gi_wp2
  go_ret
  exact ⟨rfl, rfl⟩
theorem Ints.up {n₀ n₁ : Nat} (h : n₀ ≤ n₁) {A : World} {sv : Value} {zs : List Int} : Ints n₀ A sv zs → Ints n₁ A sv zs
  | .inl e => .inl e
  | .inr ⟨b, off, cap, e, hb, hc⟩ => .inr ⟨b, off, cap, e, by omega, hc⟩
theorem bxK_b {c n₀ : Nat} {w : World} (hn : n₀ ≤ w.heap.size) (W : World) (l : Nat) (o o' : Obj) (hl : w.heap.size ≤ l) (h : W.heap[l]? = some o) (_ : o.isCells = false) (_ : o.isWalk = false) : BX c n₀ W (W.putObj l o') := fun k hk _ =>
  World.putObj_heap_other (by omega)
theorem drewOf {β : Type} {B : Nat} {J : β → World → Prop} (h : AbidesFrom B J) : ∀ s W, J s W → J s W.drew := fun s W hs =>
  h s W W.drew none hs ⟨rfl, rfl, rfl, Nat.le_refl _, fun _ _ _ => rfl⟩ (fun r e => by cases e)
theorem each_stops (F : Fence) (n : Nat) (h7 : F.fn 77) (hro : F.round = none) (hn : 1 ≤ n) (B1 B2 B3 n₀ c : Nat) (sv : Value) (zs : List Int) (from_ level : Int) (hf : from_ ≤ 9223372036854775807) (hreach : zs.length ≤ 1000000) (w : World) (h1 : B1 < n₀) (h2 : B2 < n₀) (h3 : B3 < n₀) (hn₀ : n₀ ≤ w.heap.size) (h1c : B1 ≠ c) (h2c : B2 ≠ c) (h3c : B3 ≠ c) (hcn : c ≤ n₀)
    (c1 : w.cell? ⟨B1, 0, none⟩ = some (.int .i64 from_)) (c2 : w.cell? ⟨B2, 0, none⟩ = some sv) (c3 : w.cell? ⟨B3, 0, none⟩ = some (.int .i64 level)) (hI : Ints c w sv zs) :
    SeqStopsK F n Try.prog 77 #[.pointer (some ⟨B1, 0, none⟩), .pointer (some ⟨B2, 0, none⟩), .pointer (some ⟨B3, 0, none⟩)] (fun x : Nat => #[Value.int .i64 (x : Int)]) (BX c n₀) (fun ys => ys = pl zs from_ level zs.length) (fun pre => pre <+: pl zs from_ level zs.length) zs.length w := fun l J Jx W hW hJ _ hY h0 => by
  have c1' := (hW.cell (p := ⟨B1, 0, none⟩) (Nat.lt_of_lt_of_le h1 hn₀)).trans c1
  have c2' := (hW.cell (p := ⟨B2, 0, none⟩) (Nat.lt_of_lt_of_le h2 hn₀)).trans c2
  have c3' := (hW.cell (p := ⟨B3, 0, none⟩) (Nat.lt_of_lt_of_le h3 hn₀)).trans c3
  rcases hI.below (hW.mono (Nat.le_trans hcn hn₀)) with ⟨⟨a, cap, rfl⟩, rfl⟩ | ⟨b, off, cap, rfl, hb, hcs⟩
  · exact (each1_nil_in F n h7 hro l B1 B2 B3 a cap from_ level J W c1' c2' h0).mono fun e W' ⟨he, hj⟩ => ⟨he, .inl ⟨_, rfl, hj⟩⟩
  · exact each1_in F n h7 hro hn l B1 B2 B3 n₀ c b off cap zs from_ level hf hreach (by omega) h1 h2 h3 hb h1c h2c h3c J Jx (drewOf hJ) hY W c1' c2' c3' hcs h0
theorem heap_set_other (W : World) (c : Nat) (o : Nat) (v : Value) (k : Nat) (h : k ≠ c) : (W.setCell ⟨c, o, none⟩ v).heap[k]? = W.heap[k]? := by
  unfold World.setCell
  simp [Array.getElem?_modify, Ne.symm h]
theorem BX.set (c B : Nat) (W : World) (v : Value) : BX c B W (W.setCell ⟨c, 0, none⟩ v) := fun k _ hne => heap_set_other W c 0 v k hne
theorem wrap_in' (x : Int) (h : -9223372036854775808 ≤ x ∧ x ≤ 9223372036854775807) : wrap64 x = x := by
  unfold wrap64; omega
set_option maxRecDepth 100000 in
set_option maxHeartbeats 4000000 in
theorem count_in (F : Fence) (n : Nat) (h3 : F.fn 19) (h5 : F.fn 54) (h6 : F.fn 77) (hro : F.round = none) (hn : 3 ≤ n) (a : Option Addr) (len cap : Nat) (zs : List Int) (level : Int) (hreach : zs.length ≤ 1000000) (w : World) (hI : Ints w.heap.size w (.slice a len cap) zs) :
    CallsIn F n Try.prog 19 #[.slice a len cap, .int .i64 level] w fun e W' => e = .returned (.int .i64 ((pl zs 0 level zs.length).length : Int)) ∧ Below w.heap.size w W' := by
  have h1 : 1 ≤ n := by omega
  have hpl := pl_len zs 0 level zs.length
  refine callsIn_of_wp_marks Try.func19 rfl h3 ?_ hro
  simp only [Try.ntmps19, List.size_toArray, List.length_cons, List.length_nil, Nat.reduceAdd, Nat.reduceSub, Array.replicate_succ, Array.replicate_zero, List.push_toArray, List.append_toArray, List.nil_append, List.cons_append]
  gi_wp2_with (gi_at_call 54; refine (each_in F (n - 1) h5 hro _ _ _ _ _ _).mono ?_; rintro e w' ⟨rfl, rfl⟩)
  have bS := Boxed.new w 3 (.int .i64 0)
  have b2 := Boxed.new (w.alloc (.cells #[.int .i64 0] 3)) 22 (.slice a len cap)
  have b1 := Boxed.new ((w.alloc (.cells #[.int .i64 0] 3)).alloc (.cells #[.slice a len cap] 22)) 3 (.int .i64 0)
  have b3 := Boxed.new (((w.alloc (.cells #[.int .i64 0] 3)).alloc (.cells #[.slice a len cap] 22)).alloc (.cells #[.int .i64 0] 3)) 3 (.int .i64 level)
  simp only [World.size_alloc] at b1 b2 b3
  have hB0 : Below w.heap.size w ((((w.alloc (.cells #[.int .i64 0] 3)).alloc (.cells #[.slice a len cap] 22)).alloc (.cells #[.int .i64 0] 3)).alloc (.cells #[.int .i64 level] 3)) := (((((Below.refl _ w).alloc (Nat.le_refl _) _).alloc (by simp) _).alloc (by simp; omega) _).alloc (by simp; omega) _)
  refine wpIn_rangeFunc_ownG hro h1 (gf := 77) (lb := #[.pointer (some ⟨w.heap.size + 1 + 1, 0, none⟩), .pointer (some ⟨w.heap.size + 1, 0, none⟩), .pointer (some ⟨w.heap.size + 1 + 1 + 1, 0, none⟩)]) rfl h6 (enters_of Try.func77 (by kernel_rfl) rfl)
    (each_stops F (n - 1) h6 hro (by omega) (w.heap.size + 1 + 1) (w.heap.size + 1) (w.heap.size + 1 + 1 + 1) (w.heap.size + 1 + 1 + 1 + 1) w.heap.size _ zs 0 level (by omega) hreach _ (by omega) (by omega) (by omega) (by simp) (by omega) (by omega) (by omega) (by omega) (b1.alloc _).cell ((b2.alloc _).alloc _).cell b3.cell (hI.below hB0)) BX.trans (bxK_b (by simp)) (Below.refl _ _) (fun _ => rfl)
    (fun pre W => (W.cell? ⟨w.heap.size, 0, none⟩ = some (.int .i64 (pre.length : Int)) ∧ W.frozen? ⟨w.heap.size, 0, none⟩ = false) ∧ Below w.heap.size w W)
    (fun _ _ _ => False)
    (OwnFrom.and (Own.from (fun s A B row hs hg hr => ⟨cell_kept hs.1 hg hr, (frozen_kept hs.1 hg hr).trans hs.2⟩) _) (ownFrom_below (Nat.le_refl _) (by simp; omega)))
    (fun _ _ _ _ _ hs _ _ => hs)
    ⟨⟨(((bS.alloc _).alloc _).alloc _).cell, (((bS.alloc _).alloc _).alloc _).frozen⟩, hB0⟩
    (fun x => { tmps := #[.slice a len cap, .int .i64 level, undef, undef, .int .i64 0, .pointer (some ⟨w.heap.size, 0, none⟩), .slice a len cap, .int .i64 level, .func (.func 77) #[] #[.pointer (some ⟨w.heap.size + 1 + 1, 0, none⟩), .pointer (some ⟨w.heap.size + 1, 0, none⟩), .pointer (some ⟨w.heap.size + 1 + 1 + 1, 0, none⟩)], .int .i64 (x : Int), undef, undef, undef], defers := [] }) ?assign ?body ?done ?stop
  case assign =>
    intro l x W K hK
    gi_wp2
    simpa [Array.zip, List.zipWith_toArray] using hK
  case body =>
    rintro l pre x W ⟨⟨hc, hf⟩, hB⟩ hlt
    have hwr := wrap_in' ((pre.length : Int) + 1) (by omega)
    gi_wp2
    exact ⟨(KeepsOthers.setCell _ _ _).from _, BX.set _ _ _ _, ⟨by rw [List.length_append]; exact World.cell?_setCell_same' _ _ _ (by rw [hc]; rfl), by rw [World.frozen?_setCell]; exact hf⟩, hB.setCell (p := ⟨w.heap.size, 0, none⟩) (Nat.le_refl _) _⟩
  case done =>
    rintro D ys W hD rfl ⟨⟨hc, _⟩, hB⟩ hK
    gi_wp2
    refine ⟨by simp, .inl ⟨_, _, rfl, run_takeDeferred hK, ?_⟩⟩
    exact ⟨_, results_tmp rfl _ _ _, rfl, hB.trans (belowK_b (w := w) (Nat.le_refl _) W D _ _ (by simp at hD; omega) hK rfl rfl)⟩
  case stop =>
    rintro D c pre W _ _ h _
    exact h.elim
end Go.Av.Up

set_option exponentiation.threshold 1000
set_option linter.unusedVariables false
set_option linter.unusedSimpArgs false
set_option maxRecDepth 100000
set_option maxHeartbeats 4000000
namespace Go.Av
open Go Go.Proofs Go.Proofs.Ytofomnllcmgfeaa Go.RowKit
/-! ### up: Places, Count, Last: over states -/
open Go.Av.Up (pl hit)
/-- The places, as numbers of the language. -/
def plI (zs : List Int) (from_ level : Int) : List Int := (pl zs from_ level zs.length).map fun x : Nat => (x : Int)
theorem plI_len (zs : List Int) (from_ level : Int) : (plI zs from_ level).length ≤ zs.length := by
  unfold plI
  rw [List.length_map]
  exact Up.pl_len _ _ _ _
theorem ints_of {w : World} {E : Env} {zs : List Int} {full : Bool} {y : Value} (hst : ∀ b, E.st b → b < w.heap.size) (h : RepM w E [] (.c (.sl (zs.map iC) zs.length full)) y) : ∃ a cap, y = .slice a zs.length cap ∧ Up.Ints w.heap.size w y zs := by
  have h' : RepM w E [] (.c (.sl ((zs.map fun x => Value.int .i64 x).map C.v) zs.length full)) y := by
    have e : (zs.map fun x => Value.int .i64 x).map C.v = zs.map iC := by simp [iC]
    rw [e]; exact h
  rcases arg_row (by simp) h' with ⟨h0, rfl⟩ | ⟨a, cap, rfl, hle, hc⟩
  · have : zs = [] := List.eq_nil_of_length_eq_zero h0
    subst this
    exact ⟨none, 0, rfl, .inl ⟨⟨none, 0, rfl⟩, rfl⟩⟩
  · refine ⟨some a, cap, rfl, ?_⟩
    by_cases h0 : zs.length = 0
    · have : zs = [] := List.eq_nil_of_length_eq_zero h0
      subst this
      exact .inl ⟨⟨_, _, rfl⟩, rfl⟩
    · have hj := hc 0 (.int .i64 (zs[0]?.getD 0)) (by
        have : 0 < zs.length := by omega
        simp [this])
      have ha : a = ⟨a.block, a.off, none⟩ := by
        have := plain_of_cell hj.2
        unfold Addr.add at this
        simpa using this
      refine .inr ⟨a.block, a.off, cap, by rw [← ha], hst _ hj.1, fun j hjl => ?_⟩
      have := (hc j (.int .i64 (zs[j]?.getD 0)) (by simp [hjl])).2
      rw [ha, add_plain] at this
      exact this
theorem count_den (zs : List Int) (level : Int) (full : Bool) (hn : zs.length ≤ 1000000) : DenV Try.prog 19 [.c (.sl (zs.map iC) zs.length full), .c (iC level)] (.c (iC ((plI zs 0 level).length : Int))) := by
  refine Den.of_below (by kernel_rfl) rfl fun w E vals hs ha hst => ?_
  obtain ⟨va, vb, rfl⟩ : ∃ va vb, vals = #[va, vb] := by
    obtain ⟨l⟩ := vals
    match l, hs with
    | [a, b], _ => exact ⟨a, b, rfl⟩
  obtain rfl : vb = .int .i64 level := arg_v (ha 1 _ rfl)
  obtain ⟨a, cap, e, hI⟩ := ints_of hst (ha 0 _ rfl)
  simp only [Array.getD_eq_getD_getElem?, List.getElem?_toArray, List.getElem?_cons_zero, Option.getD_some] at e hI
  subst e
  refine ((callsIn_wide (n := 3)).1 (Up.count_in _ 3 trivial trivial trivial rfl (by omega) a zs.length cap zs level hn w hI)).mono fun e w' ⟨he, hb⟩ => ⟨?_, hb⟩
  rw [he]
  simp [plI]
/-- The n-th from the end. -/
def lastI (zs : List Int) (level n : Int) : Int := if 1 ≤ n ∧ n ≤ (plI zs 0 level).length then ((plI zs 0 level)[(plI zs 0 level).length - n.toNat]?).getD 0 else -1
end Go.Av

set_option exponentiation.threshold 1000
set_option linter.unusedVariables false
set_option linter.unusedSimpArgs false
set_option maxRecDepth 100000
set_option maxHeartbeats 4000000
namespace Go.Av
open Go Go.Proofs Go.Proofs.Ytofomnllcmgfeaa Go.RowKit
/-! ### up: the document's answer, the laws -/
open Go.Av.Up (pl hit)
def plT (zs : List Int) (from_ level : Int) (k : Nat) : List Int := (pl zs from_ level k).map fun x : Nat => (x : Int)
theorem plT_all (zs : List Int) (from_ level : Int) : plT zs from_ level zs.length = plI zs from_ level := rfl
theorem plT_0 (zs : List Int) (from_ level : Int) : plT zs from_ level 0 = [] := by
  simp [plT, pl]
theorem plT_succ (zs : List Int) (from_ level : Int) (k : Nat) (x : Int) (h : zs[k]? = some x) : plT zs from_ level (k + 1) = plT zs from_ level k ++ if from_ ≤ (k : Int) ∧ level ≤ x then [(k : Int)] else [] := by
  have hk := (List.getElem?_eq_some_iff.1 h).1
  have e : zs[k]?.getD 0 = x := by rw [h]; rfl
  unfold plT
  by_cases h2 : level ≤ x
  · by_cases h1 : from_ ≤ (k : Int)
    · rw [Up.pl_yes hk h1 (by rw [e]; exact h2), if_pos ⟨h1, h2⟩, List.map_append]; rfl
    · rw [if_neg (fun q => h1 q.1), List.append_nil]
      congr 1
      unfold pl
      rw [show min (k + 1) zs.length = k + 1 by omega, show min k zs.length = k by omega, List.range_succ, List.filter_append]
      simp [List.filter_cons, hit, h1]
  · rw [Up.pl_no hk (by rw [e]; exact h2), if_neg (fun q => h2 q.2), List.append_nil]
theorem plT_len (zs : List Int) (from_ level : Int) (k : Nat) : (plT zs from_ level k).length ≤ k := by
  unfold plT
  rw [List.length_map]
  exact Up.pl_len _ _ _ _
set_option maxHeartbeats 4000000 in
theorem count38_den (zs : List Int) (level : Int) (hn : zs.length ≤ 1000000) : DenV Try.prog 84 [.c (intsC zs), .c (iC level)] (.c (iC ((plI zs 0 level).length : Int))) := by
  refine Den.frame rfl rfl ?_
  have hs := plT_succ zs 0 level
  have hl := plT_len zs 0 level
  have h0 := plT_0 zs 0 level
  rw [← plT_all]
  generalize plT zs 0 level = f at *
  refine den_of Try.func84 rfl rfl (by simp [Try.ntmps84]) (fun X hX hO => ?_)
  rw [Try.ntmps84] at hX
  simp only [Try.results84]
  repeat' (first 
   | (with_reducible first | refine awp_scope ?_ | refine awp_seq ?_ | refine awp_block ?_)
   | ((with_reducible first | refine awp_label ?_ | refine awp_skip ?_); try simp only [thenA, inBlockA, noGotoA])
   | (with_reducible refine awp_exit ?_; simp only [thenA, inBlockA, noGotoA, if_true, Nat.reduceEqDiff, if_false, ↓reduceIte])
   | (with_reducible refine awp_ret ?_; (try simp only [thenA, inBlockA, noGotoA]); (try simp [-List.reduceReplicate, Nat.add_one_le_iff, -getElem?_pos, -getElem?_neg, List.getElem?_cons_zero, List.getElem?_cons_succ, intsC, iC]))
   | ((with_reducible first | refine awp_reg 22 hX [0, 1, 4, 5, 6, 10, 18] ?_ | change postOf _ _ _ _ _); simp [-List.reduceReplicate, Nat.add_one_le_iff, -getElem?_pos, -getElem?_neg, List.getElem?_cons_zero, List.getElem?_cons_succ, intsC, iC])
   | (with_reducible refine awp_if_b rfl (fun hc => ?_) (fun hc => ?_) <;> (try simp [-getElem?_pos, -getElem?_neg] at hc) <;> (try (exfalso; omega)))
   | ((with_reducible first | refine GuardK_b (fun hc => ?_) (fun hc => ?_)) <;> (try simp only [Bool.not_eq_true', Bool.not_eq_false', decide_eq_true_eq, decide_eq_false_iff_not] at hc) <;> (first | (exfalso; omega) | skip) <;> simp [-List.reduceReplicate, Nat.add_one_le_iff, -getElem?_pos, -getElem?_neg, List.getElem?_cons_zero, List.getElem?_cons_succ, intsC, iC, hc])
   | ((with_reducible first | refine hother _ _ rfl ?_); simp only [inBlockA, thenA, noGotoA, Nat.reduceEqDiff, if_false, if_true, ↓reduceIte])
   | (with_reducible refine And.intro (by omega) ?_)
   | fail)
  refine awp_forU [0, 1, 5, 6] (fun i (_u : Unit) => [(5, .c (iC ((f i).length : Int))), (6, .c (iC i))]) (fun i (_u : Unit) => []) (fun i (_u : Unit) => True) (zs.length) (()) (by first | trivial | (simp; done) | omega | (intros; simp at *; done)) (by simp [-List.reduceReplicate, keep, iC, h0]) (by simp [-List.reduceReplicate, iC, h0]) ?_
  rintro i _u Q1 hi hH next hother
  conv => arg 5; arg 1; simp only [List.cons_append, List.nil_append, keep, get, Nat.reduceEqDiff, if_true, if_false, ↓reduceIte]
  have hwi := wrap_in ((i : Int) + 1) (by omega)
  have hli := hl i
  have hwc := wrap_in (((f i).length : Int) + 1) (by omega)
  by_cases hlt : i < zs.length
  · obtain ⟨x, hx⟩ := getI zs i (by omega) (by omega)
    simp only [Int.toNat_natCast] at hx
    have hsi := hs i x hx
    by_cases hge : level ≤ x
    · rw [if_pos ⟨by omega, hge⟩] at hsi
      repeat' (first 
       | (with_reducible first | refine awp_scope ?_ | refine awp_seq ?_ | refine awp_block ?_)
       | ((with_reducible first | refine awp_label ?_ | refine awp_skip ?_); try simp only [thenA, inBlockA, noGotoA])
       | (with_reducible refine awp_exit ?_; simp only [thenA, inBlockA, noGotoA, if_true, Nat.reduceEqDiff, if_false, ↓reduceIte])
       | (with_reducible refine awp_ret ?_; (try simp only [thenA, inBlockA, noGotoA]); (try simp [-List.reduceReplicate, Nat.add_one_le_iff, -getElem?_pos, -getElem?_neg, List.getElem?_cons_zero, List.getElem?_cons_succ, iC, hlt, hwi, hwc, hx, hge]))
       | ((with_reducible first | refine awp_reg 22 hX [0, 1, 4, 5, 6, 10, 18] ?_ | change postOf _ _ _ _ _); simp [-List.reduceReplicate, Nat.add_one_le_iff, -getElem?_pos, -getElem?_neg, List.getElem?_cons_zero, List.getElem?_cons_succ, iC, hlt, hwi, hwc, hx, hge])
       | (with_reducible refine awp_if_b rfl (fun hc => ?_) (fun hc => ?_) <;> (try simp [-getElem?_pos, -getElem?_neg] at hc) <;> (try (exfalso; omega)))
       | ((with_reducible first | refine GuardK_b (fun hc => ?_) (fun hc => ?_)) <;> (try simp only [Bool.not_eq_true', Bool.not_eq_false', decide_eq_true_eq, decide_eq_false_iff_not] at hc) <;> (first | (exfalso; omega) | skip) <;> simp [-List.reduceReplicate, Nat.add_one_le_iff, -getElem?_pos, -getElem?_neg, List.getElem?_cons_zero, List.getElem?_cons_succ, iC, hlt, hwi, hwc, hx, hge, hc])
       | ((with_reducible first | refine hother _ _ rfl ?_); simp only [inBlockA, thenA, noGotoA, Nat.reduceEqDiff, if_false, if_true, ↓reduceIte])
       | (with_reducible refine And.intro (by omega) ?_)
       | fail)
      refine next _ _ (()) (by omega) (by first | trivial | omega | assumption) (by simp [-List.reduceReplicate, keep, iC, hsi]) (by simp [-List.reduceReplicate, iC, hsi])
    · rw [if_neg (fun q => hge q.2), List.append_nil] at hsi
      repeat' (first 
       | (with_reducible first | refine awp_scope ?_ | refine awp_seq ?_ | refine awp_block ?_)
       | ((with_reducible first | refine awp_label ?_ | refine awp_skip ?_); try simp only [thenA, inBlockA, noGotoA])
       | (with_reducible refine awp_exit ?_; simp only [thenA, inBlockA, noGotoA, if_true, Nat.reduceEqDiff, if_false, ↓reduceIte])
       | (with_reducible refine awp_ret ?_; (try simp only [thenA, inBlockA, noGotoA]); (try simp [-List.reduceReplicate, Nat.add_one_le_iff, -getElem?_pos, -getElem?_neg, List.getElem?_cons_zero, List.getElem?_cons_succ, iC, hlt, hwi, hwc, hx, hge]))
       | ((with_reducible first | refine awp_reg 22 hX [0, 1, 4, 5, 6, 10, 18] ?_ | change postOf _ _ _ _ _); simp [-List.reduceReplicate, Nat.add_one_le_iff, -getElem?_pos, -getElem?_neg, List.getElem?_cons_zero, List.getElem?_cons_succ, iC, hlt, hwi, hwc, hx, hge])
       | (with_reducible refine awp_if_b rfl (fun hc => ?_) (fun hc => ?_) <;> (try simp [-getElem?_pos, -getElem?_neg] at hc) <;> (try (exfalso; omega)))
       | ((with_reducible first | refine GuardK_b (fun hc => ?_) (fun hc => ?_)) <;> (try simp only [Bool.not_eq_true', Bool.not_eq_false', decide_eq_true_eq, decide_eq_false_iff_not] at hc) <;> (first | (exfalso; omega) | skip) <;> simp [-List.reduceReplicate, Nat.add_one_le_iff, -getElem?_pos, -getElem?_neg, List.getElem?_cons_zero, List.getElem?_cons_succ, iC, hlt, hwi, hwc, hx, hge, hc])
       | ((with_reducible first | refine hother _ _ rfl ?_); simp only [inBlockA, thenA, noGotoA, Nat.reduceEqDiff, if_false, if_true, ↓reduceIte])
       | (with_reducible refine And.intro (by omega) ?_)
       | fail)
      refine next _ _ (()) (by omega) (by first | trivial | omega | assumption) (by simp [-List.reduceReplicate, keep, iC, hsi]) (by simp [-List.reduceReplicate, iC, hsi])
  · have hi2 : i = zs.length := by omega
    subst hi2
    repeat' (first 
     | (with_reducible first | refine awp_scope ?_ | refine awp_seq ?_ | refine awp_block ?_)
     | ((with_reducible first | refine awp_label ?_ | refine awp_skip ?_); try simp only [thenA, inBlockA, noGotoA])
     | (with_reducible refine awp_exit ?_; simp only [thenA, inBlockA, noGotoA, if_true, Nat.reduceEqDiff, if_false, ↓reduceIte])
     | (with_reducible refine awp_ret ?_; (try simp only [thenA, inBlockA, noGotoA]); (try simp [-List.reduceReplicate, Nat.add_one_le_iff, -getElem?_pos, -getElem?_neg, List.getElem?_cons_zero, List.getElem?_cons_succ, iC, hlt]))
     | ((with_reducible first | refine awp_reg 22 hX [0, 1, 4, 5, 6, 10, 18] ?_ | change postOf _ _ _ _ _); simp [-List.reduceReplicate, Nat.add_one_le_iff, -getElem?_pos, -getElem?_neg, List.getElem?_cons_zero, List.getElem?_cons_succ, iC, hlt])
     | (with_reducible refine awp_if_b rfl (fun hc => ?_) (fun hc => ?_) <;> (try simp [-getElem?_pos, -getElem?_neg] at hc) <;> (try (exfalso; omega)))
     | ((with_reducible first | refine GuardK_b (fun hc => ?_) (fun hc => ?_)) <;> (try simp only [Bool.not_eq_true', Bool.not_eq_false', decide_eq_true_eq, decide_eq_false_iff_not] at hc) <;> (first | (exfalso; omega) | skip) <;> simp [-List.reduceReplicate, Nat.add_one_le_iff, -getElem?_pos, -getElem?_neg, List.getElem?_cons_zero, List.getElem?_cons_succ, iC, hlt, hc])
     | ((with_reducible first | refine hother _ _ rfl ?_); simp only [inBlockA, thenA, noGotoA, Nat.reduceEqDiff, if_false, if_true, ↓reduceIte])
     | (with_reducible refine And.intro (by omega) ?_)
     | fail)
end Go.Av

set_option exponentiation.threshold 1000
set_option linter.unusedVariables false
set_option linter.unusedSimpArgs false
set_option maxRecDepth 100000
set_option maxHeartbeats 4000000
namespace Go.Av
open Go Go.Proofs Go.Proofs.Ytofomnllcmgfeaa Go.RowKit
/-! ### hashes -/
def bC8 (b : UInt8) : C := .v (.int .u8 (b.toNat : Int))
def hashM (l : List UInt8) : M := .agg (up (l.map bC8))
theorem eq_hash (l l' : List UInt8) (h : l.length = 32) (h' : l'.length = 32) : eqM (List.replicate 32 0) (up (l.map bC8)) (up (l'.map bC8)) = some (decide (l = l')) := by
  have e := eqM_ints (k := .u8) 32 (l.map fun b => (b.toNat : Int)) (l'.map fun b => (b.toNat : Int)) (by simp [h]) (by simp [h'])
  have inj : (l.map (fun b => (b.toNat : Int)) = l'.map fun b => (b.toNat : Int)) ↔ l = l' := by
    constructor
    · intro h
      exact List.map_inj_right (fun a b hab => UInt8.toNat_inj.1 (by omega)) |>.1 h
    · intro h; rw [h]
  rw [List.map_map, List.map_map] at e
  simp only [inj] at e
  exact e
theorem lt_hash (n : Nat) (l : List UInt8) : ltB n (hashM l) = true := by
  simp only [hashM, ltB]
  exact ltBs_up n _
end Go.Av

/- The library contracts that this program bears, laid by the kit's own tools. -/
namespace Go.Proofs
open Go.Shelf
def Try.lays170_ren : Go.Shelf.Ren := ⟨fun | 170 => 139 | n => n, fun | 70 => 179 | 3 => 3 | 0 => 0 | 72 => 181 | 37 => 148 | 5 => 5 | n => n, fun | n => n⟩
open Go.RowKit in
def Try.lays169_ren : Go.Shelf.Ren := ⟨fun | 169 => 135 | n => n, fun | 70 => 179 | 9 => 9 | 0 => 0 | 72 => 181 | 37 => 148 | 127 => 192 | 3 => 3 | 5 => 5 | n => n, fun | n => n⟩
open Go.RowKit in
open Go.RowKit in
open Go.RowKit in
def Try.lays241_ren : Go.Shelf.Ren := ⟨fun | 241 => 141 | 277 => 146 | n => n, fun | 70 => 179 | 3 => 3 | 0 => 0 | 72 => 181 | 37 => 148 | 5 => 5 | n => n, fun | n => n⟩
open Go.RowKit in
def Try.lays165_ren : Go.Shelf.Ren := ⟨fun | 165 => 133 | 240 => 140 | 241 => 141 | 276 => 145 | 277 => 146 | n => n, fun | 70 => 179 | 3 => 3 | 0 => 0 | 4 => 4 | 9 => 9 | 20 => 20 | 72 => 181 | 37 => 148 | 164 => 197 | 5 => 5 | n => n, fun | n => n⟩
open Go.RowKit in
def Try.lays156_ren : Go.Shelf.Ren := ⟨fun | 156 => 127 | 165 => 133 | 166 => 134 | 169 => 135 | 240 => 140 | 241 => 141 | 276 => 145 | 277 => 146 | n => n, fun | 31 => 36 | 9 => 9 | 3 => 3 | 4 => 4 | 0 => 0 | 20 => 20 | 72 => 181 | 76 => 185 | 70 => 179 | 37 => 148 | 75 => 184 | 127 => 192 | 164 => 197 | 5 => 5 | 80 => 187 | n => n, fun | n => n⟩
open Go.RowKit in
open Go.RowKit in
open Go.RowKit in
open Go.RowKit in
open Go.RowKit in
open Go.RowKit in
def Try.lays206_ren : Go.Shelf.Ren := ⟨fun | 206 => 144 | n => n, fun | 9 => 9 | 4 => 4 | 3 => 3 | n => n, fun | n => n⟩
open Go.RowKit Go.Lib in
def Try.lays99_ren : Go.Shelf.Ren := ⟨fun | 99 => 138 | 206 => 144 | n => n, fun | 9 => 9 | 4 => 4 | 3 => 3 | n => n, fun | n => n⟩
open Go.RowKit Go.Lib in
def Try.lays264_ren : Go.Shelf.Ren := ⟨fun | 264 => 143 | n => n, fun | 53 => 42 | 46 => 33 | n => n, fun | n => n⟩
open Go.RowKit Go.Lib in
def Try.lays212_ren : Go.Shelf.Ren := ⟨fun | 212 => 137 | 263 => 142 | 264 => 143 | n => n, fun | 46 => 33 | 51 => 109 | 146 => 193 | 53 => 42 | 148 => 195 | n => n, fun | n => n⟩
open Go.RowKit Go.Lib in
def Try.lays105_ren : Go.Shelf.Ren := ⟨fun | 105 => 132 | 212 => 137 | 99 => 138 | 165 => 133 | 166 => 134 | 170 => 139 | 169 => 135 | 263 => 142 | 264 => 143 | 206 => 144 | 240 => 140 | 241 => 141 | 276 => 145 | 277 => 146 | n => n, fun | 9 => 9 | 3 => 3 | 4 => 4 | 20 => 20 | 0 => 0 | 46 => 33 | 109 => 189 | 5 => 5 | 72 => 181 | 76 => 185 | 51 => 109 | 146 => 193 | 53 => 42 | 148 => 195 | 70 => 179 | 37 => 148 | 75 => 184 | 127 => 192 | 164 => 197 | 80 => 187 | n => n, fun | n => n⟩
open Go.RowKit Go.Lib in
open Go.RowKit Go.Lib in
open Go.RowKit Go.Lib in
open Go.RowKit Go.Lib in
open Go.RowKit Go.Lib in
open Go.RowKit Go.Lib in
open Go.RowKit Go.Lib in
end Go.Proofs

set_option exponentiation.threshold 1000
set_option linter.unusedVariables false
set_option linter.unusedSimpArgs false
set_option maxRecDepth 100000
set_option maxHeartbeats 4000000
namespace Go.Av
open Go Go.Proofs Go.Proofs.Ytofomnllcmgfeaa Go.RowKit
def joinS (xs : List ByteArray) (sep : ByteArray) : List UInt8 := Lib.join (xs.map (·.data.toList)) sep.data.toList
theorem ba_ext {a b : ByteArray} (h : a.data.toList = b.data.toList) : a = b := by
  obtain ⟨a⟩ := a
  obtain ⟨b⟩ := b
  simp only [ByteArray.mk.injEq]
  exact Array.toList_inj.1 h
theorem hash_take (l : List UInt8) (h : l.length = 32) : (l.map bC8).take 32 = l.map bC8 := List.take_of_length_le (by simp [h])
theorem eq_hash1 (l : List UInt8) (h : l.length = 32) : eqM (List.replicate 32 0) (up (l.map bC8)) (up (l.map bC8)) = some true := by rw [eq_hash l l h h]; simp
end Go.Av

set_option exponentiation.threshold 1000
set_option linter.unusedVariables false
set_option linter.unusedSimpArgs false
set_option maxRecDepth 100000
set_option maxHeartbeats 4000000
namespace Go.Av
open Go Go.Proofs Go.Proofs.Ytofomnllcmgfeaa Go.RowKit
def leafT (s : ByteArray) : List UInt8 := 0 :: s.data.toList
def headT (s : ByteArray) : List UInt8 := 3 :: s.data.toList
def nodeT (a b : List UInt8) : List UInt8 := 1 :: (a ++ b)
def rootT (n : Nat) (a : List UInt8) : List UInt8 := 2 :: (putN n 8 ++ a)
end Go.Av

set_option exponentiation.threshold 1000
set_option linter.unusedVariables false
set_option linter.unusedSimpArgs false
set_option maxRecDepth 100000
set_option maxHeartbeats 4000000
namespace Go.Av
open Go Go.Proofs Go.Proofs.Ytofomnllcmgfeaa Go.RowKit
/-! ### bytes as words -/
def u32C (n : Nat) : C := .v (.int .u32 (n : Int))
def byteI (b : ByteArray) (at_ : Int) (i : Nat) : Nat := if 0 ≤ at_ ∧ at_ + i < b.size then (b.data.toList.getD (at_ + i).toNat 0).toNat else 0
def takeN (b : ByteArray) (at_ : Int) : Nat → Nat
  | 0 => 0
  | n + 1 => takeN b at_ n * 256 + byteI b at_ n
end Go.Av

set_option exponentiation.threshold 1000
set_option linter.unusedVariables false
set_option linter.unusedSimpArgs false
set_option maxRecDepth 100000
set_option maxHeartbeats 4000000
namespace Go.Av
open Go Go.Proofs Go.Proofs.Ytofomnllcmgfeaa Go.RowKit
/-! ### sha: words -/
abbrev W := BitVec 32
def rotr (x : W) (n : Nat) : W := (x >>> n) ||| (x <<< (32 - n))
def g0 (x : W) : W := rotr x 7 ^^^ rotr x 18 ^^^ (x >>> 3)
def g1 (x : W) : W := rotr x 17 ^^^ rotr x 19 ^^^ (x >>> 10)
def spStep (b : ByteArray) (l : List W) : W :=
  if l.length < 16 then BitVec.ofNat 32 (takeN b (4 * l.length : Nat) 4) else l.getD (l.length - 16) 0 + g0 (l.getD (l.length - 15) 0) + l.getD (l.length - 7) 0 + g1 (l.getD (l.length - 2) 0)
def spTo (b : ByteArray) : Nat → List W
  | 0 => []
  | n + 1 => spTo b n ++ [spStep b (spTo b n)]
def spread (b : ByteArray) : List W := spTo b 64
/-- The row as it is filled. -/
def spRow (b : ByteArray) (i : Nat) : List C := ((spTo b i) ++ List.replicate (64 - i) 0).map wC
end Go.Av

set_option exponentiation.threshold 1000
set_option linter.unusedVariables false
set_option linter.unusedSimpArgs false
set_option maxRecDepth 100000
set_option maxHeartbeats 4000000
namespace Go.Av
open Go Go.Proofs Go.Proofs.Ytofomnllcmgfeaa Go.RowKit
/-! ### sha: a block laid into eight words -/
def kK : List W := [1116352408, 1899447441, 3049323471, 3921009573, 961987163, 1508970993, 2453635748, 2870763221, 3624381080, 310598401, 607225278, 1426881987, 1925078388, 2162078206, 2614888103, 3248222580, 3835390401, 4022224774, 264347078, 604807628, 770255983, 1249150122, 1555081692, 1996064986, 2554220882, 2821834349, 2952996808, 3210313671, 3336571891, 3584528711, 113926993, 338241895, 666307205, 773529912, 1294757372, 1396182291, 1695183700, 1986661051, 2177026350, 2456956037, 2730485921, 2820302411, 3259730800, 3345764771, 3516065817, 3600352804, 4094571909, 275423344, 430227734, 506948616, 659060556, 883997877, 958139571, 1322822218, 1537002063, 1747873779, 1955562222, 2024104815, 2227730452, 2361852424, 2428436474, 2756734187, 3204031479, 3329325298]
/-- Eight words. -/
structure S8 where
  (a b c d e f g h : W)
def S8.l (s : S8) : List W := [s.a, s.b, s.c, s.d, s.e, s.f, s.g, s.h]
def S8.add (s t : S8) : S8 := ⟨s.a + t.a, s.b + t.b, s.c + t.c, s.d + t.d, s.e + t.e, s.f + t.f, s.g + t.g, s.h + t.h⟩
def S8.t1 (s : S8) (k w : W) : W := s.h + (rotr s.e 6 ^^^ rotr s.e 11 ^^^ rotr s.e 25) + ((s.e &&& s.f) ^^^ (~~~ s.e &&& s.g)) + k + w
def S8.t2 (s : S8) : W := rotr s.a 2 ^^^ rotr s.a 13 ^^^ rotr s.a 22
def S8.t3 (s : S8) : W := (s.a &&& s.b) ^^^ (s.a &&& s.c) ^^^ (s.b &&& s.c)
def S8.step (s : S8) (k w : W) : S8 := ⟨s.t1 k w + s.t2 + s.t3, s.a, s.b, s.c, s.d + s.t1 k w, s.e, s.f, s.g⟩
def mixTo (ws : List W) (s : S8) : Nat → S8
  | 0 => s
  | n + 1 => (mixTo ws s n).step (kK.getD n 0) (ws.getD n 0)
def mix (s : S8) (b : ByteArray) : S8 := s.add (mixTo (spread b) s 64)
def s8M (s : S8) : M := .agg (up (s.l.map wC))
/-- Words moved one place on, from the end. -/
def shl8 (l : List W) (i : Nat) : List W := l.take (8 - i) ++ (l.drop (7 - i)).take i
end Go.Av

set_option exponentiation.threshold 1000
set_option linter.unusedVariables false
set_option linter.unusedSimpArgs false
set_option maxRecDepth 100000
set_option maxHeartbeats 4000000
namespace Go.Av
open Go Go.Proofs Go.Proofs.Ytofomnllcmgfeaa Go.RowKit
/-! ### strings.Join, strings.Repeat -/
def zerosB (n : Nat) : List UInt8 := List.replicate n 0
/-! ### sha: what stands behind -/
def padL (n : Nat) : List UInt8 := 128 :: (zerosB ((119 - n % 64) % 64) ++ putN (8 * n % 18446744073709551616) 8)
end Go.Av

set_option exponentiation.threshold 1000
set_option linter.unusedVariables false
set_option linter.unusedSimpArgs false
set_option maxRecDepth 100000
set_option maxHeartbeats 4000000
namespace Go.Av
open Go Go.Proofs Go.Proofs.Ytofomnllcmgfeaa Go.RowKit
/-! ### sha: a State -/
def firstS : S8 := ⟨0x6a09e667, 0xbb67ae85, 0x3c6ef372, 0xa54ff53a, 0x510e527f, 0x9b05688c, 0x1f83d9ab, 0x5be0cd19⟩
def blk (t : ByteArray) (i : Nat) : ByteArray := t.extract (64 * i) (64 * i + 64)
def blocksTo (s : S8) (t : ByteArray) : Nat → S8
  | 0 => s
  | i + 1 => mix (blocksTo s t i) (blk t i)
/-- A State's cells. -/
def stC (s : S8) (rest : ByteArray) (n : Nat) (on : Bool) : List C := [wC s.a, wC s.b, wC s.c, wC s.d, wC s.e, wC s.f, wC s.g, wC s.h, .v (.string rest), u64C n, bC on]
def stO (s : S8) (rest : ByteArray) (n : Nat) (on : Bool) : Ob := ⟨171, 11, false, 0, up (stC s rest n on), none⟩
def wS (s : S8) (on : Bool) : S8 := if on then s else firstS
/-- Words as bytes. -/
def wBytes (l : List W) : List UInt8 := l.flatMap fun x => putN x.toNat 4
/-- What comes of a State. -/
def sumS (s : S8) (rest : ByteArray) (n : Nat) (on : Bool) : List UInt8 := wBytes (blocksTo (wS s on) (rest ++ bsS (padL n)) ((rest ++ bsS (padL n)).size / 64)).l
theorem wBytes_len (l : List W) : (wBytes l).length = 4 * l.length := by
  induction l with
  | nil => rfl
  | cons x r ih => simp only [wBytes, List.flatMap_cons, List.length_append, putN_len, List.length_cons] at *; omega
/-- The sum as it is filled. -/
def outTo (l : List W) (i : Nat) : List C := (wBytes (l.take i)).map bC8 ++ List.replicate (32 - 4 * i) (bC8 0)
end Go.Av

set_option exponentiation.threshold 1000
set_option linter.unusedVariables false
set_option linter.unusedSimpArgs false
set_option maxRecDepth 100000
set_option maxHeartbeats 4000000
namespace Go.Av
open Go Go.Proofs Go.Proofs.Ytofomnllcmgfeaa Go.RowKit
def restOf (t : ByteArray) : ByteArray := t.extract (64 * (t.size / 64)) t.size
/-- A State that a text came to. -/
def stT (t : ByteArray) : Ob := stO (blocksTo firstS t (t.size / 64)) (restOf t) t.size true
def st0 : Ob := stO ⟨0, 0, 0, 0, 0, 0, 0, 0⟩ ⟨#[]⟩ 0 false
/-- The sum of a text. -/
def shaL (t : ByteArray) : List UInt8 := wBytes (blocksTo firstS (t ++ bsS (padL t.size)) ((t ++ bsS (padL t.size)).size / 64)).l
end Go.Av

set_option exponentiation.threshold 1000
set_option linter.unusedVariables false
set_option linter.unusedSimpArgs false
set_option maxRecDepth 100000
set_option maxHeartbeats 4000000
namespace Go.Av
open Go Go.Proofs Go.Proofs.Ytofomnllcmgfeaa Go.RowKit
/-- The sum as it is filled, byte by byte. -/
def outTo2 (l : List W) (j : Nat) (p : List UInt8) (q : Nat) : List C := (wBytes (l.take j) ++ p.take q).map bC8 ++ List.replicate (32 - 4 * j - q) (bC8 0)
end Go.Av

set_option exponentiation.threshold 1000
set_option linter.unusedVariables false
set_option linter.unusedSimpArgs false
set_option maxRecDepth 100000
set_option maxHeartbeats 4000000
namespace Go.Av
open Go Go.Proofs Go.Proofs.Ytofomnllcmgfeaa Go.RowKit
theorem shaL_len (t : ByteArray) : (shaL t).length = 32 := wBytes_len _
def primes8 : List Nat := [2, 3, 5, 7, 11, 13, 17, 19]
end Go.Av

set_option exponentiation.threshold 1000
set_option linter.unusedVariables false
set_option linter.unusedSimpArgs false
set_option maxRecDepth 100000
set_option maxHeartbeats 4000000
namespace Go.Av
open Go Go.Proofs Go.Proofs.Ytofomnllcmgfeaa Go.RowKit
/-! ### arguments whose weights are bounded -/
def OpensW (P : Program) (t : TypeId) {A : Type} (enc : A → List C) (Hyp : A → Prop) : Prop :=
  ∀ (H : Type) (e0 : TypeId × Value → H) (W : World) (fuel : Nat) (cs : List Value) (x : DataW H × List MemPlace), (x.1.weights P t).all (· ≤ reachBytes) = true → DataW.trod e0 P W 0 (fun _ => true) true fuel t cs = some x → ∃ a, Hyp a ∧ Reads W (enc a) cs
theorem OpensW.conv {P : Program} {t : TypeId} {A B : Type} {enc : A → List C} {Hyp : A → Prop} {enc' : B → List C} {Hyp' : B → Prop} (h : OpensW P t enc Hyp) (hc : ∀ a, Hyp a → ∃ b, Hyp' b ∧ enc' b = enc a) : OpensW P t enc' Hyp' := fun H e0 W fuel cs x hw hx => by
  obtain ⟨a, ha, hr⟩ := h H e0 W fuel cs x hw hx
  obtain ⟨b, hb, he⟩ := hc a ha
  exact ⟨b, hb, by rw [he]; exact hr⟩
/-! ### hashes -/
abbrev H32 := {l : List UInt8 // l.length = 32}
theorem opens_hash {P : Program} {t e : TypeId} (ht : P.underlying t = some (.array 32 e)) (he : P.underlying e = some (.int .u8)) (hc : P.cellsOf e = 1) (hct : P.cellsOf t = 32) :
    Opens P t (fun h : H32 => h.1.map bC8) (fun _ => True) :=
  (opens_array ht (by rw [hct, hc]) (by simp [hc]) (opens_int he)).conv fun l ⟨hl, hw⟩ => by
    refine ⟨⟨l.map fun n => UInt8.ofNat n.toNat, by simp [hl]⟩, trivial, ?_⟩
    have key : ∀ l' : List Int, (∀ n ∈ l', (Lit.int .u8 n).wf = true) → (l'.map fun n => UInt8.ofNat n.toNat).map bC8 = l'.flatMap fun n => [C.v (.int .u8 n)] := fun l' => by
      induction l' with
      | nil => intro _; rfl
      | cons n r ih =>
        intro hw
        have h : 0 ≤ n ∧ n ≤ 255 := by simpa [Lit.wf, IntKind.min, IntKind.max, IntKind.signed, IntKind.bits] using hw n (by simp)
        simp only [List.map_cons, List.flatMap_cons]
        rw [ih fun x hx => hw x (by simp [hx])]
        simp only [List.singleton_append, bC8, UInt8.toNat_ofNat']
        congr 4
        omega
    exact key l hw
end Go.Av

set_option exponentiation.threshold 1000
set_option linter.unusedVariables false
set_option linter.unusedSimpArgs false
set_option maxRecDepth 100000
set_option maxHeartbeats 4000000
namespace Go.Av
open Go Go.Proofs Go.Proofs.Ytofomnllcmgfeaa Go.RowKit
end Go.Av

set_option exponentiation.threshold 1000
set_option linter.unusedVariables false
set_option linter.unusedSimpArgs false
set_option maxRecDepth 100000
set_option maxHeartbeats 4000000
namespace Go.Av
open Go Go.Proofs Go.Proofs.Ytofomnllcmgfeaa Go.RowKit
end Go.Av

set_option exponentiation.threshold 1000
set_option linter.unusedVariables false
set_option linter.unusedSimpArgs false
set_option maxRecDepth 100000
set_option maxHeartbeats 4000000
namespace Go.Av
open Go Go.Proofs Go.Proofs.Ytofomnllcmgfeaa Go.RowKit
theorem data_inj (a b : ByteArray) : a.data.toList = b.data.toList ↔ a = b := ⟨ba_ext, fun h => by rw [h]⟩
def textAt (s : ByteArray) (a b : List UInt8) (n : Nat) : List (List UInt8) := [leafT s, nodeT a b, rootT n a, headT s]
def sameAt (s t : ByteArray) (a b c d : List UInt8) (n m : Nat) : List Bool := [decide (s = t), decide (a = c) && decide (b = d), decide (n = m) && decide (a = c), decide (s = t)]
theorem toList_inj (x y : ByteArray) : x.toList = y.toList ↔ x = y := by rw [toList_data, toList_data]; exact data_inj x y
end Go.Av

set_option exponentiation.threshold 1000
set_option linter.unusedVariables false
set_option linter.unusedSimpArgs false
set_option maxRecDepth 100000
set_option maxHeartbeats 4000000
namespace Go.Av
open Go Go.Proofs Go.Proofs.Ytofomnllcmgfeaa Go.RowKit
/-! ### headers -/
structure HD where
  v : Nat
  a : H32
  b : H32
  n : Nat
def u32v (n : Nat) : C := .v (.int .u32 (n : Int))
def hdC (h : HD) : List C := u32v h.v :: (h.a.1.map bC8 ++ (h.b.1.map bC8 ++ [u64C h.n]))
def HDok (h : HD) : Prop := h.v < 4294967296 ∧ h.n < 18446744073709551616
def hdL (h : HD) : List UInt8 := putN h.v 4 ++ (h.a.1 ++ (h.b.1 ++ putN h.n 8))
def hdM (h : HD) : M := .agg (up (hdC h))
end Go.Av

set_option exponentiation.threshold 1000
set_option linter.unusedVariables false
set_option linter.unusedSimpArgs false
set_option maxRecDepth 100000
set_option maxHeartbeats 4000000
namespace Go.Av
open Go Go.Proofs Go.Proofs.Ytofomnllcmgfeaa Go.RowKit
/-! ### ident -/
def idL (h : HD) : List UInt8 := shaL (bsS (3 :: hdL h))
/-! ### lists of hashes -/
def hsC (l : List H32) : List C := l.flatMap fun h => h.1.map bC8
theorem hsC_len (l : List H32) : (hsC l).length = 32 * l.length := by
  have := flat_len (f := fun h : H32 => h.1.map bC8) (sz := 32) (fun h => by simp [h.2]) l
  unfold hsC
  omega
theorem flat_take {A B : Type} {f : A → List B} {sz : Nat} (hf : ∀ a, (f a).length = sz) (l : List A) : ∀ (i : Nat) (a : A), l[i]? = some a → ((l.flatMap f).drop (i * sz)).take sz = f a := by
  induction l with
  | nil => intro i a h; simp at h
  | cons x l ih =>
    intro i a h
    simp only [List.flatMap_cons]
    cases i with
    | zero =>
      simp at h
      subst h
      rw [Nat.zero_mul, List.drop_zero, List.take_append_of_le_length (by rw [hf]; exact Nat.le_refl _), List.take_of_length_le (by rw [hf]; exact Nat.le_refl _)]
    | succ i =>
      have hx := hf x
      rw [Nat.add_mul, Nat.one_mul, Nat.add_comm (i * sz) sz, ← List.drop_drop, List.drop_left' hx]
      exact ih i a (by simpa using h)
theorem hsC_at (l : List H32) (i : Nat) (h : H32) (hi : l[i]? = some h) : ((hsC l).drop (i * 32)).take 32 = h.1.map bC8 := flat_take (fun h => by simp [h.2]) l i h hi
def fstI : List H32 → List UInt8 → Nat → Int
  | [], _, _ => -1
  | x :: r, id, k => if x.1 = id then (k : Int) else fstI r id (k + 1)
theorem fstI_step (l : List H32) (id : List UInt8) (i : Nat) (h : H32) (hi : l[i]? = some h) : fstI (l.drop i) id i = if h.1 = id then (i : Int) else fstI (l.drop (i + 1)) id (i + 1) := by
  obtain ⟨hlt, rfl⟩ := List.getElem?_eq_some_iff.1 hi
  rw [List.drop_eq_getElem_cons hlt]
  rfl
set_option maxHeartbeats 2000000 in
theorem identFirst_den (l : List H32) (id : List UInt8) (hid : id.length = 32) (n : Nat) (full : Bool) (hn : l.length = n) (hN : n ≤ 1000000) :
    DenV Try.prog 81 [.c (.sl (hsC l) n full), hashM id] (.c (iC (fstI l id 0))) := by
  refine Den.frame (by simp [ltBs, ltB, lt_hash]) rfl ?_
  have hlen := hsC_len l
  have hat := hsC_at l
  have hst := fstI_step l id
  have t1 := hash_take id hid
  subst hn
  obtain ⟨res, hres⟩ : ∃ r, r = fstI l id 0 := ⟨_, rfl⟩
  rw [← hres]
  generalize hsC l = cs at *
  refine den_of Try.func81 rfl rfl (by simp [Try.ntmps81]) (fun X hX hO => ?_)
  rw [Try.ntmps81] at hX
  simp only [Try.results81]
  repeat' (first 
   | (with_reducible first | refine awp_scope ?_ | refine awp_seq ?_ | refine awp_block ?_)
   | ((with_reducible first | refine awp_label ?_ | refine awp_skip ?_); try simp only [thenA, inBlockA, noGotoA])
   | (with_reducible refine awp_exit ?_; simp only [thenA, inBlockA, noGotoA, if_true, Nat.reduceEqDiff, if_false, ↓reduceIte])
   | (with_reducible refine awp_ret ?_; (try simp only [thenA, inBlockA, noGotoA]); (try simp [-List.reduceReplicate, Nat.add_one_le_iff, -getElem?_pos, -getElem?_neg, List.getElem?_cons_zero, List.getElem?_cons_succ, hashM, hid, t1]))
   | ((with_reducible first | refine awp_reg 19 hX [0, 3, 4, 5, 6, 7, 8, 9, 10, 16] ?_ | change postOf _ _ _ _ _); simp [-List.reduceReplicate, Nat.add_one_le_iff, -getElem?_pos, -getElem?_neg, List.getElem?_cons_zero, List.getElem?_cons_succ, hashM, hid, t1])
   | (with_reducible refine awp_if_b rfl (fun hc => ?_) (fun hc => ?_) <;> (try simp [-getElem?_pos, -getElem?_neg] at hc) <;> (try (exfalso; omega)))
   | ((with_reducible first | refine GuardK_b (fun hc => ?_) (fun hc => ?_)) <;> (try simp only [Bool.not_eq_true', Bool.not_eq_false', decide_eq_true_eq, decide_eq_false_iff_not] at hc) <;> (first | (exfalso; omega) | skip) <;> simp [-List.reduceReplicate, Nat.add_one_le_iff, -getElem?_pos, -getElem?_neg, List.getElem?_cons_zero, List.getElem?_cons_succ, hashM, hid, t1, hc])
   | ((with_reducible first | refine hother _ _ rfl ?_); simp only [inBlockA, thenA, noGotoA, Nat.reduceEqDiff, if_false, if_true, ↓reduceIte])
   | (with_reducible refine And.intro (by omega) ?_)
   | fail)
  refine awp_forU [3, 7, 8, 9] (fun i (g : List Ob) => [(9, .c (iC i))]) (fun i (g : List Ob) => ⟨71, 1, false, 0, up (id.map bC8), none⟩ :: g) (fun i (g : List Ob) => (fstI (l.drop i) id i = res)) (l.length) ([]) ((by rw [hres]; rfl)) (by simp [-List.reduceReplicate, keep, iC, bC8]) (by simp [-List.reduceReplicate, iC, bC8]) ?_
  rintro i g Q1 hi hH next hother
  conv => arg 5; arg 1; simp only [List.cons_append, List.nil_append, keep, get, Nat.reduceEqDiff, if_true, if_false, ↓reduceIte]
  have hwi := wrap_in ((i : Int) + 1) (by omega)
  by_cases hlt : i < l.length
  · obtain ⟨h, hh⟩ : ∃ h, l[i]? = some h := ⟨_, List.getElem?_eq_getElem hlt⟩
    have ha := hat i h hh
    have hs := hst i h hh
    have hl2 := h.2
    have he := eq_hash h.1 id hl2 hid
    have t2 := hash_take h.1 hl2
    have hb : 32 ≤ cs.length - i * 32 := by omega
    have hb2 : i * 32 + 32 ≤ cs.length := by omega
    by_cases heq : h.1 = id
    · rw [if_pos heq] at hs
      have he1 := eq_hash1 id hid
      have hr : res = (i : Int) := by rw [← hH, hs]
      repeat' (first 
       | (with_reducible first | refine awp_scope ?_ | refine awp_seq ?_ | refine awp_block ?_)
       | ((with_reducible first | refine awp_label ?_ | refine awp_skip ?_); try simp only [thenA, inBlockA, noGotoA])
       | (with_reducible refine awp_exit ?_; simp only [thenA, inBlockA, noGotoA, if_true, Nat.reduceEqDiff, if_false, ↓reduceIte])
       | (with_reducible refine awp_ret ?_; (try simp only [thenA, inBlockA, noGotoA]); (try simp [-List.reduceReplicate, Nat.add_one_le_iff, -getElem?_pos, -getElem?_neg, List.getElem?_cons_zero, List.getElem?_cons_succ, iC, hlt, hwi, ha, hl2, he, he1, heq, t2, hb, hb2, hid, t1, hr]))
       | ((with_reducible first | refine awp_reg 19 hX [0, 3, 4, 5, 6, 7, 8, 9, 10, 16] ?_ | change postOf _ _ _ _ _); simp [-List.reduceReplicate, Nat.add_one_le_iff, -getElem?_pos, -getElem?_neg, List.getElem?_cons_zero, List.getElem?_cons_succ, iC, hlt, hwi, ha, hl2, he, he1, heq, t2, hb, hb2, hid, t1, hr])
       | (with_reducible refine awp_if_b rfl (fun hc => ?_) (fun hc => ?_) <;> (try simp [-getElem?_pos, -getElem?_neg] at hc) <;> (try (exfalso; omega)))
       | ((with_reducible first | refine GuardK_b (fun hc => ?_) (fun hc => ?_)) <;> (try simp only [Bool.not_eq_true', Bool.not_eq_false', decide_eq_true_eq, decide_eq_false_iff_not] at hc) <;> (first | (exfalso; omega) | skip) <;> simp [-List.reduceReplicate, Nat.add_one_le_iff, -getElem?_pos, -getElem?_neg, List.getElem?_cons_zero, List.getElem?_cons_succ, iC, hlt, hwi, ha, hl2, he, he1, heq, t2, hb, hb2, hid, t1, hr, hc])
       | ((with_reducible first | refine hother _ _ rfl ?_); simp only [inBlockA, thenA, noGotoA, Nat.reduceEqDiff, if_false, if_true, ↓reduceIte])
       | (with_reducible refine And.intro (by omega) ?_)
       | fail)
    · rw [if_neg heq] at hs
      have hH' : fstI (l.drop (i + 1)) id (i + 1) = res := by rw [← hs]; exact hH
      repeat' (first 
       | (with_reducible first | refine awp_scope ?_ | refine awp_seq ?_ | refine awp_block ?_)
       | ((with_reducible first | refine awp_label ?_ | refine awp_skip ?_); try simp only [thenA, inBlockA, noGotoA])
       | (with_reducible refine awp_exit ?_; simp only [thenA, inBlockA, noGotoA, if_true, Nat.reduceEqDiff, if_false, ↓reduceIte])
       | (with_reducible refine awp_ret ?_; (try simp only [thenA, inBlockA, noGotoA]); (try simp [-List.reduceReplicate, Nat.add_one_le_iff, -getElem?_pos, -getElem?_neg, List.getElem?_cons_zero, List.getElem?_cons_succ, iC, hlt, hwi, ha, hl2, he, heq, t2, hb, hb2, hid, t1]))
       | ((with_reducible first | refine awp_reg 19 hX [0, 3, 4, 5, 6, 7, 8, 9, 10, 16] ?_ | change postOf _ _ _ _ _); simp [-List.reduceReplicate, Nat.add_one_le_iff, -getElem?_pos, -getElem?_neg, List.getElem?_cons_zero, List.getElem?_cons_succ, iC, hlt, hwi, ha, hl2, he, heq, t2, hb, hb2, hid, t1])
       | (with_reducible refine awp_if_b rfl (fun hc => ?_) (fun hc => ?_) <;> (try simp [-getElem?_pos, -getElem?_neg] at hc) <;> (try (exfalso; omega)))
       | ((with_reducible first | refine GuardK_b (fun hc => ?_) (fun hc => ?_)) <;> (try simp only [Bool.not_eq_true', Bool.not_eq_false', decide_eq_true_eq, decide_eq_false_iff_not] at hc) <;> (first | (exfalso; omega) | skip) <;> simp [-List.reduceReplicate, Nat.add_one_le_iff, -getElem?_pos, -getElem?_neg, List.getElem?_cons_zero, List.getElem?_cons_succ, iC, hlt, hwi, ha, hl2, he, heq, t2, hb, hb2, hid, t1, hc])
       | ((with_reducible first | refine hother _ _ rfl ?_); simp only [inBlockA, thenA, noGotoA, Nat.reduceEqDiff, if_false, if_true, ↓reduceIte])
       | (with_reducible refine And.intro (by omega) ?_)
       | fail)
      refine next _ _ ((g ++ [⟨71, 1, false, 0, up (h.1.map bC8), none⟩])) (by omega) (by first | trivial | omega | assumption) (by simp [-List.reduceReplicate, keep, iC]) (by simp [-List.reduceReplicate, iC])
  · have hi2 : i = l.length := by omega
    have hr : res = -1 := by rw [← hH, hi2, List.drop_length]; rfl
    repeat' (first 
     | (with_reducible first | refine awp_scope ?_ | refine awp_seq ?_ | refine awp_block ?_)
     | ((with_reducible first | refine awp_label ?_ | refine awp_skip ?_); try simp only [thenA, inBlockA, noGotoA])
     | (with_reducible refine awp_exit ?_; simp only [thenA, inBlockA, noGotoA, if_true, Nat.reduceEqDiff, if_false, ↓reduceIte])
     | (with_reducible refine awp_ret ?_; (try simp only [thenA, inBlockA, noGotoA]); (try simp [-List.reduceReplicate, Nat.add_one_le_iff, -getElem?_pos, -getElem?_neg, List.getElem?_cons_zero, List.getElem?_cons_succ, iC, hlt, hr]))
     | ((with_reducible first | refine awp_reg 19 hX [0, 3, 4, 5, 6, 7, 8, 9, 10, 16] ?_ | change postOf _ _ _ _ _); simp [-List.reduceReplicate, Nat.add_one_le_iff, -getElem?_pos, -getElem?_neg, List.getElem?_cons_zero, List.getElem?_cons_succ, iC, hlt, hr])
     | (with_reducible refine awp_if_b rfl (fun hc => ?_) (fun hc => ?_) <;> (try simp [-getElem?_pos, -getElem?_neg] at hc) <;> (try (exfalso; omega)))
     | ((with_reducible first | refine GuardK_b (fun hc => ?_) (fun hc => ?_)) <;> (try simp only [Bool.not_eq_true', Bool.not_eq_false', decide_eq_true_eq, decide_eq_false_iff_not] at hc) <;> (first | (exfalso; omega) | skip) <;> simp [-List.reduceReplicate, Nat.add_one_le_iff, -getElem?_pos, -getElem?_neg, List.getElem?_cons_zero, List.getElem?_cons_succ, iC, hlt, hr, hc])
     | ((with_reducible first | refine hother _ _ rfl ?_); simp only [inBlockA, thenA, noGotoA, Nat.reduceEqDiff, if_false, if_true, ↓reduceIte])
     | (with_reducible refine And.intro (by omega) ?_)
     | fail)
end Go.Av

set_option exponentiation.threshold 1000
set_option linter.unusedVariables false
set_option linter.unusedSimpArgs false
set_option maxRecDepth 100000
set_option maxHeartbeats 4000000
namespace Go.Av
open Go Go.Proofs Go.Proofs.Ytofomnllcmgfeaa Go.RowKit
/-! ### ident: lists of headers -/
def hdsC (l : List HD) : List C := l.flatMap hdC
def idH (h : HD) : H32 := ⟨idL h, shaL_len _⟩
def idsTo (l : List HD) (i : Nat) : List C := hsC ((l.take i).map idH)
end Go.Av

set_option exponentiation.threshold 1000
set_option linter.unusedVariables false
set_option linter.unusedSimpArgs false
set_option maxRecDepth 100000
set_option maxHeartbeats 4000000
namespace Go.Av
open Go Go.Proofs Go.Proofs.Ytofomnllcmgfeaa Go.RowKit
def Z32 : H32 := ⟨List.replicate 32 0, by simp⟩
def H0 : HD := ⟨0, Z32, Z32, 0⟩
def H1 : HD := ⟨0, Z32, Z32, 1⟩
end Go.Av

set_option exponentiation.threshold 1000
set_option linter.unusedVariables false
set_option linter.unusedSimpArgs false
set_option maxRecDepth 100000
set_option maxHeartbeats 4000000
namespace Go.Av
open Go Go.Proofs Go.Proofs.Ytofomnllcmgfeaa Go.RowKit
theorem opens_hashes {P : Program} {t e b : TypeId} (ht : P.underlying t = some (.slice e)) (he : P.underlying e = some (.array 32 b)) (hb : P.underlying b = some (.int .u8)) (hc : P.cellsOf b = 1) (hce : P.cellsOf e = 32) :
    Opens P t (fun l : List H32 => [.sl (hsC l) l.length false]) (fun l => l.length ≤ maxLen ∧ ∀ a ∈ l, True) :=
  opens_slice ht (fun a => by rw [hce, List.length_map]; exact a.2) (opens_hash he hb hc hce)
end Go.Av

set_option exponentiation.threshold 1000
set_option linter.unusedVariables false
set_option linter.unusedSimpArgs false
set_option maxRecDepth 100000
set_option maxHeartbeats 4000000
namespace Go.Av
open Go Go.Proofs Go.Proofs.Ytofomnllcmgfeaa Go.RowKit
/-! ### ident: the laws -/
end Go.Av

set_option exponentiation.threshold 1000
set_option linter.unusedVariables false
set_option linter.unusedSimpArgs false
set_option maxRecDepth 100000
set_option maxHeartbeats 4000000
namespace Go.Av
open Go Go.Proofs Go.Proofs.Ytofomnllcmgfeaa Go.RowKit
/-! ### score, common, duel -/
open Go.Av.Up (pl hit)
def cntN (zs : List Int) (lv : Nat) : Nat := (plI zs 0 lv).length
theorem cntN_le (zs : List Int) (lv : Nat) : cntN zs lv ≤ zs.length := plI_len _ _ _
def valN (zs : List Int) (lv : Nat) : Nat := cntN zs lv * 2 ^ lv
def mayN (zs : List Int) (lv : Nat) (m : Int) : Bool := decide (lv = 0) || decide (m ≤ (cntN zs lv : Int))
def bestN (zs : List Int) (m : Int) : Nat → Nat × Nat
  | 0 => (0, 0)
  | lv + 1 => if mayN zs lv m = true ∧ (bestN zs m lv).1 < valN zs lv then (valN zs lv, lv) else bestN zs m lv
theorem valN_lt (zs : List Int) (lv : Nat) (h : zs.length ≤ 1000000) (hl : lv ≤ 255) : valN zs lv < 2 ^ (64 * 5) := by
  have h1 : valN zs lv ≤ 2 ^ 20 * 2 ^ 255 := Nat.mul_le_mul (by have := cntN_le zs lv; omega) (Nat.pow_le_pow_right (by decide) hl)
  rw [← Nat.pow_add] at h1
  exact Nat.lt_of_le_of_lt h1 (Nat.pow_lt_pow_right (by decide) (by decide))
theorem bestN_lt (zs : List Int) (m : Int) (h : zs.length ≤ 1000000) : ∀ k, k ≤ 256 → (bestN zs m k).1 < 2 ^ (64 * 5)
  | 0, _ => by simp only [bestN]; exact Nat.two_pow_pos _
  | k + 1, hk => by
    unfold bestN
    split
    · exact valN_lt zs k h (by omega)
    · exact bestN_lt zs m h k (by omega)
def limL (x : Nat) : List C := [u64C (lim x 0), u64C (lim x 1), u64C (lim x 2), u64C (lim x 3), u64C (lim x 4)]
theorem limL_eq (x : Nat) : limC 5 x = limL x := by simp [limC, limL, List.range_succ]
theorem lims_eq {x y : Nat} (hx : x < 2 ^ (64 * 5)) (hy : y < 2 ^ (64 * 5)) (h0 : lim x 0 = lim y 0) (h1 : lim x 1 = lim y 1) (h2 : lim x 2 = lim y 2) (h3 : lim x 3 = lim y 3) (h4 : lim x 4 = lim y 4) : x = y := by
  have e5 : x / 2 ^ (64 * (4 + 1)) = y / 2 ^ (64 * (4 + 1)) := by rw [Nat.div_eq_of_lt hx, Nat.div_eq_of_lt hy]
  have e := lim_eq_of (lim_eq_of (lim_eq_of (lim_eq_of (lim_eq_of e5 h4) h3) h2) h1) h0
  simpa using e
set_option maxHeartbeats 4000000 in
theorem value_den (zs : List Int) (lv : Nat) (full : Bool) (hl : lv ≤ 255) (hn : zs.length ≤ 1000000) : DenV Try.prog 82 [.c (.sl (zs.map iC) zs.length full), .c (iC lv)] (largeM (valN zs lv)) := by
  refine Den.frame rfl (by simp [largeM, ltB]) ?_
  have p1 := count_den zs lv full hn
  have hc := cntN_le zs lv
  have p2 := of_den (cntN zs lv) (by omega)
  have hv := valN_lt zs lv hn hl
  have p3 := shl_den (cntN zs lv) lv (Nat.lt_of_le_of_lt (show cntN zs lv ≤ 2 ^ 20 by omega) (Nat.pow_lt_pow_right (by decide) (by decide))) hv (by omega)
  have e : (plI zs 0 lv).length = cntN zs lv := rfl
  rw [e] at p1
  have ev : cntN zs lv * 2 ^ lv = valN zs lv := rfl
  rw [ev] at p3
  clear e ev
  unfold largeM at *
  have l1 := limC_len 5 (cntN zs lv)
  have l2 := limC_len 5 (valN zs lv)
  have t2 : (limC 5 (valN zs lv)).take 5 = limC 5 (valN zs lv) := List.take_of_length_le (by omega)
  generalize limC 5 (valN zs lv) = cv at *
  generalize limC 5 (cntN zs lv) = cc at *
  generalize cntN zs lv = c at *
  have w1 := wrapU64 (c : Int) (by omega)
  have i1 : ¬ (lv : Int) < 0 := by omega
  have i2 : ¬ (255 : Int) < lv := by omega
  refine den_of Try.func82 rfl rfl (by simp [Try.ntmps82]) (fun X hX hO => ?_)
  rw [Try.ntmps82] at hX
  simp only [Try.results82]
  repeat' (first 
   | (with_reducible first | refine awp_scope ?_ | refine awp_seq ?_ | refine awp_block ?_)
   | ((with_reducible first | refine awp_label ?_ | refine awp_skip ?_); try simp only [thenA, inBlockA, noGotoA])
   | (with_reducible refine awp_exit ?_; simp only [thenA, inBlockA, noGotoA, if_true, Nat.reduceEqDiff, if_false, ↓reduceIte])
   | (with_reducible refine awp_ret ?_; (try simp only [thenA, inBlockA, noGotoA]); (try simp [-List.reduceReplicate, Nat.add_one_le_iff, -getElem?_pos, -getElem?_neg, List.getElem?_cons_zero, List.getElem?_cons_succ, iC, bC, u64C, w1, i1, i2, l1, l2, t2]))
   | ((with_reducible first | refine awp_reg 25 hX [0, 1, 4, 5, 12] ?_ | change postOf _ _ _ _ _); simp [-List.reduceReplicate, Nat.add_one_le_iff, -getElem?_pos, -getElem?_neg, List.getElem?_cons_zero, List.getElem?_cons_succ, iC, bC, u64C, w1, i1, i2, l1, l2, t2])
   | ((first | (refine (p1 _).det ?_) | (refine (p2 _).det ?_) | (refine (p3 _).det ?_)); try simp [-List.reduceReplicate, Nat.add_one_le_iff, -getElem?_pos, -getElem?_neg, List.getElem?_cons_zero, List.getElem?_cons_succ, iC, bC, u64C, w1, i1, i2, l1, l2, t2])
   | (with_reducible refine awp_if_b rfl (fun hc => ?_) (fun hc => ?_) <;> (try simp [-getElem?_pos, -getElem?_neg] at hc) <;> (try (exfalso; omega)))
   | ((with_reducible first | refine GuardK_b (fun hc => ?_) (fun hc => ?_)) <;> (try simp only [Bool.not_eq_true', Bool.not_eq_false', decide_eq_true_eq, decide_eq_false_iff_not] at hc) <;> (first | (exfalso; omega) | skip) <;> simp [-List.reduceReplicate, Nat.add_one_le_iff, -getElem?_pos, -getElem?_neg, List.getElem?_cons_zero, List.getElem?_cons_succ, iC, bC, u64C, w1, i1, i2, l1, l2, t2, hc])
   | (with_reducible refine And.intro (by omega) ?_)
   | fail)
set_option maxHeartbeats 4000000 in
theorem may_den (zs : List Int) (lv : Nat) (m : Int) (full : Bool) (hl : lv ≤ 255) (hn : zs.length ≤ 1000000) : DenV Try.prog 83 [.c (.sl (zs.map iC) zs.length full), .c (iC lv), .c (iC m)] (.c (bC (mayN zs lv m))) := by
  refine Den.frame rfl rfl ?_
  have p1 := count_den zs lv full hn
  have e : (plI zs 0 lv).length = cntN zs lv := rfl
  rw [e] at p1
  unfold mayN
  generalize cntN zs lv = c at *
  refine den_of Try.func83 rfl rfl (by simp [Try.ntmps83]) (fun X hX hO => ?_)
  rw [Try.ntmps83] at hX
  simp only [Try.results83]
  by_cases h0 : lv = 0
  · subst h0
    repeat' (first 
     | (with_reducible first | refine awp_scope ?_ | refine awp_seq ?_ | refine awp_block ?_)
     | ((with_reducible first | refine awp_label ?_ | refine awp_skip ?_); try simp only [thenA, inBlockA, noGotoA])
     | (with_reducible refine awp_exit ?_; simp only [thenA, inBlockA, noGotoA, if_true, Nat.reduceEqDiff, if_false, ↓reduceIte])
     | (with_reducible refine awp_ret ?_; (try simp only [thenA, inBlockA, noGotoA]); (try simp [-List.reduceReplicate, Nat.add_one_le_iff, -getElem?_pos, -getElem?_neg, List.getElem?_cons_zero, List.getElem?_cons_succ, iC, bC]))
     | ((with_reducible first | refine awp_reg 24 hX [0, 1, 2, 6] ?_ | change postOf _ _ _ _ _); simp [-List.reduceReplicate, Nat.add_one_le_iff, -getElem?_pos, -getElem?_neg, List.getElem?_cons_zero, List.getElem?_cons_succ, iC, bC])
     | (with_reducible refine awp_if_b rfl (fun hc => ?_) (fun hc => ?_) <;> (try simp [-getElem?_pos, -getElem?_neg] at hc) <;> (try (exfalso; omega)))
     | ((with_reducible first | refine GuardK_b (fun hc => ?_) (fun hc => ?_)) <;> (try simp only [Bool.not_eq_true', Bool.not_eq_false', decide_eq_true_eq, decide_eq_false_iff_not] at hc) <;> (first | (exfalso; omega) | skip) <;> simp [-List.reduceReplicate, Nat.add_one_le_iff, -getElem?_pos, -getElem?_neg, List.getElem?_cons_zero, List.getElem?_cons_succ, iC, bC, hc])
     | (with_reducible refine And.intro (by omega) ?_)
     | fail)
  · have i0 : 0 < lv := by omega
    have i1 : ¬ (lv : Int) = 0 := by omega
    have i2 : (0 : Int) < lv := by omega
    have i3 : (lv : Int) ≤ 255 := by omega
    repeat' (first 
     | (with_reducible first | refine awp_scope ?_ | refine awp_seq ?_ | refine awp_block ?_)
     | ((with_reducible first | refine awp_label ?_ | refine awp_skip ?_); try simp only [thenA, inBlockA, noGotoA])
     | (with_reducible refine awp_exit ?_; simp only [thenA, inBlockA, noGotoA, if_true, Nat.reduceEqDiff, if_false, ↓reduceIte])
     | (with_reducible refine awp_ret ?_; (try simp only [thenA, inBlockA, noGotoA]); (try simp [-List.reduceReplicate, Nat.add_one_le_iff, -getElem?_pos, -getElem?_neg, List.getElem?_cons_zero, List.getElem?_cons_succ, iC, bC, h0, i0, i1, i2, i3]))
     | ((with_reducible first | refine awp_reg 24 hX [0, 1, 2, 6] ?_ | change postOf _ _ _ _ _); simp [-List.reduceReplicate, Nat.add_one_le_iff, -getElem?_pos, -getElem?_neg, List.getElem?_cons_zero, List.getElem?_cons_succ, iC, bC, h0, i0, i1, i2, i3])
     | ((first | (refine (p1 _).det ?_)); try simp [-List.reduceReplicate, Nat.add_one_le_iff, -getElem?_pos, -getElem?_neg, List.getElem?_cons_zero, List.getElem?_cons_succ, iC, bC, h0, i0, i1, i2, i3])
     | (with_reducible refine awp_if_b rfl (fun hc => ?_) (fun hc => ?_) <;> (try simp [-getElem?_pos, -getElem?_neg] at hc) <;> (try (exfalso; omega)))
     | ((with_reducible first | refine GuardK_b (fun hc => ?_) (fun hc => ?_)) <;> (try simp only [Bool.not_eq_true', Bool.not_eq_false', decide_eq_true_eq, decide_eq_false_iff_not] at hc) <;> (first | (exfalso; omega) | skip) <;> simp [-List.reduceReplicate, Nat.add_one_le_iff, -getElem?_pos, -getElem?_neg, List.getElem?_cons_zero, List.getElem?_cons_succ, iC, bC, h0, i0, i1, i2, i3, hc])
     | (with_reducible refine And.intro (by omega) ?_)
     | fail)
theorem eq_score (x y : Nat) (l k : Int) (hx : x < 2 ^ (64 * 5)) (hy : y < 2 ^ (64 * 5)) : eqM (List.replicate 6 0) (up (limL x ++ [iC l])) (up (limL y ++ [iC k])) = some (decide (x = y ∧ l = k)) := by
  have h : (x = y ∧ l = k) ↔ (lim x 0 = lim y 0 ∧ lim x 1 = lim y 1 ∧ lim x 2 = lim y 2 ∧ lim x 3 = lim y 3 ∧ lim x 4 = lim y 4 ∧ l = k) := by
    constructor
    · rintro ⟨rfl, rfl⟩; exact ⟨rfl, rfl, rfl, rfl, rfl, rfl⟩
    · rintro ⟨h0, h1, h2, h3, h4, h5⟩; exact ⟨lims_eq hx hy h0 h1 h2 h3 h4, h5⟩
  have hd : decide (x = y ∧ l = k) = decide (lim x 0 = lim y 0 ∧ lim x 1 = lim y 1 ∧ lim x 2 = lim y 2 ∧ lim x 3 = lim y 3 ∧ lim x 4 = lim y 4 ∧ l = k) := decide_eq_decide.2 h
  rw [hd]
  simp [limL, up, u64C, iC, Int.natCast_inj, Bool.decide_and]
def scoreC (p : Nat × Nat) : List C := limL p.1 ++ [iC p.2]
set_option maxHeartbeats 4000000 in
theorem best_den (zs : List Int) (m : Int) (full : Bool) (hn : zs.length ≤ 1000000) : DenV Try.prog 65 [.c (.sl (zs.map iC) zs.length full), .c (iC m)] (.agg (up (scoreC (bestN zs m 256)))) := by
  refine Den.frame rfl (by simp [ltB]) ?_
  have hb : ∀ k, bestN zs m (k + 1) = if mayN zs k m = true ∧ (bestN zs m k).1 < valN zs k then (valN zs k, k) else bestN zs m k := fun _ => rfl
  have hb0 : bestN zs m 0 = (0, 0) := rfl
  have hlt := bestN_lt zs m hn
  have hvl := fun k (h : k ≤ 255) => valN_lt zs k hn h
  have pm := fun k (h : k ≤ 255) => may_den zs k m full h hn
  have pv := fun k (h : k ≤ 255) => value_den zs k full h hn
  have hs0 : scoreC (0, 0) = [C.v (.int .u64 0), C.v (.int .u64 0), C.v (.int .u64 0), C.v (.int .u64 0), C.v (.int .u64 0), C.v (.int .i64 0)] := by simp [scoreC, limL, lim, u64C, iC]
  have es := eq_score
  have l6 : ∀ x l, (limL x ++ [iC l]).length = 6 := fun _ _ => rfl
  have l5 : ∀ x, (limL x).length = 5 := fun _ => rfl
  have t6 : ∀ x l, (limL x ++ [iC l]).take 6 = limL x ++ [iC l] := fun _ _ => rfl
  have t5 : ∀ x l, (limL x ++ [iC l]).take 5 = limL x := fun _ _ => rfl
  have cm := fun x y hx hy => cmp_den x y hx hy
  have ly : ∀ x, lay [M.c (C.v (.int .u64 0)), M.c (C.v (.int .u64 0)), M.c (C.v (.int .u64 0)), M.c (C.v (.int .u64 0)), M.c (C.v (.int .u64 0)), M.c (C.v (.int .i64 0))] 0 (up (limL x)) = up (limL x ++ [C.v (.int .i64 0)]) := fun _ => rfl
  have st : ∀ x l, (up (limL x ++ [C.v (.int .i64 0)])).set 5 (M.c (C.v (.int .i64 l))) = up (limL x ++ [C.v (.int .i64 l)]) := fun _ _ => rfl
  have hz : List.map M.c (limL 0) = [M.c (C.v (.int .u64 0)), M.c (C.v (.int .u64 0)), M.c (C.v (.int .u64 0)), M.c (C.v (.int .u64 0)), M.c (C.v (.int .u64 0))] := by simp [limL, lim, u64C]
  unfold largeM at *
  simp only [limL_eq, scoreC] at *
  generalize bestN zs m = f at *
  generalize valN zs = vf at *
  refine den_of Try.func65 rfl rfl (by simp [Try.ntmps65]) (fun X hX hO => ?_)
  rw [Try.ntmps65] at hX
  simp only [Try.results65]
  repeat' (first 
   | (with_reducible first | refine awp_scope ?_ | refine awp_seq ?_ | refine awp_block ?_)
   | ((with_reducible first | refine awp_label ?_ | refine awp_skip ?_); try simp only [thenA, inBlockA, noGotoA])
   | (with_reducible refine awp_exit ?_; simp only [thenA, inBlockA, noGotoA, if_true, Nat.reduceEqDiff, if_false, ↓reduceIte])
   | (with_reducible refine awp_ret ?_; (try simp only [thenA, inBlockA, noGotoA]); (try simp [-List.reduceReplicate, Nat.add_one_le_iff, -getElem?_pos, -getElem?_neg, List.getElem?_cons_zero, List.getElem?_cons_succ, iC]))
   | ((with_reducible first | refine awp_reg 35 hX [0, 1, 4, 5, 6, 7, 8, 9, 25, 31] ?_ | change postOf _ _ _ _ _); simp [-List.reduceReplicate, Nat.add_one_le_iff, -getElem?_pos, -getElem?_neg, List.getElem?_cons_zero, List.getElem?_cons_succ, iC])
   | (with_reducible refine awp_if_b rfl (fun hc => ?_) (fun hc => ?_) <;> (try simp [-getElem?_pos, -getElem?_neg] at hc) <;> (try (exfalso; omega)))
   | ((with_reducible first | refine GuardK_b (fun hc => ?_) (fun hc => ?_)) <;> (try simp only [Bool.not_eq_true', Bool.not_eq_false', decide_eq_true_eq, decide_eq_false_iff_not] at hc) <;> (first | (exfalso; omega) | skip) <;> simp [-List.reduceReplicate, Nat.add_one_le_iff, -getElem?_pos, -getElem?_neg, List.getElem?_cons_zero, List.getElem?_cons_succ, iC, hc])
   | ((with_reducible first | refine hother _ _ rfl ?_); simp only [inBlockA, thenA, noGotoA, Nat.reduceEqDiff, if_false, if_true, ↓reduceIte])
   | (with_reducible refine And.intro (by omega) ?_)
   | fail)
  refine awp_forU [0, 1, 4, 5, 8] (fun k (g : List Ob) => [(8, .c (iC k))]) (fun k (g : List Ob) => [⟨52, 1, false, 0, up (limL 0 ++ [iC 0]), none⟩, ⟨52, 1, false, 0, up (limL (f k).1 ++ [iC (f k).2]), none⟩] ++ g) (fun k (g : List Ob) => True) (256) ([]) (by first | trivial | (simp; done) | omega | (intros; simp at *; done)) (by simp [-List.reduceReplicate, keep, iC, hb0, hz, up]) (by simp [-List.reduceReplicate, iC, hb0, hz, up]) ?_
  rintro k g Q1 hi hH next hother
  conv => arg 5; arg 1; simp only [List.cons_append, List.nil_append, keep, get, Nat.reduceEqDiff, if_true, if_false, ↓reduceIte]
  have hwk := wrap_in ((k : Int) + 1) (by omega)
  by_cases hk : k < 256
  · have qv := pv k (by omega)
    have qm := pm k (by omega)
    have bk := hb k
    have hk2 : (k : Int) < 256 := by omega
    have e1 := es (vf k) (f k).1 k (f k).2 (hvl k (by omega)) (hlt k (by omega))
    have c1 := cm (vf k) (f k).1 (hvl k (by omega)) (hlt k (by omega))
    obtain ⟨bv, hbv⟩ : ∃ x, (f k).1 = x := ⟨_, rfl⟩
    obtain ⟨bl', hbl⟩ : ∃ x, (f k).2 = x := ⟨_, rfl⟩
    rw [hbv, hbl] at e1 ⊢
    rw [hbv] at c1 bk
    generalize vf k = v at *
    unfold iC at e1 t6 t5 l6
    by_cases hq : v = bv ∧ (k : Int) = (bl' : Int)
    · have fk : f (k + 1) = f k := by rw [bk, if_neg (by intro h; omega)]
      obtain ⟨hq1, hq2⟩ := hq
      have hq3 : k = bl' := by omega
      subst hq1 hq3
      simp only [and_self, decide_true] at e1
      repeat' (first 
       | (with_reducible first | refine awp_scope ?_ | refine awp_seq ?_ | refine awp_block ?_)
       | ((with_reducible first | refine awp_label ?_ | refine awp_skip ?_); try simp only [thenA, inBlockA, noGotoA])
       | (with_reducible refine awp_exit ?_; simp only [thenA, inBlockA, noGotoA, if_true, Nat.reduceEqDiff, if_false, ↓reduceIte])
       | (with_reducible refine awp_ret ?_; (try simp only [thenA, inBlockA, noGotoA]); (try simp [-List.reduceReplicate, Nat.add_one_le_iff, -getElem?_pos, -getElem?_neg, List.getElem?_cons_zero, List.getElem?_cons_succ, iC, bC, hk2, l5, l6, t5, t6, ly, st, e1, hwk]))
       | ((with_reducible first | refine awp_reg 35 hX [0, 1, 4, 5, 6, 7, 8, 9, 25, 31] ?_ | change postOf _ _ _ _ _); simp [-List.reduceReplicate, Nat.add_one_le_iff, -getElem?_pos, -getElem?_neg, List.getElem?_cons_zero, List.getElem?_cons_succ, iC, bC, hk2, l5, l6, t5, t6, ly, st, e1, hwk])
       | ((first | (refine (qv _).det ?_) | (refine (qm _).det ?_) | (refine (c1 _).det ?_)); try simp [-List.reduceReplicate, Nat.add_one_le_iff, -getElem?_pos, -getElem?_neg, List.getElem?_cons_zero, List.getElem?_cons_succ, iC, bC, hk2, l5, l6, t5, t6, ly, st, e1, hwk])
       | (with_reducible refine awp_if_b rfl (fun hc => ?_) (fun hc => ?_) <;> (try simp [-getElem?_pos, -getElem?_neg] at hc) <;> (try (exfalso; omega)))
       | ((with_reducible first | refine GuardK_b (fun hc => ?_) (fun hc => ?_)) <;> (try simp only [Bool.not_eq_true', Bool.not_eq_false', decide_eq_true_eq, decide_eq_false_iff_not] at hc) <;> (first | (exfalso; omega) | skip) <;> simp [-List.reduceReplicate, Nat.add_one_le_iff, -getElem?_pos, -getElem?_neg, List.getElem?_cons_zero, List.getElem?_cons_succ, iC, bC, hk2, l5, l6, t5, t6, ly, st, e1, hwk, hc])
       | ((with_reducible first | refine hother _ _ rfl ?_); simp only [inBlockA, thenA, noGotoA, Nat.reduceEqDiff, if_false, if_true, ↓reduceIte])
       | (with_reducible refine And.intro (by omega) ?_)
       | fail)
      refine next _ _ (g ++ [⟨52, 1, false, 0, up (limL v ++ [iC k]), none⟩]) (by omega) (by first | trivial | omega | assumption) (by simp [-List.reduceReplicate, keep, iC, fk, hbv, hbl]) (by simp [-List.reduceReplicate, iC, fk, hbv, hbl])
    · simp only [hq, decide_false] at e1
      cases hm : mayN zs k m
      · have fk : f (k + 1) = f k := by rw [bk, if_neg (by rw [hm]; intro h; simp at h)]
        rw [hm] at qm
        repeat' (first 
         | (with_reducible first | refine awp_scope ?_ | refine awp_seq ?_ | refine awp_block ?_)
         | ((with_reducible first | refine awp_label ?_ | refine awp_skip ?_); try simp only [thenA, inBlockA, noGotoA])
         | (with_reducible refine awp_exit ?_; simp only [thenA, inBlockA, noGotoA, if_true, Nat.reduceEqDiff, if_false, ↓reduceIte])
         | (with_reducible refine awp_ret ?_; (try simp only [thenA, inBlockA, noGotoA]); (try simp [-List.reduceReplicate, Nat.add_one_le_iff, -getElem?_pos, -getElem?_neg, List.getElem?_cons_zero, List.getElem?_cons_succ, iC, bC, hk2, l5, l6, t5, t6, ly, st, e1, hwk]))
         | ((with_reducible first | refine awp_reg 35 hX [0, 1, 4, 5, 6, 7, 8, 9, 25, 31] ?_ | change postOf _ _ _ _ _); simp [-List.reduceReplicate, Nat.add_one_le_iff, -getElem?_pos, -getElem?_neg, List.getElem?_cons_zero, List.getElem?_cons_succ, iC, bC, hk2, l5, l6, t5, t6, ly, st, e1, hwk])
         | ((first | (refine (qv _).det ?_) | (refine (qm _).det ?_) | (refine (c1 _).det ?_)); try simp [-List.reduceReplicate, Nat.add_one_le_iff, -getElem?_pos, -getElem?_neg, List.getElem?_cons_zero, List.getElem?_cons_succ, iC, bC, hk2, l5, l6, t5, t6, ly, st, e1, hwk])
         | (with_reducible refine awp_if_b rfl (fun hc => ?_) (fun hc => ?_) <;> (try simp [-getElem?_pos, -getElem?_neg] at hc) <;> (try (exfalso; omega)))
         | ((with_reducible first | refine GuardK_b (fun hc => ?_) (fun hc => ?_)) <;> (try simp only [Bool.not_eq_true', Bool.not_eq_false', decide_eq_true_eq, decide_eq_false_iff_not] at hc) <;> (first | (exfalso; omega) | skip) <;> simp [-List.reduceReplicate, Nat.add_one_le_iff, -getElem?_pos, -getElem?_neg, List.getElem?_cons_zero, List.getElem?_cons_succ, iC, bC, hk2, l5, l6, t5, t6, ly, st, e1, hwk, hc])
         | ((with_reducible first | refine hother _ _ rfl ?_); simp only [inBlockA, thenA, noGotoA, Nat.reduceEqDiff, if_false, if_true, ↓reduceIte])
         | (with_reducible refine And.intro (by omega) ?_)
         | fail)
        refine next _ _ (g ++ [⟨52, 1, false, 0, up (limL v ++ [iC k]), none⟩]) (by omega) (by first | trivial | omega | assumption) (by simp [-List.reduceReplicate, keep, iC, fk, hbv, hbl]) (by simp [-List.reduceReplicate, iC, fk, hbv, hbl])
      · rw [hm] at qm
        by_cases hlt : bv < v
        · have fk : f (k + 1) = (v, k) := by rw [bk, if_pos ⟨hm, hlt⟩]
          rw [cmpN_gt hlt] at c1
          repeat' (first 
           | (with_reducible first | refine awp_scope ?_ | refine awp_seq ?_ | refine awp_block ?_)
           | ((with_reducible first | refine awp_label ?_ | refine awp_skip ?_); try simp only [thenA, inBlockA, noGotoA])
           | (with_reducible refine awp_exit ?_; simp only [thenA, inBlockA, noGotoA, if_true, Nat.reduceEqDiff, if_false, ↓reduceIte])
           | (with_reducible refine awp_ret ?_; (try simp only [thenA, inBlockA, noGotoA]); (try simp [-List.reduceReplicate, Nat.add_one_le_iff, -getElem?_pos, -getElem?_neg, List.getElem?_cons_zero, List.getElem?_cons_succ, iC, bC, hk2, l5, l6, t5, t6, ly, st, e1, hwk]))
           | ((with_reducible first | refine awp_reg 35 hX [0, 1, 4, 5, 6, 7, 8, 9, 25, 31] ?_ | change postOf _ _ _ _ _); simp [-List.reduceReplicate, Nat.add_one_le_iff, -getElem?_pos, -getElem?_neg, List.getElem?_cons_zero, List.getElem?_cons_succ, iC, bC, hk2, l5, l6, t5, t6, ly, st, e1, hwk])
           | ((first | (refine (qv _).det ?_) | (refine (qm _).det ?_) | (refine (c1 _).det ?_)); try simp [-List.reduceReplicate, Nat.add_one_le_iff, -getElem?_pos, -getElem?_neg, List.getElem?_cons_zero, List.getElem?_cons_succ, iC, bC, hk2, l5, l6, t5, t6, ly, st, e1, hwk])
           | (with_reducible refine awp_if_b rfl (fun hc => ?_) (fun hc => ?_) <;> (try simp [-getElem?_pos, -getElem?_neg] at hc) <;> (try (exfalso; omega)))
           | ((with_reducible first | refine GuardK_b (fun hc => ?_) (fun hc => ?_)) <;> (try simp only [Bool.not_eq_true', Bool.not_eq_false', decide_eq_true_eq, decide_eq_false_iff_not] at hc) <;> (first | (exfalso; omega) | skip) <;> simp [-List.reduceReplicate, Nat.add_one_le_iff, -getElem?_pos, -getElem?_neg, List.getElem?_cons_zero, List.getElem?_cons_succ, iC, bC, hk2, l5, l6, t5, t6, ly, st, e1, hwk, hc])
           | ((with_reducible first | refine hother _ _ rfl ?_); simp only [inBlockA, thenA, noGotoA, Nat.reduceEqDiff, if_false, if_true, ↓reduceIte])
           | (with_reducible refine And.intro (by omega) ?_)
           | fail)
          refine next _ _ (g ++ [⟨52, 1, false, 0, up (limL v ++ [iC k]), none⟩]) (by omega) (by first | trivial | omega | assumption) (by simp [-List.reduceReplicate, keep, iC, fk]) (by simp [-List.reduceReplicate, iC, fk])
        · have fk : f (k + 1) = f k := by rw [bk, if_neg (by intro h; omega)]
          have hc : ¬ 0 < cmpN v bv := by unfold cmpN; split <;> (first | omega | (rw [if_neg hlt]; omega))
          repeat' (first 
           | (with_reducible first | refine awp_scope ?_ | refine awp_seq ?_ | refine awp_block ?_)
           | ((with_reducible first | refine awp_label ?_ | refine awp_skip ?_); try simp only [thenA, inBlockA, noGotoA])
           | (with_reducible refine awp_exit ?_; simp only [thenA, inBlockA, noGotoA, if_true, Nat.reduceEqDiff, if_false, ↓reduceIte])
           | (with_reducible refine awp_ret ?_; (try simp only [thenA, inBlockA, noGotoA]); (try simp [-List.reduceReplicate, Nat.add_one_le_iff, -getElem?_pos, -getElem?_neg, List.getElem?_cons_zero, List.getElem?_cons_succ, iC, bC, hk2, l5, l6, t5, t6, ly, st, e1, hwk, hc]))
           | ((with_reducible first | refine awp_reg 35 hX [0, 1, 4, 5, 6, 7, 8, 9, 25, 31] ?_ | change postOf _ _ _ _ _); simp [-List.reduceReplicate, Nat.add_one_le_iff, -getElem?_pos, -getElem?_neg, List.getElem?_cons_zero, List.getElem?_cons_succ, iC, bC, hk2, l5, l6, t5, t6, ly, st, e1, hwk, hc])
           | ((first | (refine (qv _).det ?_) | (refine (qm _).det ?_) | (refine (c1 _).det ?_)); try simp [-List.reduceReplicate, Nat.add_one_le_iff, -getElem?_pos, -getElem?_neg, List.getElem?_cons_zero, List.getElem?_cons_succ, iC, bC, hk2, l5, l6, t5, t6, ly, st, e1, hwk, hc])
           | (with_reducible refine awp_if_b rfl (fun hc => ?_) (fun hc => ?_) <;> (try simp [-getElem?_pos, -getElem?_neg] at hc) <;> (try (exfalso; omega)))
           | ((with_reducible first | refine GuardK_b (fun hc => ?_) (fun hc => ?_)) <;> (try simp only [Bool.not_eq_true', Bool.not_eq_false', decide_eq_true_eq, decide_eq_false_iff_not] at hc) <;> (first | (exfalso; omega) | skip) <;> simp [-List.reduceReplicate, Nat.add_one_le_iff, -getElem?_pos, -getElem?_neg, List.getElem?_cons_zero, List.getElem?_cons_succ, iC, bC, hk2, l5, l6, t5, t6, ly, st, e1, hwk, hc, hc])
           | ((with_reducible first | refine hother _ _ rfl ?_); simp only [inBlockA, thenA, noGotoA, Nat.reduceEqDiff, if_false, if_true, ↓reduceIte])
           | (with_reducible refine And.intro (by omega) ?_)
           | fail)
          refine next _ _ (g ++ [⟨52, 1, false, 0, up (limL v ++ [iC k]), none⟩]) (by omega) (by first | trivial | omega | assumption) (by simp [-List.reduceReplicate, keep, iC, fk, hbv, hbl]) (by simp [-List.reduceReplicate, iC, fk, hbv, hbl])
  · have hk3 : k = 256 := by omega
    subst hk3
    have t6' := t6
    unfold iC at t6 t6' l6 ⊢
    repeat' (first 
     | (with_reducible first | refine awp_scope ?_ | refine awp_seq ?_ | refine awp_block ?_)
     | ((with_reducible first | refine awp_label ?_ | refine awp_skip ?_); try simp only [thenA, inBlockA, noGotoA])
     | (with_reducible refine awp_exit ?_; simp only [thenA, inBlockA, noGotoA, if_true, Nat.reduceEqDiff, if_false, ↓reduceIte])
     | (with_reducible refine awp_ret ?_; (try simp only [thenA, inBlockA, noGotoA]); (try simp [-List.reduceReplicate, Nat.add_one_le_iff, -getElem?_pos, -getElem?_neg, List.getElem?_cons_zero, List.getElem?_cons_succ, iC, l6, t6]))
     | ((with_reducible first | refine awp_reg 35 hX [0, 1, 4, 5, 6, 7, 8, 9, 25, 31] ?_ | change postOf _ _ _ _ _); simp [-List.reduceReplicate, Nat.add_one_le_iff, -getElem?_pos, -getElem?_neg, List.getElem?_cons_zero, List.getElem?_cons_succ, iC, l6, t6])
     | (with_reducible refine awp_if_b rfl (fun hc => ?_) (fun hc => ?_) <;> (try simp [-getElem?_pos, -getElem?_neg] at hc) <;> (try (exfalso; omega)))
     | ((with_reducible first | refine GuardK_b (fun hc => ?_) (fun hc => ?_)) <;> (try simp only [Bool.not_eq_true', Bool.not_eq_false', decide_eq_true_eq, decide_eq_false_iff_not] at hc) <;> (first | (exfalso; omega) | skip) <;> simp [-List.reduceReplicate, Nat.add_one_le_iff, -getElem?_pos, -getElem?_neg, List.getElem?_cons_zero, List.getElem?_cons_succ, iC, l6, t6, hc])
     | ((with_reducible first | refine hother _ _ rfl ?_); simp only [inBlockA, thenA, noGotoA, Nat.reduceEqDiff, if_false, if_true, ↓reduceIte])
     | (with_reducible refine And.intro (by omega) ?_)
     | fail)
end Go.Av

set_option exponentiation.threshold 1000
set_option linter.unusedVariables false
set_option linter.unusedSimpArgs false
set_option maxRecDepth 100000
set_option maxHeartbeats 4000000
namespace Go.Av
open Go Go.Proofs Go.Proofs.Ytofomnllcmgfeaa Go.RowKit
/-! ### common.Last, the document's Last -/
set_option maxHeartbeats 2000000 in
theorem place_den (l : List H32) (id : List UInt8) (hid : id.length = 32) (n : Nat) (full : Bool) (hn : l.length = n) (hN : n ≤ 1000000) :
    DenV Try.prog 67 [.c (.sl (hsC l) n full), hashM id] (.c (iC (fstI l id 0))) := by
  refine Den.frame (by simp [ltBs, ltB, lt_hash]) rfl ?_
  have hlen := hsC_len l
  have hat := hsC_at l
  have hst := fstI_step l id
  have t1 := hash_take id hid
  subst hn
  obtain ⟨res, hres⟩ : ∃ r, r = fstI l id 0 := ⟨_, rfl⟩
  rw [← hres]
  generalize hsC l = cs at *
  refine den_of Try.func67 rfl rfl (by simp [Try.ntmps67]) (fun X hX hO => ?_)
  rw [Try.ntmps67] at hX
  simp only [Try.results67]
  repeat' (first 
   | (with_reducible first | refine awp_scope ?_ | refine awp_seq ?_ | refine awp_block ?_)
   | ((with_reducible first | refine awp_label ?_ | refine awp_skip ?_); try simp only [thenA, inBlockA, noGotoA])
   | (with_reducible refine awp_exit ?_; simp only [thenA, inBlockA, noGotoA, if_true, Nat.reduceEqDiff, if_false, ↓reduceIte])
   | (with_reducible refine awp_ret ?_; (try simp only [thenA, inBlockA, noGotoA]); (try simp [-List.reduceReplicate, Nat.add_one_le_iff, -getElem?_pos, -getElem?_neg, List.getElem?_cons_zero, List.getElem?_cons_succ, hashM, hid, t1]))
   | ((with_reducible first | refine awp_reg 19 hX [0, 3, 4, 5, 9, 17] ?_ | refine awp_drw 19 hX [0, 3, 4, 5, 9, 17] Tab.mixed (by kernel_rfl) ?_ | refine DEv_cut _ _ _ _ _ _ _ _ _ _ _ _ (by kernel_rfl) ?_ | change postOf _ _ _ _ _); simp [-List.reduceReplicate, Nat.add_one_le_iff, -getElem?_pos, -getElem?_neg, List.getElem?_cons_zero, List.getElem?_cons_succ, hashM, hid, t1])
   | (with_reducible refine awp_if_b rfl (fun hc => ?_) (fun hc => ?_) <;> (try simp [-getElem?_pos, -getElem?_neg] at hc) <;> (try (exfalso; omega)))
   | ((with_reducible first | refine GuardK_b (fun hc => ?_) (fun hc => ?_) | refine DGuard_b _ _ _ _ _ _ _ _ _ _ (fun hc => ?_) (fun hc => ?_)) <;> (try simp only [Bool.not_eq_true', Bool.not_eq_false', decide_eq_true_eq, decide_eq_false_iff_not] at hc) <;> (first | (exfalso; omega) | skip) <;> simp [-List.reduceReplicate, Nat.add_one_le_iff, -getElem?_pos, -getElem?_neg, List.getElem?_cons_zero, List.getElem?_cons_succ, hashM, hid, t1, hc])
   | ((with_reducible first | refine hother _ _ rfl ?_); simp only [inBlockA, thenA, noGotoA, Nat.reduceEqDiff, if_false, if_true, ↓reduceIte])
   | (with_reducible refine And.intro (by omega) ?_)
   | fail)
  refine awp_forU [0, 3, 5] (fun i (_u : Unit) => [(5, .c (iC i))]) (fun i (_u : Unit) => [⟨71, 1, false, 0, up (id.map bC8), none⟩]) (fun i (_u : Unit) => (fstI (l.drop i) id i = res)) (l.length) (()) ((by rw [hres]; rfl)) (by simp [-List.reduceReplicate, keep, iC, bC8]) (by simp [-List.reduceReplicate, iC, bC8]) ?_
  rintro i _u Q1 hi hH next hother
  conv => arg 5; arg 1; simp only [List.cons_append, List.nil_append, keep, get, Nat.reduceEqDiff, if_true, if_false, ↓reduceIte]
  have hwi := wrap_in ((i : Int) + 1) (by omega)
  by_cases hlt : i < l.length
  · obtain ⟨h, hh⟩ : ∃ h, l[i]? = some h := ⟨_, List.getElem?_eq_getElem hlt⟩
    have ha := hat i h hh
    have hs := hst i h hh
    have hl2 := h.2
    have he := eq_hash h.1 id hl2 hid
    have t2 := hash_take h.1 hl2
    have hb : 32 ≤ cs.length - i * 32 := by omega
    have hb2 : i * 32 + 32 ≤ cs.length := by omega
    by_cases heq : h.1 = id
    · rw [if_pos heq] at hs
      have he1 := eq_hash1 id hid
      have hr : res = (i : Int) := by rw [← hH, hs]
      repeat' (first 
       | (with_reducible first | refine awp_scope ?_ | refine awp_seq ?_ | refine awp_block ?_)
       | ((with_reducible first | refine awp_label ?_ | refine awp_skip ?_); try simp only [thenA, inBlockA, noGotoA])
       | (with_reducible refine awp_exit ?_; simp only [thenA, inBlockA, noGotoA, if_true, Nat.reduceEqDiff, if_false, ↓reduceIte])
       | (with_reducible refine awp_ret ?_; (try simp only [thenA, inBlockA, noGotoA]); (try simp [-List.reduceReplicate, Nat.add_one_le_iff, -getElem?_pos, -getElem?_neg, List.getElem?_cons_zero, List.getElem?_cons_succ, iC, hlt, hwi, ha, hl2, he, he1, heq, t2, hb, hb2, hid, t1, hr]))
       | ((with_reducible first | refine awp_reg 19 hX [0, 3, 4, 5, 9, 17] ?_ | refine awp_drw 19 hX [0, 3, 4, 5, 9, 17] Tab.mixed (by kernel_rfl) ?_ | refine DEv_cut _ _ _ _ _ _ _ _ _ _ _ _ (by kernel_rfl) ?_ | change postOf _ _ _ _ _); simp [-List.reduceReplicate, Nat.add_one_le_iff, -getElem?_pos, -getElem?_neg, List.getElem?_cons_zero, List.getElem?_cons_succ, iC, hlt, hwi, ha, hl2, he, he1, heq, t2, hb, hb2, hid, t1, hr])
       | (with_reducible refine awp_if_b rfl (fun hc => ?_) (fun hc => ?_) <;> (try simp [-getElem?_pos, -getElem?_neg] at hc) <;> (try (exfalso; omega)))
       | ((with_reducible first | refine GuardK_b (fun hc => ?_) (fun hc => ?_) | refine DGuard_b _ _ _ _ _ _ _ _ _ _ (fun hc => ?_) (fun hc => ?_)) <;> (try simp only [Bool.not_eq_true', Bool.not_eq_false', decide_eq_true_eq, decide_eq_false_iff_not] at hc) <;> (first | (exfalso; omega) | skip) <;> simp [-List.reduceReplicate, Nat.add_one_le_iff, -getElem?_pos, -getElem?_neg, List.getElem?_cons_zero, List.getElem?_cons_succ, iC, hlt, hwi, ha, hl2, he, he1, heq, t2, hb, hb2, hid, t1, hr, hc])
       | ((with_reducible first | refine hother _ _ rfl ?_); simp only [inBlockA, thenA, noGotoA, Nat.reduceEqDiff, if_false, if_true, ↓reduceIte])
       | (with_reducible refine And.intro (by omega) ?_)
       | fail)
    · rw [if_neg heq] at hs
      have hH' : fstI (l.drop (i + 1)) id (i + 1) = res := by rw [← hs]; exact hH
      repeat' (first 
       | (with_reducible first | refine awp_scope ?_ | refine awp_seq ?_ | refine awp_block ?_)
       | ((with_reducible first | refine awp_label ?_ | refine awp_skip ?_); try simp only [thenA, inBlockA, noGotoA])
       | (with_reducible refine awp_exit ?_; simp only [thenA, inBlockA, noGotoA, if_true, Nat.reduceEqDiff, if_false, ↓reduceIte])
       | (with_reducible refine awp_ret ?_; (try simp only [thenA, inBlockA, noGotoA]); (try simp [-List.reduceReplicate, Nat.add_one_le_iff, -getElem?_pos, -getElem?_neg, List.getElem?_cons_zero, List.getElem?_cons_succ, iC, hlt, hwi, ha, hl2, he, heq, t2, hb, hb2, hid, t1]))
       | ((with_reducible first | refine awp_reg 19 hX [0, 3, 4, 5, 9, 17] ?_ | refine awp_drw 19 hX [0, 3, 4, 5, 9, 17] Tab.mixed (by kernel_rfl) ?_ | refine DEv_cut _ _ _ _ _ _ _ _ _ _ _ _ (by kernel_rfl) ?_ | change postOf _ _ _ _ _); simp [-List.reduceReplicate, Nat.add_one_le_iff, -getElem?_pos, -getElem?_neg, List.getElem?_cons_zero, List.getElem?_cons_succ, iC, hlt, hwi, ha, hl2, he, heq, t2, hb, hb2, hid, t1])
       | (with_reducible refine awp_if_b rfl (fun hc => ?_) (fun hc => ?_) <;> (try simp [-getElem?_pos, -getElem?_neg] at hc) <;> (try (exfalso; omega)))
       | ((with_reducible first | refine GuardK_b (fun hc => ?_) (fun hc => ?_) | refine DGuard_b _ _ _ _ _ _ _ _ _ _ (fun hc => ?_) (fun hc => ?_)) <;> (try simp only [Bool.not_eq_true', Bool.not_eq_false', decide_eq_true_eq, decide_eq_false_iff_not] at hc) <;> (first | (exfalso; omega) | skip) <;> simp [-List.reduceReplicate, Nat.add_one_le_iff, -getElem?_pos, -getElem?_neg, List.getElem?_cons_zero, List.getElem?_cons_succ, iC, hlt, hwi, ha, hl2, he, heq, t2, hb, hb2, hid, t1, hc])
       | ((with_reducible first | refine hother _ _ rfl ?_); simp only [inBlockA, thenA, noGotoA, Nat.reduceEqDiff, if_false, if_true, ↓reduceIte])
       | (with_reducible refine And.intro (by omega) ?_)
       | fail)
      refine next _ _ (()) (by omega) (by first | trivial | omega | assumption) (by simp [-List.reduceReplicate, keep, iC]) (by simp [-List.reduceReplicate, iC])
  · have hi2 : i = l.length := by omega
    have hr : res = -1 := by rw [← hH, hi2, List.drop_length]; rfl
    repeat' (first 
     | (with_reducible first | refine awp_scope ?_ | refine awp_seq ?_ | refine awp_block ?_)
     | ((with_reducible first | refine awp_label ?_ | refine awp_skip ?_); try simp only [thenA, inBlockA, noGotoA])
     | (with_reducible refine awp_exit ?_; simp only [thenA, inBlockA, noGotoA, if_true, Nat.reduceEqDiff, if_false, ↓reduceIte])
     | (with_reducible refine awp_ret ?_; (try simp only [thenA, inBlockA, noGotoA]); (try simp [-List.reduceReplicate, Nat.add_one_le_iff, -getElem?_pos, -getElem?_neg, List.getElem?_cons_zero, List.getElem?_cons_succ, iC, hlt, hr]))
     | ((with_reducible first | refine awp_reg 19 hX [0, 3, 4, 5, 9, 17] ?_ | refine awp_drw 19 hX [0, 3, 4, 5, 9, 17] Tab.mixed (by kernel_rfl) ?_ | refine DEv_cut _ _ _ _ _ _ _ _ _ _ _ _ (by kernel_rfl) ?_ | change postOf _ _ _ _ _); simp [-List.reduceReplicate, Nat.add_one_le_iff, -getElem?_pos, -getElem?_neg, List.getElem?_cons_zero, List.getElem?_cons_succ, iC, hlt, hr])
     | (with_reducible refine awp_if_b rfl (fun hc => ?_) (fun hc => ?_) <;> (try simp [-getElem?_pos, -getElem?_neg] at hc) <;> (try (exfalso; omega)))
     | ((with_reducible first | refine GuardK_b (fun hc => ?_) (fun hc => ?_) | refine DGuard_b _ _ _ _ _ _ _ _ _ _ (fun hc => ?_) (fun hc => ?_)) <;> (try simp only [Bool.not_eq_true', Bool.not_eq_false', decide_eq_true_eq, decide_eq_false_iff_not] at hc) <;> (first | (exfalso; omega) | skip) <;> simp [-List.reduceReplicate, Nat.add_one_le_iff, -getElem?_pos, -getElem?_neg, List.getElem?_cons_zero, List.getElem?_cons_succ, iC, hlt, hr, hc])
     | ((with_reducible first | refine hother _ _ rfl ?_); simp only [inBlockA, thenA, noGotoA, Nat.reduceEqDiff, if_false, if_true, ↓reduceIte])
     | (with_reducible refine And.intro (by omega) ?_)
     | fail)
theorem fstI_range (l : List H32) (id : List UInt8) : ∀ k, fstI l id k = -1 ∨ ((k : Int) ≤ fstI l id k ∧ fstI l id k < (k : Int) + l.length) := by
  induction l with
  | nil => intro k; exact .inl rfl
  | cons x r ih =>
    intro k
    unfold fstI
    split
    · right; simp only [List.length_cons]; omega
    · rcases ih (k + 1) with h | h
      · exact .inl h
      · right; simp only [List.length_cons]; omega
/-- The last place of the first ones whose id stands in another list, and its place there. -/
def lastHTo (a b : List H32) : Nat → Int × Int
  | 0 => (-1, -1)
  | n + 1 => if 0 ≤ fstI b ((a[n]?.map (·.1)).getD []) 0 then ((n : Int), fstI b ((a[n]?.map (·.1)).getD []) 0) else lastHTo a b n
def lastH (a b : List H32) : Int × Int := lastHTo a b a.length
theorem lastTo_range (a b : List H32) : ∀ n, lastHTo a b n = (-1, -1) ∨ (0 ≤ (lastHTo a b n).1 ∧ (lastHTo a b n).1 < (n : Int) ∧ 0 ≤ (lastHTo a b n).2 ∧ (lastHTo a b n).2 < (b.length : Int))
  | 0 => .inl rfl
  | n + 1 => by
    unfold lastHTo
    split
    · rename_i h
      right
      rcases fstI_range b ((a[n]?.map (·.1)).getD []) 0 with e | e
      · omega
      · simp only; omega
    · rcases lastTo_range a b n with h | h
      · exact .inl h
      · right; omega
set_option maxHeartbeats 4000000 in
theorem commonLast_den (a b : List H32) (n m : Nat) (fa fb : Bool) (hn : a.length = n) (hm : b.length = m) (hN : n ≤ 1000000) (hM : m ≤ 1000000) :
    DenV Try.prog 64 [.c (.sl (hsC a) n fa), .c (.sl (hsC b) m fb)] (.tup [.c (iC (lastH a b).1), .c (iC (lastH a b).2)]) := by
  refine Den.frame rfl rfl ?_
  have hlen := hsC_len a
  have hat := hsC_at a
  have p1 := fun id hid => identFirst_den b id hid m fb hm hM
  have hst : ∀ i, lastHTo a b (i + 1) = if 0 ≤ fstI b ((a[i]?.map (·.1)).getD []) 0 then ((i : Int), fstI b ((a[i]?.map (·.1)).getD []) 0) else lastHTo a b i := fun _ => rfl
  have h0 : lastHTo a b 0 = (-1, -1) := rfl
  have hl : lastH a b = lastHTo a b n := by unfold lastH; rw [hn]
  generalize lastH a b = r at *
  generalize lastHTo a b = f at *
  generalize hsC b = cb at *
  generalize hsC a = ca at *
  refine den_of Try.func64 rfl rfl (by simp [Try.ntmps64]) (fun X hX hO => ?_)
  rw [Try.ntmps64] at hX
  simp only [Try.results64]
  have w0 := wrap_in ((n : Int) - 1) (by omega)
  repeat' (first 
   | (with_reducible first | refine awp_scope ?_ | refine awp_seq ?_ | refine awp_block ?_)
   | ((with_reducible first | refine awp_label ?_ | refine awp_skip ?_); try simp only [thenA, inBlockA, noGotoA])
   | (with_reducible refine awp_exit ?_; simp only [thenA, inBlockA, noGotoA, if_true, Nat.reduceEqDiff, if_false, ↓reduceIte])
   | (with_reducible refine awp_ret ?_; (try simp only [thenA, inBlockA, noGotoA]); (try simp [-List.reduceReplicate, Nat.add_one_le_iff, -getElem?_pos, -getElem?_neg, List.getElem?_cons_zero, List.getElem?_cons_succ, iC, w0]))
   | ((with_reducible first | refine awp_reg 25 hX [0, 1, 4, 5, 6, 7, 12, 22] ?_ | change postOf _ _ _ _ _); simp [-List.reduceReplicate, Nat.add_one_le_iff, -getElem?_pos, -getElem?_neg, List.getElem?_cons_zero, List.getElem?_cons_succ, iC, w0])
   | (with_reducible refine awp_if_b rfl (fun hc => ?_) (fun hc => ?_) <;> (try simp [-getElem?_pos, -getElem?_neg] at hc) <;> (try (exfalso; omega)))
   | ((with_reducible first | refine GuardK_b (fun hc => ?_) (fun hc => ?_)) <;> (try simp only [Bool.not_eq_true', Bool.not_eq_false', decide_eq_true_eq, decide_eq_false_iff_not] at hc) <;> (first | (exfalso; omega) | skip) <;> simp [-List.reduceReplicate, Nat.add_one_le_iff, -getElem?_pos, -getElem?_neg, List.getElem?_cons_zero, List.getElem?_cons_succ, iC, w0, hc])
   | ((with_reducible first | refine hother _ _ rfl ?_); simp only [inBlockA, thenA, noGotoA, Nat.reduceEqDiff, if_false, if_true, ↓reduceIte])
   | (with_reducible refine And.intro (by omega) ?_)
   | fail)
  refine awp_forU [0, 1, 6] (fun j (_u : Unit) => [(6, .c (iC ((n : Int) - 1 - j)))]) (fun j (_u : Unit) => []) (fun j (_u : Unit) => r = f (n - j)) (n) (()) (by first | trivial | (simp; done) | omega | (intros; simp at *; done)) (by simp [-List.reduceReplicate, keep, iC]) (by simp [-List.reduceReplicate, iC]) ?_
  rintro j _u Q1 hi hH next hother
  conv => arg 5; arg 1; simp only [List.cons_append, List.nil_append, keep, get, Nat.reduceEqDiff, if_true, if_false, ↓reduceIte]
  by_cases hlt : j < n
  · obtain ⟨i, hi'⟩ : ∃ i, n - j = i + 1 := ⟨n - j - 1, by omega⟩
    have e1 : (n : Int) - 1 - (j : Int) = (i : Int) := by omega
    have e2 : n - (j + 1) = i := by omega
    have e3 : (n : Int) - 1 - ((j : Int) + 1) = (i : Int) - 1 := by omega
    obtain ⟨h, hh⟩ : ∃ h, a[i]? = some h := ⟨_, List.getElem?_eq_getElem (by omega)⟩
    have ha := hat i h hh
    have hl2 := h.2
    have q1 := p1 h.1 hl2
    have t2 := hash_take h.1 hl2
    have hb : 32 ≤ ca.length - i * 32 := by omega
    have hin : i < n := by omega
    have hs := hst i
    simp only [hh, Option.map_some, Option.getD_some] at hs
    rw [hi', hs] at hH
    rw [e2] at next
    have wi := wrap_in ((i : Int) - 1) (by omega)
    unfold hashM at q1
    generalize fstI b h.1 0 = k at *
    by_cases hk : 0 ≤ k
    · rw [if_pos hk] at hH
      subst hH
      repeat' (first 
       | (with_reducible first | refine awp_scope ?_ | refine awp_seq ?_ | refine awp_block ?_)
       | ((with_reducible first | refine awp_label ?_ | refine awp_skip ?_); try simp only [thenA, inBlockA, noGotoA])
       | (with_reducible refine awp_exit ?_; simp only [thenA, inBlockA, noGotoA, if_true, Nat.reduceEqDiff, if_false, ↓reduceIte])
       | (with_reducible refine awp_ret ?_; (try simp only [thenA, inBlockA, noGotoA]); (try simp [-List.reduceReplicate, Nat.add_one_le_iff, -getElem?_pos, -getElem?_neg, List.getElem?_cons_zero, List.getElem?_cons_succ, iC, bC, e1, hin, ha, hl2, t2, hb, hk]))
       | ((with_reducible first | refine awp_reg 25 hX [0, 1, 4, 5, 6, 7, 12, 22] ?_ | change postOf _ _ _ _ _); simp [-List.reduceReplicate, Nat.add_one_le_iff, -getElem?_pos, -getElem?_neg, List.getElem?_cons_zero, List.getElem?_cons_succ, iC, bC, e1, hin, ha, hl2, t2, hb, hk])
       | ((first | (refine (q1 _).det ?_)); try simp [-List.reduceReplicate, Nat.add_one_le_iff, -getElem?_pos, -getElem?_neg, List.getElem?_cons_zero, List.getElem?_cons_succ, iC, bC, e1, hin, ha, hl2, t2, hb, hk])
       | (with_reducible refine awp_if_b rfl (fun hc => ?_) (fun hc => ?_) <;> (try simp [-getElem?_pos, -getElem?_neg] at hc) <;> (try (exfalso; omega)))
       | ((with_reducible first | refine GuardK_b (fun hc => ?_) (fun hc => ?_)) <;> (try simp only [Bool.not_eq_true', Bool.not_eq_false', decide_eq_true_eq, decide_eq_false_iff_not] at hc) <;> (first | (exfalso; omega) | skip) <;> simp [-List.reduceReplicate, Nat.add_one_le_iff, -getElem?_pos, -getElem?_neg, List.getElem?_cons_zero, List.getElem?_cons_succ, iC, bC, e1, hin, ha, hl2, t2, hb, hk, hc])
       | ((with_reducible first | refine hother _ _ rfl ?_); simp only [inBlockA, thenA, noGotoA, Nat.reduceEqDiff, if_false, if_true, ↓reduceIte])
       | (with_reducible refine And.intro (by omega) ?_)
       | fail)
    · rw [if_neg hk] at hH
      repeat' (first 
       | (with_reducible first | refine awp_scope ?_ | refine awp_seq ?_ | refine awp_block ?_)
       | ((with_reducible first | refine awp_label ?_ | refine awp_skip ?_); try simp only [thenA, inBlockA, noGotoA])
       | (with_reducible refine awp_exit ?_; simp only [thenA, inBlockA, noGotoA, if_true, Nat.reduceEqDiff, if_false, ↓reduceIte])
       | (with_reducible refine awp_ret ?_; (try simp only [thenA, inBlockA, noGotoA]); (try simp [-List.reduceReplicate, Nat.add_one_le_iff, -getElem?_pos, -getElem?_neg, List.getElem?_cons_zero, List.getElem?_cons_succ, iC, bC, e1, hin, ha, hl2, t2, hb, hk, wi]))
       | ((with_reducible first | refine awp_reg 25 hX [0, 1, 4, 5, 6, 7, 12, 22] ?_ | change postOf _ _ _ _ _); simp [-List.reduceReplicate, Nat.add_one_le_iff, -getElem?_pos, -getElem?_neg, List.getElem?_cons_zero, List.getElem?_cons_succ, iC, bC, e1, hin, ha, hl2, t2, hb, hk, wi])
       | ((first | (refine (q1 _).det ?_)); try simp [-List.reduceReplicate, Nat.add_one_le_iff, -getElem?_pos, -getElem?_neg, List.getElem?_cons_zero, List.getElem?_cons_succ, iC, bC, e1, hin, ha, hl2, t2, hb, hk, wi])
       | (with_reducible refine awp_if_b rfl (fun hc => ?_) (fun hc => ?_) <;> (try simp [-getElem?_pos, -getElem?_neg] at hc) <;> (try (exfalso; omega)))
       | ((with_reducible first | refine GuardK_b (fun hc => ?_) (fun hc => ?_)) <;> (try simp only [Bool.not_eq_true', Bool.not_eq_false', decide_eq_true_eq, decide_eq_false_iff_not] at hc) <;> (first | (exfalso; omega) | skip) <;> simp [-List.reduceReplicate, Nat.add_one_le_iff, -getElem?_pos, -getElem?_neg, List.getElem?_cons_zero, List.getElem?_cons_succ, iC, bC, e1, hin, ha, hl2, t2, hb, hk, wi, hc])
       | ((with_reducible first | refine hother _ _ rfl ?_); simp only [inBlockA, thenA, noGotoA, Nat.reduceEqDiff, if_false, if_true, ↓reduceIte])
       | (with_reducible refine And.intro (by omega) ?_)
       | fail)
      refine next _ _ (()) (by omega) (by first | trivial | omega | assumption) (by simp [-List.reduceReplicate, keep, iC, e3]) (by simp [-List.reduceReplicate, iC, e3])
  · have hj : j = n := by omega
    subst hj
    rw [Nat.sub_self, h0] at hH
    subst hH
    have e1 : (j : Int) - 1 - (j : Int) = -1 := by omega
    repeat' (first 
     | (with_reducible first | refine awp_scope ?_ | refine awp_seq ?_ | refine awp_block ?_)
     | ((with_reducible first | refine awp_label ?_ | refine awp_skip ?_); try simp only [thenA, inBlockA, noGotoA])
     | (with_reducible refine awp_exit ?_; simp only [thenA, inBlockA, noGotoA, if_true, Nat.reduceEqDiff, if_false, ↓reduceIte])
     | (with_reducible refine awp_ret ?_; (try simp only [thenA, inBlockA, noGotoA]); (try simp [-List.reduceReplicate, Nat.add_one_le_iff, -getElem?_pos, -getElem?_neg, List.getElem?_cons_zero, List.getElem?_cons_succ, iC, e1]))
     | ((with_reducible first | refine awp_reg 25 hX [0, 1, 4, 5, 6, 7, 12, 22] ?_ | change postOf _ _ _ _ _); simp [-List.reduceReplicate, Nat.add_one_le_iff, -getElem?_pos, -getElem?_neg, List.getElem?_cons_zero, List.getElem?_cons_succ, iC, e1])
     | (with_reducible refine awp_if_b rfl (fun hc => ?_) (fun hc => ?_) <;> (try simp [-getElem?_pos, -getElem?_neg] at hc) <;> (try (exfalso; omega)))
     | ((with_reducible first | refine GuardK_b (fun hc => ?_) (fun hc => ?_)) <;> (try simp only [Bool.not_eq_true', Bool.not_eq_false', decide_eq_true_eq, decide_eq_false_iff_not] at hc) <;> (first | (exfalso; omega) | skip) <;> simp [-List.reduceReplicate, Nat.add_one_le_iff, -getElem?_pos, -getElem?_neg, List.getElem?_cons_zero, List.getElem?_cons_succ, iC, e1, hc])
     | ((with_reducible first | refine hother _ _ rfl ?_); simp only [inBlockA, thenA, noGotoA, Nat.reduceEqDiff, if_false, if_true, ↓reduceIte])
     | (with_reducible refine And.intro (by omega) ?_)
     | fail)
set_option maxHeartbeats 4000000 in
theorem last40_den (a b : List H32) (n m : Nat) (fa fb : Bool) (hn : a.length = n) (hm : b.length = m) (hN : n ≤ 1000000) (hM : m ≤ 1000000) :
    DenV Try.prog 38 [.c (.sl (hsC a) n fa), .c (.sl (hsC b) m fb)] (.tup [.c (iC (lastH a b).1), .c (iC (lastH a b).2)]) := by
  refine Den.frame rfl rfl ?_
  have hlen := hsC_len a
  have hat := hsC_at a
  have p1 := fun id hid => place_den b id hid m fb hm hM
  have hst : ∀ i, lastHTo a b (i + 1) = if 0 ≤ fstI b ((a[i]?.map (·.1)).getD []) 0 then ((i : Int), fstI b ((a[i]?.map (·.1)).getD []) 0) else lastHTo a b i := fun _ => rfl
  have h0 : lastHTo a b 0 = (-1, -1) := rfl
  have hl : lastH a b = lastHTo a b n := by unfold lastH; rw [hn]
  rw [hl]
  generalize lastHTo a b = f at *
  generalize hsC b = cb at *
  generalize hsC a = ca at *
  refine den_of Try.func38 rfl rfl (by simp [Try.ntmps38]) (fun X hX hO => ?_)
  rw [Try.ntmps38] at hX
  simp only [Try.results38]
  repeat' (first 
   | (with_reducible first | refine awp_scope ?_ | refine awp_seq ?_ | refine awp_block ?_)
   | ((with_reducible first | refine awp_label ?_ | refine awp_skip ?_); try simp only [thenA, inBlockA, noGotoA])
   | (with_reducible refine awp_exit ?_; simp only [thenA, inBlockA, noGotoA, if_true, Nat.reduceEqDiff, if_false, ↓reduceIte])
   | (with_reducible refine awp_ret ?_; (try simp only [thenA, inBlockA, noGotoA]); (try simp [-List.reduceReplicate, Nat.add_one_le_iff, -getElem?_pos, -getElem?_neg, List.getElem?_cons_zero, List.getElem?_cons_succ, iC]))
   | ((with_reducible first | refine awp_reg 28 hX [0, 1, 4, 5, 6, 7, 8, 9, 13, 23] ?_ | change postOf _ _ _ _ _); simp [-List.reduceReplicate, Nat.add_one_le_iff, -getElem?_pos, -getElem?_neg, List.getElem?_cons_zero, List.getElem?_cons_succ, iC])
   | (with_reducible refine awp_if_b rfl (fun hc => ?_) (fun hc => ?_) <;> (try simp [-getElem?_pos, -getElem?_neg] at hc) <;> (try (exfalso; omega)))
   | ((with_reducible first | refine GuardK_b (fun hc => ?_) (fun hc => ?_)) <;> (try simp only [Bool.not_eq_true', Bool.not_eq_false', decide_eq_true_eq, decide_eq_false_iff_not] at hc) <;> (first | (exfalso; omega) | skip) <;> simp [-List.reduceReplicate, Nat.add_one_le_iff, -getElem?_pos, -getElem?_neg, List.getElem?_cons_zero, List.getElem?_cons_succ, iC, hc])
   | ((with_reducible first | refine hother _ _ rfl ?_); simp only [inBlockA, thenA, noGotoA, Nat.reduceEqDiff, if_false, if_true, ↓reduceIte])
   | (with_reducible refine And.intro (by omega) ?_)
   | fail)
  refine awp_forU [0, 1, 6, 7, 8] (fun i (_u : Unit) => [(6, .c (iC (f i).1)), (7, .c (iC (f i).2)), (8, .c (iC i))]) (fun i (_u : Unit) => []) (fun i (_u : Unit) => True) (n) (()) (by first | trivial | (simp; done) | omega | (intros; simp at *; done)) (by simp [-List.reduceReplicate, keep, iC, h0]) (by simp [-List.reduceReplicate, iC, h0]) ?_
  rintro i _u Q1 hi hH next hother
  conv => arg 5; arg 1; simp only [List.cons_append, List.nil_append, keep, get, Nat.reduceEqDiff, if_true, if_false, ↓reduceIte]
  have hwi := wrap_in ((i : Int) + 1) (by omega)
  by_cases hin : i < n
  · obtain ⟨h, hh⟩ : ∃ h, a[i]? = some h := ⟨_, List.getElem?_eq_getElem (by omega)⟩
    have ha := hat i h hh
    have hl2 := h.2
    have q1 := p1 h.1 hl2
    have t2 := hash_take h.1 hl2
    have hb : 32 ≤ ca.length - i * 32 := by omega
    have hs := hst i
    simp only [hh, Option.map_some, Option.getD_some] at hs
    unfold hashM at q1
    generalize fstI b h.1 0 = k at *
    by_cases hk : 0 ≤ k
    · rw [if_pos hk] at hs
      repeat' (first 
       | (with_reducible first | refine awp_scope ?_ | refine awp_seq ?_ | refine awp_block ?_)
       | ((with_reducible first | refine awp_label ?_ | refine awp_skip ?_); try simp only [thenA, inBlockA, noGotoA])
       | (with_reducible refine awp_exit ?_; simp only [thenA, inBlockA, noGotoA, if_true, Nat.reduceEqDiff, if_false, ↓reduceIte])
       | (with_reducible refine awp_ret ?_; (try simp only [thenA, inBlockA, noGotoA]); (try simp [-List.reduceReplicate, Nat.add_one_le_iff, -getElem?_pos, -getElem?_neg, List.getElem?_cons_zero, List.getElem?_cons_succ, iC, bC, hin, ha, hl2, t2, hb, hk, hwi]))
       | ((with_reducible first | refine awp_reg 28 hX [0, 1, 4, 5, 6, 7, 8, 9, 13, 23] ?_ | change postOf _ _ _ _ _); simp [-List.reduceReplicate, Nat.add_one_le_iff, -getElem?_pos, -getElem?_neg, List.getElem?_cons_zero, List.getElem?_cons_succ, iC, bC, hin, ha, hl2, t2, hb, hk, hwi])
       | ((first | (refine (q1 _).det ?_)); try simp [-List.reduceReplicate, Nat.add_one_le_iff, -getElem?_pos, -getElem?_neg, List.getElem?_cons_zero, List.getElem?_cons_succ, iC, bC, hin, ha, hl2, t2, hb, hk, hwi])
       | (with_reducible refine awp_if_b rfl (fun hc => ?_) (fun hc => ?_) <;> (try simp [-getElem?_pos, -getElem?_neg] at hc) <;> (try (exfalso; omega)))
       | ((with_reducible first | refine GuardK_b (fun hc => ?_) (fun hc => ?_)) <;> (try simp only [Bool.not_eq_true', Bool.not_eq_false', decide_eq_true_eq, decide_eq_false_iff_not] at hc) <;> (first | (exfalso; omega) | skip) <;> simp [-List.reduceReplicate, Nat.add_one_le_iff, -getElem?_pos, -getElem?_neg, List.getElem?_cons_zero, List.getElem?_cons_succ, iC, bC, hin, ha, hl2, t2, hb, hk, hwi, hc])
       | ((with_reducible first | refine hother _ _ rfl ?_); simp only [inBlockA, thenA, noGotoA, Nat.reduceEqDiff, if_false, if_true, ↓reduceIte])
       | (with_reducible refine And.intro (by omega) ?_)
       | fail)
      refine next _ _ (()) (by omega) (by first | trivial | omega | assumption) (by simp [-List.reduceReplicate, keep, iC, hs]) (by simp [-List.reduceReplicate, iC, hs])
    · rw [if_neg hk] at hs
      repeat' (first 
       | (with_reducible first | refine awp_scope ?_ | refine awp_seq ?_ | refine awp_block ?_)
       | ((with_reducible first | refine awp_label ?_ | refine awp_skip ?_); try simp only [thenA, inBlockA, noGotoA])
       | (with_reducible refine awp_exit ?_; simp only [thenA, inBlockA, noGotoA, if_true, Nat.reduceEqDiff, if_false, ↓reduceIte])
       | (with_reducible refine awp_ret ?_; (try simp only [thenA, inBlockA, noGotoA]); (try simp [-List.reduceReplicate, Nat.add_one_le_iff, -getElem?_pos, -getElem?_neg, List.getElem?_cons_zero, List.getElem?_cons_succ, iC, bC, hin, ha, hl2, t2, hb, hk, hwi]))
       | ((with_reducible first | refine awp_reg 28 hX [0, 1, 4, 5, 6, 7, 8, 9, 13, 23] ?_ | change postOf _ _ _ _ _); simp [-List.reduceReplicate, Nat.add_one_le_iff, -getElem?_pos, -getElem?_neg, List.getElem?_cons_zero, List.getElem?_cons_succ, iC, bC, hin, ha, hl2, t2, hb, hk, hwi])
       | ((first | (refine (q1 _).det ?_)); try simp [-List.reduceReplicate, Nat.add_one_le_iff, -getElem?_pos, -getElem?_neg, List.getElem?_cons_zero, List.getElem?_cons_succ, iC, bC, hin, ha, hl2, t2, hb, hk, hwi])
       | (with_reducible refine awp_if_b rfl (fun hc => ?_) (fun hc => ?_) <;> (try simp [-getElem?_pos, -getElem?_neg] at hc) <;> (try (exfalso; omega)))
       | ((with_reducible first | refine GuardK_b (fun hc => ?_) (fun hc => ?_)) <;> (try simp only [Bool.not_eq_true', Bool.not_eq_false', decide_eq_true_eq, decide_eq_false_iff_not] at hc) <;> (first | (exfalso; omega) | skip) <;> simp [-List.reduceReplicate, Nat.add_one_le_iff, -getElem?_pos, -getElem?_neg, List.getElem?_cons_zero, List.getElem?_cons_succ, iC, bC, hin, ha, hl2, t2, hb, hk, hwi, hc])
       | ((with_reducible first | refine hother _ _ rfl ?_); simp only [inBlockA, thenA, noGotoA, Nat.reduceEqDiff, if_false, if_true, ↓reduceIte])
       | (with_reducible refine And.intro (by omega) ?_)
       | fail)
      refine next _ _ (()) (by omega) (by first | trivial | omega | assumption) (by simp [-List.reduceReplicate, keep, iC, hs]) (by simp [-List.reduceReplicate, iC, hs])
  · have hj : i = n := by omega
    subst hj
    repeat' (first 
     | (with_reducible first | refine awp_scope ?_ | refine awp_seq ?_ | refine awp_block ?_)
     | ((with_reducible first | refine awp_label ?_ | refine awp_skip ?_); try simp only [thenA, inBlockA, noGotoA])
     | (with_reducible refine awp_exit ?_; simp only [thenA, inBlockA, noGotoA, if_true, Nat.reduceEqDiff, if_false, ↓reduceIte])
     | (with_reducible refine awp_ret ?_; (try simp only [thenA, inBlockA, noGotoA]); (try simp [-List.reduceReplicate, Nat.add_one_le_iff, -getElem?_pos, -getElem?_neg, List.getElem?_cons_zero, List.getElem?_cons_succ, iC]))
     | ((with_reducible first | refine awp_reg 28 hX [0, 1, 4, 5, 6, 7, 8, 9, 13, 23] ?_ | change postOf _ _ _ _ _); simp [-List.reduceReplicate, Nat.add_one_le_iff, -getElem?_pos, -getElem?_neg, List.getElem?_cons_zero, List.getElem?_cons_succ, iC])
     | (with_reducible refine awp_if_b rfl (fun hc => ?_) (fun hc => ?_) <;> (try simp [-getElem?_pos, -getElem?_neg] at hc) <;> (try (exfalso; omega)))
     | ((with_reducible first | refine GuardK_b (fun hc => ?_) (fun hc => ?_)) <;> (try simp only [Bool.not_eq_true', Bool.not_eq_false', decide_eq_true_eq, decide_eq_false_iff_not] at hc) <;> (first | (exfalso; omega) | skip) <;> simp [-List.reduceReplicate, Nat.add_one_le_iff, -getElem?_pos, -getElem?_neg, List.getElem?_cons_zero, List.getElem?_cons_succ, iC, hc])
     | ((with_reducible first | refine hother _ _ rfl ?_); simp only [inBlockA, thenA, noGotoA, Nat.reduceEqDiff, if_false, if_true, ↓reduceIte])
     | (with_reducible refine And.intro (by omega) ?_)
     | fail)
end Go.Av

set_option exponentiation.threshold 1000
set_option linter.unusedVariables false
set_option linter.unusedSimpArgs false
set_option maxRecDepth 100000
set_option maxHeartbeats 4000000
namespace Go.Av
open Go Go.Proofs Go.Proofs.Ytofomnllcmgfeaa Go.RowKit
/-! ### duel: behind, Scores, Verdict -/
def sideL (a : List H32) (za : List Int) : List C := [.sl (hsC a) a.length false, .sl (za.map iC) za.length false]
def sideM (a : List H32) (za : List Int) : M := .agg (up (sideL a za))
def behI (zs : List Int) (at_ : Int) : List Int := if at_ < 0 ∨ (zs.length : Int) ≤ at_ + 1 then [] else zs.drop (at_ + 1).toNat
theorem behI_len (zs : List Int) (at_ : Int) : (behI zs at_).length ≤ zs.length := by
  unfold behI
  split
  · simp
  · simp
set_option maxHeartbeats 4000000 in
theorem behind_den (a : List H32) (zs : List Int) (at_ : Int) (h1 : -1 ≤ at_) (h2 : at_ ≤ 1000000) : DenV Try.prog 66 [sideM a zs, .c (iC at_)] (.c (.sl ((behI zs at_).map iC) (behI zs at_).length false)) := by
  refine Den.frame rfl rfl ?_
  have hw := wrap_in (at_ + 1) (by omega)
  by_cases hc : at_ < 0 ∨ (zs.length : Int) ≤ at_ + 1
  · have e : behI zs at_ = [] := by unfold behI; rw [if_pos hc]
    rw [e]
    have : Den Try.prog 66 [sideM a zs, .c (iC at_)] [] (fun r _ => r = .c (.v (.slice none 0 0))) := by
      unfold sideM sideL
      refine den_of Try.func66 rfl rfl (by simp [Try.ntmps66]) (fun X hX hO => ?_)
      rw [Try.ntmps66] at hX
      simp only [Try.results66]
      by_cases c1 : at_ < 0
      · repeat' (first 
         | (with_reducible first | refine awp_scope ?_ | refine awp_seq ?_ | refine awp_block ?_)
         | ((with_reducible first | refine awp_label ?_ | refine awp_skip ?_); try simp only [thenA, inBlockA, noGotoA])
         | (with_reducible refine awp_exit ?_; simp only [thenA, inBlockA, noGotoA, if_true, Nat.reduceEqDiff, if_false, ↓reduceIte])
         | (with_reducible refine awp_ret ?_; (try simp only [thenA, inBlockA, noGotoA]); (try simp [-List.reduceReplicate, Nat.add_one_le_iff, -getElem?_pos, -getElem?_neg, List.getElem?_cons_zero, List.getElem?_cons_succ, iC, bC, c1, hw]))
         | ((with_reducible first | refine awp_reg 20 hX [1, 2, 4, 14] ?_ | change postOf _ _ _ _ _); simp [-List.reduceReplicate, Nat.add_one_le_iff, -getElem?_pos, -getElem?_neg, List.getElem?_cons_zero, List.getElem?_cons_succ, iC, bC, c1, hw])
         | (with_reducible refine awp_if_b rfl (fun hc => ?_) (fun hc => ?_) <;> (try simp [-getElem?_pos, -getElem?_neg] at hc) <;> (try (exfalso; omega)))
         | ((with_reducible first | refine GuardK_b (fun hc => ?_) (fun hc => ?_)) <;> (try simp only [Bool.not_eq_true', Bool.not_eq_false', decide_eq_true_eq, decide_eq_false_iff_not] at hc) <;> (first | (exfalso; omega) | skip) <;> simp [-List.reduceReplicate, Nat.add_one_le_iff, -getElem?_pos, -getElem?_neg, List.getElem?_cons_zero, List.getElem?_cons_succ, iC, bC, c1, hw, hc])
         | (with_reducible refine And.intro (by omega) ?_)
         | fail)
      · have c2 : (zs.length : Int) ≤ at_ + 1 := by omega
        repeat' (first 
         | (with_reducible first | refine awp_scope ?_ | refine awp_seq ?_ | refine awp_block ?_)
         | ((with_reducible first | refine awp_label ?_ | refine awp_skip ?_); try simp only [thenA, inBlockA, noGotoA])
         | (with_reducible refine awp_exit ?_; simp only [thenA, inBlockA, noGotoA, if_true, Nat.reduceEqDiff, if_false, ↓reduceIte])
         | (with_reducible refine awp_ret ?_; (try simp only [thenA, inBlockA, noGotoA]); (try simp [-List.reduceReplicate, Nat.add_one_le_iff, -getElem?_pos, -getElem?_neg, List.getElem?_cons_zero, List.getElem?_cons_succ, iC, bC, c1, c2, hw]))
         | ((with_reducible first | refine awp_reg 20 hX [1, 2, 4, 14] ?_ | change postOf _ _ _ _ _); simp [-List.reduceReplicate, Nat.add_one_le_iff, -getElem?_pos, -getElem?_neg, List.getElem?_cons_zero, List.getElem?_cons_succ, iC, bC, c1, c2, hw])
         | (with_reducible refine awp_if_b rfl (fun hc => ?_) (fun hc => ?_) <;> (try simp [-getElem?_pos, -getElem?_neg] at hc) <;> (try (exfalso; omega)))
         | ((with_reducible first | refine GuardK_b (fun hc => ?_) (fun hc => ?_)) <;> (try simp only [Bool.not_eq_true', Bool.not_eq_false', decide_eq_true_eq, decide_eq_false_iff_not] at hc) <;> (first | (exfalso; omega) | skip) <;> simp [-List.reduceReplicate, Nat.add_one_le_iff, -getElem?_pos, -getElem?_neg, List.getElem?_cons_zero, List.getElem?_cons_succ, iC, bC, c1, c2, hw, hc])
         | (with_reducible refine And.intro (by omega) ?_)
         | fail)
    exact this.leR (fun r ob' e => ⟨_, by subst e; exact leM_c (leC_nil _), rfl⟩)
  · have e : behI zs at_ = zs.drop (at_ + 1).toNat := by unfold behI; rw [if_neg hc]
    rw [e]
    have c1 : ¬ at_ < 0 := by omega
    have c2 : ¬ (zs.length : Int) ≤ at_ + 1 := by omega
    obtain ⟨k, hk⟩ : ∃ k : Nat, at_ + 1 = (k : Int) := ⟨(at_ + 1).toNat, by omega⟩
    have hkn : (at_ + 1).toNat = k := by omega
    rw [hkn]
    have hl : (zs.drop k).length = zs.length - k := by simp
    have hle : k ≤ zs.length := by omega
    have hne : ¬ k = zs.length := by omega
    have htn : ((zs.length : Int) - (k : Int)).toNat = zs.length - k := by omega
    have htk : ((zs.map iC).drop k).take (zs.length - k) = (zs.drop k).map iC := by rw [List.take_of_length_le (by simp), List.map_drop]
    rw [hk] at hw c2
    rw [hl]
    unfold sideM sideL
    refine den_of Try.func66 rfl rfl (by simp [Try.ntmps66]) (fun X hX hO => ?_)
    rw [Try.ntmps66] at hX
    simp only [Try.results66]
    repeat' (first 
     | (with_reducible first | refine awp_scope ?_ | refine awp_seq ?_ | refine awp_block ?_)
     | ((with_reducible first | refine awp_label ?_ | refine awp_skip ?_); try simp only [thenA, inBlockA, noGotoA])
     | (with_reducible refine awp_exit ?_; simp only [thenA, inBlockA, noGotoA, if_true, Nat.reduceEqDiff, if_false, ↓reduceIte])
     | (with_reducible refine awp_ret ?_; (try simp only [thenA, inBlockA, noGotoA]); (try simp [-List.reduceReplicate, Nat.add_one_le_iff, -getElem?_pos, -getElem?_neg, List.getElem?_cons_zero, List.getElem?_cons_succ, iC, bC, c1, c2, hk, hw, hkn, hle, hne, htn, htk]))
     | ((with_reducible first | refine awp_reg 20 hX [1, 2, 4, 14] ?_ | change postOf _ _ _ _ _); simp [-List.reduceReplicate, Nat.add_one_le_iff, -getElem?_pos, -getElem?_neg, List.getElem?_cons_zero, List.getElem?_cons_succ, iC, bC, c1, c2, hk, hw, hkn, hle, hne, htn, htk])
     | (with_reducible refine awp_if_b rfl (fun hc => ?_) (fun hc => ?_) <;> (try simp [-getElem?_pos, -getElem?_neg] at hc) <;> (try (exfalso; omega)))
     | ((with_reducible first | refine GuardK_b (fun hc => ?_) (fun hc => ?_)) <;> (try simp only [Bool.not_eq_true', Bool.not_eq_false', decide_eq_true_eq, decide_eq_false_iff_not] at hc) <;> (first | (exfalso; omega) | skip) <;> simp [-List.reduceReplicate, Nat.add_one_le_iff, -getElem?_pos, -getElem?_neg, List.getElem?_cons_zero, List.getElem?_cons_succ, iC, bC, c1, c2, hk, hw, hkn, hle, hne, htn, htk, hc])
     | (with_reducible refine And.intro (by omega) ?_)
     | fail)
    intro h
    omega
/-- The arguments of two sides, and which is better. -/
def argN (a b : List H32) (za zb : List Int) (m : Int) : (Nat × Nat) × (Nat × Nat) := if (lastH a b).1 < 0 then ((0, 0), (0, 0)) else (bestN (behI za (lastH a b).1) m 256, bestN (behI zb (lastH a b).2) m 256)
def vrdN (a b : List H32) (za zb : List Int) (m : Int) : Int := if (lastH a b).1 < 0 then 0 else cmpN (bestN (behI za (lastH a b).1) m 256).1 (bestN (behI zb (lastH a b).2) m 256).1
theorem lastH_range (a b : List H32) : lastH a b = (-1, -1) ∨ (0 ≤ (lastH a b).1 ∧ (lastH a b).1 < (a.length : Int) ∧ 0 ≤ (lastH a b).2 ∧ (lastH a b).2 < (b.length : Int)) := lastTo_range a b a.length
set_option maxHeartbeats 4000000 in
theorem scores_den (a b : List H32) (za zb : List Int) (m : Int) (ha : a.length ≤ 100000) (hb : b.length ≤ 100000) (hza : za.length ≤ 100000) (hzb : zb.length ≤ 100000) :
    DenV Try.prog 37 [sideM a za, sideM b zb, .c (iC m)] (.tup [.agg (up (scoreC (argN a b za zb m).1)), .agg (up (scoreC (argN a b za zb m).2)), .c (bC (!decide ((lastH a b).1 < 0)))]) := by
  refine Den.frame rfl rfl ?_
  have p1 := commonLast_den a b a.length b.length false false rfl rfl (by omega) (by omega)
  have hr := lastH_range a b
  have pa := fun at_ h1 h2 => behind_den a za at_ h1 h2
  have pb := fun at_ h1 h2 => behind_den b zb at_ h1 h2
  have la := behI_len za
  have lb := behI_len zb
  have sl : ∀ p, (scoreC p).length = 6 := fun _ => rfl
  have tl : ∀ p, (scoreC p).take 6 = scoreC p := fun _ => rfl
  have qa := fun at_ => best_den (behI za at_) m false (by have := la at_; omega)
  have qb := fun at_ => best_den (behI zb at_) m false (by have := lb at_; omega)
  have h0 : ∀ r : (Nat × Nat) × (Nat × Nat), r = argN a b za zb m → r = (if (lastH a b).1 < 0 then ((0, 0), (0, 0)) else (bestN (behI za (lastH a b).1) m 256, bestN (behI zb (lastH a b).2) m 256)) := fun r h => h
  have hs0 : scoreC (0, 0) = [C.v (.int .u64 0), C.v (.int .u64 0), C.v (.int .u64 0), C.v (.int .u64 0), C.v (.int .u64 0), C.v (.int .i64 0)] := by simp [scoreC, limL, lim, u64C, iC]
  obtain ⟨r, hre⟩ : ∃ r, r = argN a b za zb m := ⟨_, rfl⟩
  have hre2 := h0 r hre
  rw [← hre]
  obtain ⟨i, hi⟩ : ∃ i, (lastH a b).1 = i := ⟨_, rfl⟩
  obtain ⟨k, hk⟩ : ∃ k, (lastH a b).2 = k := ⟨_, rfl⟩
  rw [hi, hk] at p1 hre2
  rw [hi]
  have lyS : ∀ p q, lay (up (scoreC p)) 0 (up (scoreC q)) = up (scoreC q) := fun _ _ => rfl
  by_cases c : i < 0
  · rw [if_pos c] at hre2
    subst hre2
    unfold sideM sideL
    refine den_of Try.func37 rfl rfl (by simp [Try.ntmps37]) (fun X hX hO => ?_)
    rw [Try.ntmps37] at hX
    simp only [Try.results37]
    repeat' (first 
     | (with_reducible first | refine awp_scope ?_ | refine awp_seq ?_ | refine awp_block ?_)
     | ((with_reducible first | refine awp_label ?_ | refine awp_skip ?_); try simp only [thenA, inBlockA, noGotoA])
     | (with_reducible refine awp_exit ?_; simp only [thenA, inBlockA, noGotoA, if_true, Nat.reduceEqDiff, if_false, ↓reduceIte])
     | (with_reducible refine awp_ret ?_; (try simp only [thenA, inBlockA, noGotoA]); (try simp [-List.reduceReplicate, Nat.add_one_le_iff, -getElem?_pos, -getElem?_neg, List.getElem?_cons_zero, List.getElem?_cons_succ, iC, bC, c, hs0, up]))
     | ((with_reducible first | refine awp_reg 33 hX [2, 3, 4, 6, 7, 8, 9, 10, 20] ?_ | refine awp_drw 33 hX [2, 3, 4, 6, 7, 8, 9, 10, 20] Tab.mixed (by kernel_rfl) ?_ | refine DEv_cut _ _ _ _ _ _ _ _ _ _ _ _ (by kernel_rfl) ?_ | change postOf _ _ _ _ _); simp [-List.reduceReplicate, Nat.add_one_le_iff, -getElem?_pos, -getElem?_neg, List.getElem?_cons_zero, List.getElem?_cons_succ, iC, bC, c, hs0, up])
     | ((first | (refine (p1 _).det ?_) | (refine ⟨_, _, p1 _, fun _ => rfl, ?_⟩)); try simp [-List.reduceReplicate, Nat.add_one_le_iff, -getElem?_pos, -getElem?_neg, List.getElem?_cons_zero, List.getElem?_cons_succ, iC, bC, c, hs0, up])
     | (with_reducible refine awp_if_b rfl (fun hc => ?_) (fun hc => ?_) <;> (try simp [-getElem?_pos, -getElem?_neg] at hc) <;> (try (exfalso; omega)))
     | ((with_reducible first | refine GuardK_b (fun hc => ?_) (fun hc => ?_) | refine DGuard_b _ _ _ _ _ _ _ _ _ _ (fun hc => ?_) (fun hc => ?_)) <;> (try simp only [Bool.not_eq_true', Bool.not_eq_false', decide_eq_true_eq, decide_eq_false_iff_not] at hc) <;> (first | (exfalso; omega) | skip) <;> simp [-List.reduceReplicate, Nat.add_one_le_iff, -getElem?_pos, -getElem?_neg, List.getElem?_cons_zero, List.getElem?_cons_succ, iC, bC, c, hs0, up, hc])
     | (with_reducible refine And.intro (by omega) ?_)
     | fail)
  · rw [if_neg c] at hre2
    have hii : 0 ≤ i ∧ i < (a.length : Int) ∧ 0 ≤ k ∧ k < (b.length : Int) := by
      rcases hr with h | h
      · rw [h] at hi; simp at hi; omega
      · rw [hi, hk] at h; exact h
    have pa1 := pa i (by omega) (by omega)
    have pb1 := pb k (by omega) (by omega)
    have qa1 := qa i
    have qb1 := qb k
    generalize bestN (behI za i) m 256 = x at *
    generalize bestN (behI zb k) m 256 = y at *
    generalize behI za i = xa at *
    generalize behI zb k = xb at *
    subst hre2
    have lz : [M.c (C.v (.int .u64 0)), M.c (C.v (.int .u64 0)), M.c (C.v (.int .u64 0)), M.c (C.v (.int .u64 0)), M.c (C.v (.int .u64 0)), M.c (C.v (.int .i64 0))] = up (scoreC (0, 0)) := by rw [hs0]; rfl
    unfold sideM sideL at *
    refine den_of Try.func37 rfl rfl (by simp [Try.ntmps37]) (fun X hX hO => ?_)
    rw [Try.ntmps37] at hX
    simp only [Try.results37]
    repeat' (first 
     | (with_reducible first | refine awp_scope ?_ | refine awp_seq ?_ | refine awp_block ?_)
     | ((with_reducible first | refine awp_label ?_ | refine awp_skip ?_); try simp only [thenA, inBlockA, noGotoA])
     | (with_reducible refine awp_exit ?_; simp only [thenA, inBlockA, noGotoA, if_true, Nat.reduceEqDiff, if_false, ↓reduceIte])
     | (with_reducible refine awp_ret ?_; (try simp only [thenA, inBlockA, noGotoA]); (try simp [-List.reduceReplicate, Nat.add_one_le_iff, -getElem?_pos, -getElem?_neg, List.getElem?_cons_zero, List.getElem?_cons_succ, iC, bC, c, sl, tl]))
     | ((with_reducible first | refine awp_reg 33 hX [2, 3, 4, 6, 7, 8, 9, 10, 20] ?_ | refine awp_drw 33 hX [2, 3, 4, 6, 7, 8, 9, 10, 20] Tab.mixed (by kernel_rfl) ?_ | refine DEv_cut _ _ _ _ _ _ _ _ _ _ _ _ (by kernel_rfl) ?_ | change postOf _ _ _ _ _); simp [-List.reduceReplicate, Nat.add_one_le_iff, -getElem?_pos, -getElem?_neg, List.getElem?_cons_zero, List.getElem?_cons_succ, iC, bC, c, sl, tl])
     | ((first | (refine (p1 _).det ?_) | (refine ⟨_, _, p1 _, fun _ => rfl, ?_⟩) | (refine (pa1 _).det ?_) | (refine ⟨_, _, pa1 _, fun _ => rfl, ?_⟩) | (refine (pb1 _).det ?_) | (refine ⟨_, _, pb1 _, fun _ => rfl, ?_⟩) | (refine (qa1 _).det ?_) | (refine ⟨_, _, qa1 _, fun _ => rfl, ?_⟩) | (refine (qb1 _).det ?_) | (refine ⟨_, _, qb1 _, fun _ => rfl, ?_⟩)); try simp [-List.reduceReplicate, Nat.add_one_le_iff, -getElem?_pos, -getElem?_neg, List.getElem?_cons_zero, List.getElem?_cons_succ, iC, bC, c, sl, tl])
     | (with_reducible refine awp_if_b rfl (fun hc => ?_) (fun hc => ?_) <;> (try simp [-getElem?_pos, -getElem?_neg] at hc) <;> (try (exfalso; omega)))
     | ((with_reducible first | refine GuardK_b (fun hc => ?_) (fun hc => ?_) | refine DGuard_b _ _ _ _ _ _ _ _ _ _ (fun hc => ?_) (fun hc => ?_)) <;> (try simp only [Bool.not_eq_true', Bool.not_eq_false', decide_eq_true_eq, decide_eq_false_iff_not] at hc) <;> (first | (exfalso; omega) | skip) <;> simp [-List.reduceReplicate, Nat.add_one_le_iff, -getElem?_pos, -getElem?_neg, List.getElem?_cons_zero, List.getElem?_cons_succ, iC, bC, c, sl, tl, hc])
     | (with_reducible refine And.intro (by omega) ?_)
     | fail)
set_option maxHeartbeats 4000000 in
theorem verdict_den (a b : List H32) (za zb : List Int) (m : Int) (ha : a.length ≤ 100000) (hb : b.length ≤ 100000) (hza : za.length ≤ 100000) (hzb : zb.length ≤ 100000) :
    DenV Try.prog 39 [sideM a za, sideM b zb, .c (iC m)] (.c (iC (vrdN a b za zb m))) := by
  refine Den.frame rfl rfl ?_
  have p1 := scores_den a b za zb m ha hb hza hzb
  have la := behI_len za
  have lb := behI_len zb
  have hba := fun at_ => bestN_lt (behI za at_) m (by have := la at_; omega) 256 (by omega)
  have hbb := fun at_ => bestN_lt (behI zb at_) m (by have := lb at_; omega) 256 (by omega)
  unfold argN at p1
  unfold vrdN
  obtain ⟨i, hi⟩ : ∃ i, (lastH a b).1 = i := ⟨_, rfl⟩
  obtain ⟨k, hk⟩ : ∃ k, (lastH a b).2 = k := ⟨_, rfl⟩
  rw [hi, hk] at p1 ⊢
  have q1 := cmp_den (bestN (behI za i) m 256).1 (bestN (behI zb k) m 256).1 (hba i) (hbb k)
  generalize bestN (behI za i) m 256 = x at *
  generalize bestN (behI zb k) m 256 = y at *
  have sl : ∀ p, (scoreC p).length = 6 := fun _ => rfl
  have tl : ∀ p, (scoreC p).take 6 = scoreC p := fun _ => rfl
  have t5 : ∀ p, (scoreC p).take 5 = limC 5 p.1 := fun p => by rw [limL_eq]; rfl
  have lyS : ∀ q, lay [M.c (C.v (.int .u64 0)), M.c (C.v (.int .u64 0)), M.c (C.v (.int .u64 0)), M.c (C.v (.int .u64 0)), M.c (C.v (.int .u64 0)), M.c (C.v (.int .i64 0))] 0 (up (scoreC q)) = up (scoreC q) := fun _ => rfl
  unfold largeM at q1
  by_cases c : i < 0
  · simp only [c, if_true, decide_true, Bool.not_true] at p1 ⊢
    unfold sideM sideL at *
    refine den_of Try.func39 rfl rfl (by simp [Try.ntmps39]) (fun X hX hO => ?_)
    rw [Try.ntmps39] at hX
    simp only [Try.results39]
    repeat' (first 
     | (with_reducible first | refine awp_scope ?_ | refine awp_seq ?_ | refine awp_block ?_)
     | ((with_reducible first | refine awp_label ?_ | refine awp_skip ?_); try simp only [thenA, inBlockA, noGotoA])
     | (with_reducible refine awp_exit ?_; simp only [thenA, inBlockA, noGotoA, if_true, Nat.reduceEqDiff, if_false, ↓reduceIte])
     | (with_reducible refine awp_ret ?_; (try simp only [thenA, inBlockA, noGotoA]); (try simp [-List.reduceReplicate, Nat.add_one_le_iff, -getElem?_pos, -getElem?_neg, List.getElem?_cons_zero, List.getElem?_cons_succ, iC, bC, sl, tl, lyS]))
     | ((with_reducible first | refine awp_reg 25 hX [2, 3, 4, 6, 7, 8, 9, 19] ?_ | change postOf _ _ _ _ _); simp [-List.reduceReplicate, Nat.add_one_le_iff, -getElem?_pos, -getElem?_neg, List.getElem?_cons_zero, List.getElem?_cons_succ, iC, bC, sl, tl, lyS])
     | ((first | (refine (p1 _).det ?_)); try simp [-List.reduceReplicate, Nat.add_one_le_iff, -getElem?_pos, -getElem?_neg, List.getElem?_cons_zero, List.getElem?_cons_succ, iC, bC, sl, tl, lyS])
     | (with_reducible refine awp_if_b rfl (fun hc => ?_) (fun hc => ?_) <;> (try simp [-getElem?_pos, -getElem?_neg] at hc) <;> (try (exfalso; omega)))
     | ((with_reducible first | refine GuardK_b (fun hc => ?_) (fun hc => ?_)) <;> (try simp only [Bool.not_eq_true', Bool.not_eq_false', decide_eq_true_eq, decide_eq_false_iff_not] at hc) <;> (first | (exfalso; omega) | skip) <;> simp [-List.reduceReplicate, Nat.add_one_le_iff, -getElem?_pos, -getElem?_neg, List.getElem?_cons_zero, List.getElem?_cons_succ, iC, bC, sl, tl, lyS, hc])
     | (with_reducible refine And.intro (by omega) ?_)
     | fail)
  · simp only [c, if_false, decide_false, Bool.not_false] at p1 ⊢
    unfold sideM sideL at *
    refine den_of Try.func39 rfl rfl (by simp [Try.ntmps39]) (fun X hX hO => ?_)
    rw [Try.ntmps39] at hX
    simp only [Try.results39]
    repeat' (first 
     | (with_reducible first | refine awp_scope ?_ | refine awp_seq ?_ | refine awp_block ?_)
     | ((with_reducible first | refine awp_label ?_ | refine awp_skip ?_); try simp only [thenA, inBlockA, noGotoA])
     | (with_reducible refine awp_exit ?_; simp only [thenA, inBlockA, noGotoA, if_true, Nat.reduceEqDiff, if_false, ↓reduceIte])
     | (with_reducible refine awp_ret ?_; (try simp only [thenA, inBlockA, noGotoA]); (try simp [-List.reduceReplicate, Nat.add_one_le_iff, -getElem?_pos, -getElem?_neg, List.getElem?_cons_zero, List.getElem?_cons_succ, iC, bC, sl, tl, t5, lyS]))
     | ((with_reducible first | refine awp_reg 25 hX [2, 3, 4, 6, 7, 8, 9, 19] ?_ | change postOf _ _ _ _ _); simp [-List.reduceReplicate, Nat.add_one_le_iff, -getElem?_pos, -getElem?_neg, List.getElem?_cons_zero, List.getElem?_cons_succ, iC, bC, sl, tl, t5, lyS])
     | ((first | (refine (p1 _).det ?_) | (refine (q1 _).det ?_)); try simp [-List.reduceReplicate, Nat.add_one_le_iff, -getElem?_pos, -getElem?_neg, List.getElem?_cons_zero, List.getElem?_cons_succ, iC, bC, sl, tl, t5, lyS])
     | (with_reducible refine awp_if_b rfl (fun hc => ?_) (fun hc => ?_) <;> (try simp [-getElem?_pos, -getElem?_neg] at hc) <;> (try (exfalso; omega)))
     | ((with_reducible first | refine GuardK_b (fun hc => ?_) (fun hc => ?_)) <;> (try simp only [Bool.not_eq_true', Bool.not_eq_false', decide_eq_true_eq, decide_eq_false_iff_not] at hc) <;> (first | (exfalso; omega) | skip) <;> simp [-List.reduceReplicate, Nat.add_one_le_iff, -getElem?_pos, -getElem?_neg, List.getElem?_cons_zero, List.getElem?_cons_succ, iC, bC, sl, tl, t5, lyS, hc])
     | (with_reducible refine And.intro (by omega) ?_)
     | fail)
end Go.Av

set_option exponentiation.threshold 1000
set_option linter.unusedVariables false
set_option linter.unusedSimpArgs false
set_option maxRecDepth 100000
set_option maxHeartbeats 4000000
namespace Go.Av
open Go Go.Proofs Go.Proofs.Ytofomnllcmgfeaa Go.RowKit
/-! ### the document's score and verdict -/
open Go.Av.Up (pl hit)
set_option maxHeartbeats 4000000 in
theorem value40_den (zs : List Int) (lv : Nat) (hl : lv ≤ 255) (hn : zs.length ≤ 1000000) : DenV Try.prog 70 [.c (intsC zs), .c (iC lv)] (.c (ndC (dg (valN zs lv)))) := by
  refine Den.frame rfl rfl ?_
  have p1 := count38_den zs lv hn
  have hc := cntN_le zs lv
  have p2 := of05_den (cntN zs lv) (by omega)
  have p3 := power_den lv (by omega)
  have hdl : (dg (cntN zs lv)).length ≤ 10000 := by
    rcases Nat.lt_or_ge (dg (cntN zs lv)).length 10000 with h | h
    · omega
    · exfalso
      by_cases h0 : cntN zs lv = 0
      · rw [h0, dg_0] at h; simp at h
      · have h1 := (dg_bd (cntN zs lv)).2 h0
        have h2 : 65536 ^ 2 ≤ 65536 ^ ((dg (cntN zs lv)).length - 1) := Nat.pow_le_pow_right (by decide) (by omega)
        omega
  have p4 := mul_den (dg (cntN zs lv)) (pwL lv) (dg_lt _) (pwL_lt lv) hdl (by rw [pwL_len]; omega)
  rw [dgv_dg, pwL_val] at p4
  have e : (plI zs 0 lv).length = cntN zs lv := rfl
  rw [e] at p1
  have ev : cntN zs lv * 2 ^ lv = valN zs lv := rfl
  rw [ev] at p4
  clear e ev hdl
  generalize dg (valN zs lv) = r at *
  generalize dg (cntN zs lv) = d at *
  generalize pwL lv = pw at *
  generalize cntN zs lv = c at *
  have w1 := wrapU64 (c : Int) (by omega)
  have i1 : ¬ (lv : Int) < 0 := by omega
  have i2 : ¬ (255 : Int) < lv := by omega
  unfold u64C intsC at *
  refine den_of Try.func70 rfl rfl (by simp [Try.ntmps70]) (fun X hX hO => ?_)
  rw [Try.ntmps70] at hX
  simp only [Try.results70]
  repeat' (first 
   | (with_reducible first | refine awp_scope ?_ | refine awp_seq ?_ | refine awp_block ?_)
   | ((with_reducible first | refine awp_label ?_ | refine awp_skip ?_); try simp only [thenA, inBlockA, noGotoA])
   | (with_reducible refine awp_exit ?_; simp only [thenA, inBlockA, noGotoA, if_true, Nat.reduceEqDiff, if_false, ↓reduceIte])
   | (with_reducible refine awp_ret ?_; (try simp only [thenA, inBlockA, noGotoA]); (try simp [-List.reduceReplicate, Nat.add_one_le_iff, -getElem?_pos, -getElem?_neg, List.getElem?_cons_zero, List.getElem?_cons_succ, iC, bC, w1, i1, i2]))
   | ((with_reducible first | refine awp_reg 19 hX [0, 1, 4, 10] ?_ | change postOf _ _ _ _ _); simp [-List.reduceReplicate, Nat.add_one_le_iff, -getElem?_pos, -getElem?_neg, List.getElem?_cons_zero, List.getElem?_cons_succ, iC, bC, w1, i1, i2])
   | ((first | (refine (p1 _).det ?_) | (refine (p2 _).det ?_) | (refine (p3 _).det ?_) | (refine (p4 _).det ?_)); try simp [-List.reduceReplicate, Nat.add_one_le_iff, -getElem?_pos, -getElem?_neg, List.getElem?_cons_zero, List.getElem?_cons_succ, iC, bC, w1, i1, i2])
   | (with_reducible refine awp_if_b rfl (fun hc => ?_) (fun hc => ?_) <;> (try simp [-getElem?_pos, -getElem?_neg] at hc) <;> (try (exfalso; omega)))
   | ((with_reducible first | refine GuardK_b (fun hc => ?_) (fun hc => ?_)) <;> (try simp only [Bool.not_eq_true', Bool.not_eq_false', decide_eq_true_eq, decide_eq_false_iff_not] at hc) <;> (first | (exfalso; omega) | skip) <;> simp [-List.reduceReplicate, Nat.add_one_le_iff, -getElem?_pos, -getElem?_neg, List.getElem?_cons_zero, List.getElem?_cons_succ, iC, bC, w1, i1, i2, hc])
   | (with_reducible refine And.intro (by omega) ?_)
   | fail)
set_option maxHeartbeats 4000000 in
theorem may40_den (zs : List Int) (lv : Nat) (m : Int) (hl : lv ≤ 255) (hn : zs.length ≤ 1000000) : DenV Try.prog 69 [.c (intsC zs), .c (iC lv), .c (iC m)] (.c (bC (mayN zs lv m))) := by
  refine Den.frame rfl rfl ?_
  have p1 := count38_den zs lv hn
  have e : (plI zs 0 lv).length = cntN zs lv := rfl
  rw [e] at p1
  unfold mayN
  generalize cntN zs lv = c at *
  unfold intsC at *
  refine den_of Try.func69 rfl rfl (by simp [Try.ntmps69]) (fun X hX hO => ?_)
  rw [Try.ntmps69] at hX
  simp only [Try.results69]
  by_cases h0 : lv = 0
  · subst h0
    repeat' (first 
     | (with_reducible first | refine awp_scope ?_ | refine awp_seq ?_ | refine awp_block ?_)
     | ((with_reducible first | refine awp_label ?_ | refine awp_skip ?_); try simp only [thenA, inBlockA, noGotoA])
     | (with_reducible refine awp_exit ?_; simp only [thenA, inBlockA, noGotoA, if_true, Nat.reduceEqDiff, if_false, ↓reduceIte])
     | (with_reducible refine awp_ret ?_; (try simp only [thenA, inBlockA, noGotoA]); (try simp [-List.reduceReplicate, Nat.add_one_le_iff, -getElem?_pos, -getElem?_neg, List.getElem?_cons_zero, List.getElem?_cons_succ, iC, bC]))
     | ((with_reducible first | refine awp_reg 24 hX [0, 1, 2, 6] ?_ | change postOf _ _ _ _ _); simp [-List.reduceReplicate, Nat.add_one_le_iff, -getElem?_pos, -getElem?_neg, List.getElem?_cons_zero, List.getElem?_cons_succ, iC, bC])
     | (with_reducible refine awp_if_b rfl (fun hc => ?_) (fun hc => ?_) <;> (try simp [-getElem?_pos, -getElem?_neg] at hc) <;> (try (exfalso; omega)))
     | ((with_reducible first | refine GuardK_b (fun hc => ?_) (fun hc => ?_)) <;> (try simp only [Bool.not_eq_true', Bool.not_eq_false', decide_eq_true_eq, decide_eq_false_iff_not] at hc) <;> (first | (exfalso; omega) | skip) <;> simp [-List.reduceReplicate, Nat.add_one_le_iff, -getElem?_pos, -getElem?_neg, List.getElem?_cons_zero, List.getElem?_cons_succ, iC, bC, hc])
     | (with_reducible refine And.intro (by omega) ?_)
     | fail)
  · have i0 : 0 < lv := by omega
    have i1 : ¬ (lv : Int) = 0 := by omega
    have i2 : (0 : Int) < lv := by omega
    have i3 : (lv : Int) ≤ 255 := by omega
    repeat' (first 
     | (with_reducible first | refine awp_scope ?_ | refine awp_seq ?_ | refine awp_block ?_)
     | ((with_reducible first | refine awp_label ?_ | refine awp_skip ?_); try simp only [thenA, inBlockA, noGotoA])
     | (with_reducible refine awp_exit ?_; simp only [thenA, inBlockA, noGotoA, if_true, Nat.reduceEqDiff, if_false, ↓reduceIte])
     | (with_reducible refine awp_ret ?_; (try simp only [thenA, inBlockA, noGotoA]); (try simp [-List.reduceReplicate, Nat.add_one_le_iff, -getElem?_pos, -getElem?_neg, List.getElem?_cons_zero, List.getElem?_cons_succ, iC, bC, h0, i0, i1, i2, i3]))
     | ((with_reducible first | refine awp_reg 24 hX [0, 1, 2, 6] ?_ | change postOf _ _ _ _ _); simp [-List.reduceReplicate, Nat.add_one_le_iff, -getElem?_pos, -getElem?_neg, List.getElem?_cons_zero, List.getElem?_cons_succ, iC, bC, h0, i0, i1, i2, i3])
     | ((first | (refine (p1 _).det ?_)); try simp [-List.reduceReplicate, Nat.add_one_le_iff, -getElem?_pos, -getElem?_neg, List.getElem?_cons_zero, List.getElem?_cons_succ, iC, bC, h0, i0, i1, i2, i3])
     | (with_reducible refine awp_if_b rfl (fun hc => ?_) (fun hc => ?_) <;> (try simp [-getElem?_pos, -getElem?_neg] at hc) <;> (try (exfalso; omega)))
     | ((with_reducible first | refine GuardK_b (fun hc => ?_) (fun hc => ?_)) <;> (try simp only [Bool.not_eq_true', Bool.not_eq_false', decide_eq_true_eq, decide_eq_false_iff_not] at hc) <;> (first | (exfalso; omega) | skip) <;> simp [-List.reduceReplicate, Nat.add_one_le_iff, -getElem?_pos, -getElem?_neg, List.getElem?_cons_zero, List.getElem?_cons_succ, iC, bC, h0, i0, i1, i2, i3, hc])
     | (with_reducible refine And.intro (by omega) ?_)
     | fail)
theorem dgl_le {x : Nat} (h : x < 2 ^ (64 * 5)) : (dg x).length ≤ 1000000 := by
  rcases Nat.lt_or_ge (dg x).length 22 with c | c
  · omega
  · exfalso
    have h0 : x ≠ 0 := fun e => by subst e; rw [dg_0] at c; simp at c
    have h1 := (dg_bd x).2 h0
    have h2 : 65536 ^ 21 ≤ 65536 ^ ((dg x).length - 1) := Nat.pow_le_pow_right (by decide) (by omega)
    have h3 : 2 ^ (64 * 5) ≤ 65536 ^ 21 := by
      rw [show (65536 : Nat) = 2 ^ 16 by rfl, ← Nat.pow_mul]
      exact Nat.pow_le_pow_right (by decide) (by decide)
    omega
set_option maxHeartbeats 4000000 in
theorem best40_den (zs : List Int) (m : Int) (hn : zs.length ≤ 1000000) : DenV Try.prog 42 [.c (intsC zs), .c (iC m)] (.tup [.c (ndC (dg (bestN zs m 256).1)), .c (iC (bestN zs m 256).2)]) := by
  refine Den.frame rfl rfl ?_
  have hb : ∀ k, bestN zs m (k + 1) = if mayN zs k m = true ∧ (bestN zs m k).1 < valN zs k then (valN zs k, k) else bestN zs m k := fun _ => rfl
  have hb0 : bestN zs m 0 = (0, 0) := rfl
  have pm := fun k (h : k ≤ 255) => may40_den zs k m h hn
  have pv := fun k (h : k ≤ 255) => value40_den zs k h hn
  have hvl := fun k (h : k ≤ 255) => dgl_le (valN_lt zs k hn h)
  have pc := fun k y (h : k ≤ 255) => cmp05_den (valN zs k) y (hvl k h)
  have hnil : ndC (dg 0) = .sl [] 0 false := by rw [dg_0]; rfl
  generalize bestN zs m = f at *
  generalize valN zs = vf at *
  unfold intsC at *
  refine den_of Try.func42 rfl rfl (by simp [Try.ntmps42]) (fun X hX hO => ?_)
  rw [Try.ntmps42] at hX
  simp only [Try.results42]
  repeat' (first 
   | (with_reducible first | refine awp_scope ?_ | refine awp_seq ?_ | refine awp_block ?_)
   | ((with_reducible first | refine awp_label ?_ | refine awp_skip ?_); try simp only [thenA, inBlockA, noGotoA])
   | (with_reducible refine awp_exit ?_; simp only [thenA, inBlockA, noGotoA, if_true, Nat.reduceEqDiff, if_false, ↓reduceIte])
   | (with_reducible refine awp_ret ?_; (try simp only [thenA, inBlockA, noGotoA]); (try simp [-List.reduceReplicate, Nat.add_one_le_iff, -getElem?_pos, -getElem?_neg, List.getElem?_cons_zero, List.getElem?_cons_succ, iC]))
   | ((with_reducible first | refine awp_reg 30 hX [0, 1, 4, 5, 6, 7, 8, 9, 11, 18, 25] ?_ | change postOf _ _ _ _ _); simp [-List.reduceReplicate, Nat.add_one_le_iff, -getElem?_pos, -getElem?_neg, List.getElem?_cons_zero, List.getElem?_cons_succ, iC])
   | (with_reducible refine awp_if_b rfl (fun hc => ?_) (fun hc => ?_) <;> (try simp [-getElem?_pos, -getElem?_neg] at hc) <;> (try (exfalso; omega)))
   | ((with_reducible first | refine GuardK_b (fun hc => ?_) (fun hc => ?_)) <;> (try simp only [Bool.not_eq_true', Bool.not_eq_false', decide_eq_true_eq, decide_eq_false_iff_not] at hc) <;> (first | (exfalso; omega) | skip) <;> simp [-List.reduceReplicate, Nat.add_one_le_iff, -getElem?_pos, -getElem?_neg, List.getElem?_cons_zero, List.getElem?_cons_succ, iC, hc])
   | ((with_reducible first | refine hother _ _ rfl ?_); simp only [inBlockA, thenA, noGotoA, Nat.reduceEqDiff, if_false, if_true, ↓reduceIte])
   | (with_reducible refine And.intro (by omega) ?_)
   | fail)
  refine awp_le 6 (.c (.v (.slice none 0 0))) (.c (ndC (dg 0))) (by simp [get]) (by rw [hnil]; exact leM_c (leC_nil _)) ?_
  simp only [put]
  refine awp_forU [0, 1, 6, 7, 8] (fun k (_u : Unit) => [(6, .c (ndC (dg (f k).1))), (7, .c (iC (f k).2)), (8, .c (iC k))]) (fun k (_u : Unit) => []) (fun k (_u : Unit) => True) (256) (()) (by first | trivial | (simp; done) | omega | (intros; simp at *; done)) (by simp [-List.reduceReplicate, keep, iC, hb0]) (by simp [-List.reduceReplicate, iC, hb0]) ?_
  rintro k _u Q1 hi hH next hother
  conv => arg 5; arg 1; simp only [List.cons_append, List.nil_append, keep, get, Nat.reduceEqDiff, if_true, if_false, ↓reduceIte]
  have hwk := wrap_in ((k : Int) + 1) (by omega)
  by_cases hk : k < 256
  · have qv := pv k (by omega)
    have qm := pm k (by omega)
    have bk := hb k
    have hk2 : (k : Int) < 256 := by omega
    obtain ⟨bv, hbv⟩ : ∃ x, (f k).1 = x := ⟨_, rfl⟩
    obtain ⟨bl', hbl⟩ : ∃ x, (f k).2 = x := ⟨_, rfl⟩
    have c1 := pc k bv (by omega)
    rw [hbv, hbl]
    rw [hbv] at bk
    generalize vf k = v at *
    have eC : ∀ z, dg z = dg z := fun _ => rfl
    cases hm : mayN zs k m
    · have fk : f (k + 1) = f k := by rw [bk, if_neg (by rw [hm]; intro h; simp at h)]
      rw [hm] at qm
      repeat' (first 
       | (with_reducible first | refine awp_scope ?_ | refine awp_seq ?_ | refine awp_block ?_)
       | ((with_reducible first | refine awp_label ?_ | refine awp_skip ?_); try simp only [thenA, inBlockA, noGotoA])
       | (with_reducible refine awp_exit ?_; simp only [thenA, inBlockA, noGotoA, if_true, Nat.reduceEqDiff, if_false, ↓reduceIte])
       | (with_reducible refine awp_ret ?_; (try simp only [thenA, inBlockA, noGotoA]); (try simp [-List.reduceReplicate, Nat.add_one_le_iff, -getElem?_pos, -getElem?_neg, List.getElem?_cons_zero, List.getElem?_cons_succ, iC, bC, hk2, hwk]))
       | ((with_reducible first | refine awp_reg 30 hX [0, 1, 4, 5, 6, 7, 8, 9, 11, 18, 25] ?_ | change postOf _ _ _ _ _); simp [-List.reduceReplicate, Nat.add_one_le_iff, -getElem?_pos, -getElem?_neg, List.getElem?_cons_zero, List.getElem?_cons_succ, iC, bC, hk2, hwk])
       | ((first | (refine (qv _).det ?_) | (refine (qm _).det ?_) | (refine (c1 _).det ?_)); try simp [-List.reduceReplicate, Nat.add_one_le_iff, -getElem?_pos, -getElem?_neg, List.getElem?_cons_zero, List.getElem?_cons_succ, iC, bC, hk2, hwk])
       | (with_reducible refine awp_if_b rfl (fun hc => ?_) (fun hc => ?_) <;> (try simp [-getElem?_pos, -getElem?_neg] at hc) <;> (try (exfalso; omega)))
       | ((with_reducible first | refine GuardK_b (fun hc => ?_) (fun hc => ?_)) <;> (try simp only [Bool.not_eq_true', Bool.not_eq_false', decide_eq_true_eq, decide_eq_false_iff_not] at hc) <;> (first | (exfalso; omega) | skip) <;> simp [-List.reduceReplicate, Nat.add_one_le_iff, -getElem?_pos, -getElem?_neg, List.getElem?_cons_zero, List.getElem?_cons_succ, iC, bC, hk2, hwk, hc])
       | ((with_reducible first | refine hother _ _ rfl ?_); simp only [inBlockA, thenA, noGotoA, Nat.reduceEqDiff, if_false, if_true, ↓reduceIte])
       | (with_reducible refine And.intro (by omega) ?_)
       | fail)
      refine next _ _ (()) (by omega) (by first | trivial | omega | assumption) (by simp [-List.reduceReplicate, keep, iC, fk, hbv, hbl]) (by simp [-List.reduceReplicate, iC, fk, hbv, hbl])
    · rw [hm] at qm
      by_cases hlt : bv < v
      · have fk : f (k + 1) = (v, k) := by rw [bk, if_pos ⟨hm, hlt⟩]
        rw [cmpN_gt hlt] at c1
        repeat' (first 
         | (with_reducible first | refine awp_scope ?_ | refine awp_seq ?_ | refine awp_block ?_)
         | ((with_reducible first | refine awp_label ?_ | refine awp_skip ?_); try simp only [thenA, inBlockA, noGotoA])
         | (with_reducible refine awp_exit ?_; simp only [thenA, inBlockA, noGotoA, if_true, Nat.reduceEqDiff, if_false, ↓reduceIte])
         | (with_reducible refine awp_ret ?_; (try simp only [thenA, inBlockA, noGotoA]); (try simp [-List.reduceReplicate, Nat.add_one_le_iff, -getElem?_pos, -getElem?_neg, List.getElem?_cons_zero, List.getElem?_cons_succ, iC, bC, hk2, hwk]))
         | ((with_reducible first | refine awp_reg 30 hX [0, 1, 4, 5, 6, 7, 8, 9, 11, 18, 25] ?_ | change postOf _ _ _ _ _); simp [-List.reduceReplicate, Nat.add_one_le_iff, -getElem?_pos, -getElem?_neg, List.getElem?_cons_zero, List.getElem?_cons_succ, iC, bC, hk2, hwk])
         | ((first | (refine (qv _).det ?_) | (refine (qm _).det ?_) | (refine (c1 _).det ?_)); try simp [-List.reduceReplicate, Nat.add_one_le_iff, -getElem?_pos, -getElem?_neg, List.getElem?_cons_zero, List.getElem?_cons_succ, iC, bC, hk2, hwk])
         | (with_reducible refine awp_if_b rfl (fun hc => ?_) (fun hc => ?_) <;> (try simp [-getElem?_pos, -getElem?_neg] at hc) <;> (try (exfalso; omega)))
         | ((with_reducible first | refine GuardK_b (fun hc => ?_) (fun hc => ?_)) <;> (try simp only [Bool.not_eq_true', Bool.not_eq_false', decide_eq_true_eq, decide_eq_false_iff_not] at hc) <;> (first | (exfalso; omega) | skip) <;> simp [-List.reduceReplicate, Nat.add_one_le_iff, -getElem?_pos, -getElem?_neg, List.getElem?_cons_zero, List.getElem?_cons_succ, iC, bC, hk2, hwk, hc])
         | ((with_reducible first | refine hother _ _ rfl ?_); simp only [inBlockA, thenA, noGotoA, Nat.reduceEqDiff, if_false, if_true, ↓reduceIte])
         | (with_reducible refine And.intro (by omega) ?_)
         | fail)
        refine next _ _ (()) (by omega) (by first | trivial | omega | assumption) (by simp [-List.reduceReplicate, keep, iC, fk]) (by simp [-List.reduceReplicate, iC, fk])
      · have fk : f (k + 1) = f k := by rw [bk, if_neg (by intro h; omega)]
        have hc : ¬ 0 < cmpN v bv := by unfold cmpN; split <;> (first | omega | (rw [if_neg hlt]; omega))
        repeat' (first 
         | (with_reducible first | refine awp_scope ?_ | refine awp_seq ?_ | refine awp_block ?_)
         | ((with_reducible first | refine awp_label ?_ | refine awp_skip ?_); try simp only [thenA, inBlockA, noGotoA])
         | (with_reducible refine awp_exit ?_; simp only [thenA, inBlockA, noGotoA, if_true, Nat.reduceEqDiff, if_false, ↓reduceIte])
         | (with_reducible refine awp_ret ?_; (try simp only [thenA, inBlockA, noGotoA]); (try simp [-List.reduceReplicate, Nat.add_one_le_iff, -getElem?_pos, -getElem?_neg, List.getElem?_cons_zero, List.getElem?_cons_succ, iC, bC, hk2, hwk, hc]))
         | ((with_reducible first | refine awp_reg 30 hX [0, 1, 4, 5, 6, 7, 8, 9, 11, 18, 25] ?_ | change postOf _ _ _ _ _); simp [-List.reduceReplicate, Nat.add_one_le_iff, -getElem?_pos, -getElem?_neg, List.getElem?_cons_zero, List.getElem?_cons_succ, iC, bC, hk2, hwk, hc])
         | ((first | (refine (qv _).det ?_) | (refine (qm _).det ?_) | (refine (c1 _).det ?_)); try simp [-List.reduceReplicate, Nat.add_one_le_iff, -getElem?_pos, -getElem?_neg, List.getElem?_cons_zero, List.getElem?_cons_succ, iC, bC, hk2, hwk, hc])
         | (with_reducible refine awp_if_b rfl (fun hc => ?_) (fun hc => ?_) <;> (try simp [-getElem?_pos, -getElem?_neg] at hc) <;> (try (exfalso; omega)))
         | ((with_reducible first | refine GuardK_b (fun hc => ?_) (fun hc => ?_)) <;> (try simp only [Bool.not_eq_true', Bool.not_eq_false', decide_eq_true_eq, decide_eq_false_iff_not] at hc) <;> (first | (exfalso; omega) | skip) <;> simp [-List.reduceReplicate, Nat.add_one_le_iff, -getElem?_pos, -getElem?_neg, List.getElem?_cons_zero, List.getElem?_cons_succ, iC, bC, hk2, hwk, hc, hc])
         | ((with_reducible first | refine hother _ _ rfl ?_); simp only [inBlockA, thenA, noGotoA, Nat.reduceEqDiff, if_false, if_true, ↓reduceIte])
         | (with_reducible refine And.intro (by omega) ?_)
         | fail)
        refine next _ _ (()) (by omega) (by first | trivial | omega | assumption) (by simp [-List.reduceReplicate, keep, iC, fk, hbv, hbl]) (by simp [-List.reduceReplicate, iC, fk, hbv, hbl])
  · have hk3 : k = 256 := by omega
    subst hk3
    repeat' (first 
     | (with_reducible first | refine awp_scope ?_ | refine awp_seq ?_ | refine awp_block ?_)
     | ((with_reducible first | refine awp_label ?_ | refine awp_skip ?_); try simp only [thenA, inBlockA, noGotoA])
     | (with_reducible refine awp_exit ?_; simp only [thenA, inBlockA, noGotoA, if_true, Nat.reduceEqDiff, if_false, ↓reduceIte])
     | (with_reducible refine awp_ret ?_; (try simp only [thenA, inBlockA, noGotoA]); (try simp [-List.reduceReplicate, Nat.add_one_le_iff, -getElem?_pos, -getElem?_neg, List.getElem?_cons_zero, List.getElem?_cons_succ, iC]))
     | ((with_reducible first | refine awp_reg 30 hX [0, 1, 4, 5, 6, 7, 8, 9, 11, 18, 25] ?_ | change postOf _ _ _ _ _); simp [-List.reduceReplicate, Nat.add_one_le_iff, -getElem?_pos, -getElem?_neg, List.getElem?_cons_zero, List.getElem?_cons_succ, iC])
     | (with_reducible refine awp_if_b rfl (fun hc => ?_) (fun hc => ?_) <;> (try simp [-getElem?_pos, -getElem?_neg] at hc) <;> (try (exfalso; omega)))
     | ((with_reducible first | refine GuardK_b (fun hc => ?_) (fun hc => ?_)) <;> (try simp only [Bool.not_eq_true', Bool.not_eq_false', decide_eq_true_eq, decide_eq_false_iff_not] at hc) <;> (first | (exfalso; omega) | skip) <;> simp [-List.reduceReplicate, Nat.add_one_le_iff, -getElem?_pos, -getElem?_neg, List.getElem?_cons_zero, List.getElem?_cons_succ, iC, hc])
     | ((with_reducible first | refine hother _ _ rfl ?_); simp only [inBlockA, thenA, noGotoA, Nat.reduceEqDiff, if_false, if_true, ↓reduceIte])
     | (with_reducible refine And.intro (by omega) ?_)
     | fail)
end Go.Av

set_option exponentiation.threshold 1000
set_option linter.unusedVariables false
set_option linter.unusedSimpArgs false
set_option maxRecDepth 100000
set_option maxHeartbeats 4000000
namespace Go.Av
open Go Go.Proofs Go.Proofs.Ytofomnllcmgfeaa Go.RowKit
/-! ### the document's Behind, Verdict; Limbs of an array of the caller's own -/
set_option maxHeartbeats 4000000 in
theorem behind40_own (zs : List Int) (k : Nat) (hn : zs.length ≤ 1000000) (hk : k ≤ 1000000) : Den Try.prog 43 [.c (intsC zs), .c (iC k)] [] (fun r ob' => ∃ g b, r = .ms 0 g 0 (zs.length - (k + 1)) ∧ ob' = [⟨3, 1, b, g, up ((zs.drop (k + 1)).map iC), none⟩]) := by
  generalize hQ : (fun (r : M) (ob' : List Ob) => ∃ g b, r = .ms 0 g 0 (zs.length - (k + 1)) ∧ ob' = [⟨3, 1, b, g, up ((zs.drop (k + 1)).map iC), none⟩]) = Q
  have hs : ∀ i x, zs[i]? = some x → (zs.take (i + 1)).drop (k + 1) = (zs.take i).drop (k + 1) ++ if k < i then [x] else [] := fun i x h => by
    have hl := (List.getElem?_eq_some_iff.1 h).1
    rw [List.take_add_one, h]
    simp only [Option.toList]
    by_cases c : k < i
    · rw [if_pos c, List.drop_append_of_le_length (by rw [List.length_take]; omega)]
    · rw [if_neg c, List.append_nil, List.drop_of_length_le (by simp; omega), List.drop_of_length_le (by simp; omega)]
  have hl : ∀ i, i ≤ zs.length → ((zs.take i).drop (k + 1)).length = i - (k + 1) := fun i h => by simp; omega
  have h0 : (zs.take 0).drop (k + 1) = [] := by simp
  have hN : (zs.take zs.length).drop (k + 1) = zs.drop (k + 1) := by simp
  obtain ⟨D, hD⟩ : ∃ D : Nat → List Int, ∀ i, (zs.take i).drop (k + 1) = D i := ⟨_, fun _ => rfl⟩
  simp only [hD] at *
  refine den_of Try.func43 rfl rfl (by simp [Try.ntmps43]) (fun X hX hO => ?_)
  rw [Try.ntmps43] at hX
  simp only [Try.results43]
  repeat' (first 
   | (with_reducible first | refine awp_scope ?_ | refine awp_seq ?_ | refine awp_block ?_)
   | ((with_reducible first | refine awp_label ?_ | refine awp_skip ?_); try simp only [thenA, inBlockA, noGotoA])
   | (with_reducible refine awp_exit ?_; simp only [thenA, inBlockA, noGotoA, if_true, Nat.reduceEqDiff, if_false, ↓reduceIte])
   | (with_reducible refine awp_ret ?_; (try simp only [thenA, inBlockA, noGotoA]); (try simp [-List.reduceReplicate, Nat.add_one_le_iff, -getElem?_pos, -getElem?_neg, List.getElem?_cons_zero, List.getElem?_cons_succ, intsC, iC]))
   | ((with_reducible first | refine awp_reg 24 hX [0, 1, 4, 5, 6, 10, 15] ?_ | change postOf _ _ _ _ _); simp [-List.reduceReplicate, Nat.add_one_le_iff, -getElem?_pos, -getElem?_neg, List.getElem?_cons_zero, List.getElem?_cons_succ, intsC, iC])
   | (with_reducible refine awp_if_b rfl (fun hc => ?_) (fun hc => ?_) <;> (try simp [-getElem?_pos, -getElem?_neg] at hc) <;> (try (exfalso; omega)))
   | ((with_reducible first | refine GuardK_b (fun hc => ?_) (fun hc => ?_)) <;> (try simp only [Bool.not_eq_true', Bool.not_eq_false', decide_eq_true_eq, decide_eq_false_iff_not] at hc) <;> (first | (exfalso; omega) | skip) <;> simp [-List.reduceReplicate, Nat.add_one_le_iff, -getElem?_pos, -getElem?_neg, List.getElem?_cons_zero, List.getElem?_cons_succ, intsC, iC, hc])
   | ((with_reducible first | refine hother _ _ rfl ?_); simp only [inBlockA, thenA, noGotoA, Nat.reduceEqDiff, if_false, if_true, ↓reduceIte])
   | (with_reducible refine And.intro (by omega) ?_)
   | fail)
  refine awp_nil 5 3 1 (by simp) ?_
  simp
  refine awp_forU [0, 1, 5, 6] (fun i (g : Nat × Bool) => [(5, .ms 0 g.1 0 (i - (k + 1))), (6, .c (iC i))]) (fun i (g : Nat × Bool) => [⟨3, 1, g.2, g.1, up ((D i).map iC), none⟩]) (fun i (g : Nat × Bool) => True) (zs.length) ((0, true)) (by first | trivial | (simp; done) | omega | (intros; simp at *; done)) (by simp [-List.reduceReplicate, keep, iC, h0]) (by simp [-List.reduceReplicate, iC, h0]) ?_
  rintro i g Q1 hi hH next hother
  conv => arg 5; arg 1; simp only [List.cons_append, List.nil_append, keep, get, Nat.reduceEqDiff, if_true, if_false, ↓reduceIte]
  have hwi := wrap_in ((i : Int) + 1) (by omega)
  by_cases hlt : i < zs.length
  · obtain ⟨x, hx⟩ : ∃ x, zs[i]? = some x := ⟨_, List.getElem?_eq_getElem hlt⟩
    have hsi := hs i x hx
    have hli := hl i (by omega)
    by_cases c : k < i
    · rw [if_pos c] at hsi
      have c2 : (k : Int) < i := by omega
      have e : i - (k + 1) + 1 = i - k := by omega
      have e2 : i + 1 - (k + 1) = i - k := by omega
      have hroom : (i - k) * 8 ≤ 140737488355328 := by omega
      repeat' (first 
       | (with_reducible first | refine awp_scope ?_ | refine awp_seq ?_ | refine awp_block ?_)
       | ((with_reducible first | refine awp_label ?_ | refine awp_skip ?_); try simp only [thenA, inBlockA, noGotoA])
       | (with_reducible refine awp_exit ?_; simp only [thenA, inBlockA, noGotoA, if_true, Nat.reduceEqDiff, if_false, ↓reduceIte])
       | (with_reducible refine awp_ret ?_; (try simp only [thenA, inBlockA, noGotoA]); (try simp [-List.reduceReplicate, Nat.add_one_le_iff, -getElem?_pos, -getElem?_neg, List.getElem?_cons_zero, List.getElem?_cons_succ, intsC, iC, bC, hlt, hx, c, c2, hli, e, e2, hroom, roomB, hwi]))
       | ((with_reducible first | refine awp_reg 24 hX [0, 1, 4, 5, 6, 10, 15] ?_ | change postOf _ _ _ _ _); simp [-List.reduceReplicate, Nat.add_one_le_iff, -getElem?_pos, -getElem?_neg, List.getElem?_cons_zero, List.getElem?_cons_succ, intsC, iC, bC, hlt, hx, c, c2, hli, e, e2, hroom, roomB, hwi])
       | (with_reducible refine awp_if_b rfl (fun hc => ?_) (fun hc => ?_) <;> (try simp [-getElem?_pos, -getElem?_neg] at hc) <;> (try (exfalso; omega)))
       | ((with_reducible first | refine GuardK_b (fun hc => ?_) (fun hc => ?_)) <;> (try simp only [Bool.not_eq_true', Bool.not_eq_false', decide_eq_true_eq, decide_eq_false_iff_not] at hc) <;> (first | (exfalso; omega) | skip) <;> simp [-List.reduceReplicate, Nat.add_one_le_iff, -getElem?_pos, -getElem?_neg, List.getElem?_cons_zero, List.getElem?_cons_succ, intsC, iC, bC, hlt, hx, c, c2, hli, e, e2, hroom, roomB, hwi, hc])
       | ((with_reducible first | refine hother _ _ rfl ?_); simp only [inBlockA, thenA, noGotoA, Nat.reduceEqDiff, if_false, if_true, ↓reduceIte])
       | (with_reducible refine And.intro (by omega) ?_)
       | fail)
      refine next _ _ ((g.1 + 1, false)) (by omega) (by first | trivial | omega | assumption) (by simp [-List.reduceReplicate, keep, iC, hsi, e2]) (by simp [-List.reduceReplicate, iC, hsi, e2])
    · rw [if_neg c, List.append_nil] at hsi
      have c2 : ¬ (k : Int) < i := by omega
      have e1 : i - (k + 1) = 0 := by omega
      have e2 : i + 1 - (k + 1) = 0 := by omega
      repeat' (first 
       | (with_reducible first | refine awp_scope ?_ | refine awp_seq ?_ | refine awp_block ?_)
       | ((with_reducible first | refine awp_label ?_ | refine awp_skip ?_); try simp only [thenA, inBlockA, noGotoA])
       | (with_reducible refine awp_exit ?_; simp only [thenA, inBlockA, noGotoA, if_true, Nat.reduceEqDiff, if_false, ↓reduceIte])
       | (with_reducible refine awp_ret ?_; (try simp only [thenA, inBlockA, noGotoA]); (try simp [-List.reduceReplicate, Nat.add_one_le_iff, -getElem?_pos, -getElem?_neg, List.getElem?_cons_zero, List.getElem?_cons_succ, intsC, iC, bC, hlt, hx, c, c2, hwi]))
       | ((with_reducible first | refine awp_reg 24 hX [0, 1, 4, 5, 6, 10, 15] ?_ | change postOf _ _ _ _ _); simp [-List.reduceReplicate, Nat.add_one_le_iff, -getElem?_pos, -getElem?_neg, List.getElem?_cons_zero, List.getElem?_cons_succ, intsC, iC, bC, hlt, hx, c, c2, hwi])
       | (with_reducible refine awp_if_b rfl (fun hc => ?_) (fun hc => ?_) <;> (try simp [-getElem?_pos, -getElem?_neg] at hc) <;> (try (exfalso; omega)))
       | ((with_reducible first | refine GuardK_b (fun hc => ?_) (fun hc => ?_)) <;> (try simp only [Bool.not_eq_true', Bool.not_eq_false', decide_eq_true_eq, decide_eq_false_iff_not] at hc) <;> (first | (exfalso; omega) | skip) <;> simp [-List.reduceReplicate, Nat.add_one_le_iff, -getElem?_pos, -getElem?_neg, List.getElem?_cons_zero, List.getElem?_cons_succ, intsC, iC, bC, hlt, hx, c, c2, hwi, hc])
       | ((with_reducible first | refine hother _ _ rfl ?_); simp only [inBlockA, thenA, noGotoA, Nat.reduceEqDiff, if_false, if_true, ↓reduceIte])
       | (with_reducible refine And.intro (by omega) ?_)
       | fail)
      refine next _ _ (g) (by omega) (by first | trivial | omega | assumption) (by simp [-List.reduceReplicate, keep, iC, hsi, e1, e2]) (by simp [-List.reduceReplicate, iC, hsi, e1, e2])
  · have hi2 : i = zs.length := by omega
    subst hi2
    repeat' (first 
     | (with_reducible first | refine awp_scope ?_ | refine awp_seq ?_ | refine awp_block ?_)
     | ((with_reducible first | refine awp_label ?_ | refine awp_skip ?_); try simp only [thenA, inBlockA, noGotoA])
     | (with_reducible refine awp_exit ?_; simp only [thenA, inBlockA, noGotoA, if_true, Nat.reduceEqDiff, if_false, ↓reduceIte])
     | (with_reducible refine awp_ret ?_; (try simp only [thenA, inBlockA, noGotoA]); (try simp [-List.reduceReplicate, Nat.add_one_le_iff, -getElem?_pos, -getElem?_neg, List.getElem?_cons_zero, List.getElem?_cons_succ, intsC, iC, bC]))
     | ((with_reducible first | refine awp_reg 24 hX [0, 1, 4, 5, 6, 10, 15] ?_ | change postOf _ _ _ _ _); simp [-List.reduceReplicate, Nat.add_one_le_iff, -getElem?_pos, -getElem?_neg, List.getElem?_cons_zero, List.getElem?_cons_succ, intsC, iC, bC])
     | (with_reducible refine awp_if_b rfl (fun hc => ?_) (fun hc => ?_) <;> (try simp [-getElem?_pos, -getElem?_neg] at hc) <;> (try (exfalso; omega)))
     | ((with_reducible first | refine GuardK_b (fun hc => ?_) (fun hc => ?_)) <;> (try simp only [Bool.not_eq_true', Bool.not_eq_false', decide_eq_true_eq, decide_eq_false_iff_not] at hc) <;> (first | (exfalso; omega) | skip) <;> simp [-List.reduceReplicate, Nat.add_one_le_iff, -getElem?_pos, -getElem?_neg, List.getElem?_cons_zero, List.getElem?_cons_succ, intsC, iC, bC, hc])
     | ((with_reducible first | refine hother _ _ rfl ?_); simp only [inBlockA, thenA, noGotoA, Nat.reduceEqDiff, if_false, if_true, ↓reduceIte])
     | (with_reducible refine And.intro (by omega) ?_)
     | fail)
    subst hQ
    exact ⟨g.1, g.2, rfl, by rw [hN]⟩
theorem behind40_den (zs : List Int) (k : Nat) (hn : zs.length ≤ 1000000) (hk : k ≤ 1000000) : DenV Try.prog 43 [.c (intsC zs), .c (iC k)] (.c (intsC (zs.drop (k + 1)))) :=
  Den.frame rfl rfl ((behind40_own zs k hn hk).freeze fun r ob' ⟨g, b, h1, h2⟩ => ⟨g, _, _, (zs.drop (k + 1)).map iC, h1, h2, rfl, rfl, by simp [intsC]⟩)
theorem behI_nat (zs : List Int) (k : Nat) : behI zs (k : Int) = zs.drop (k + 1) := by
  unfold behI
  split
  · rw [List.drop_of_length_le (by omega)]
  · congr 1
set_option maxHeartbeats 4000000 in
theorem verdict40_den (a b : List H32) (za zb : List Int) (m : Int) (ha : a.length ≤ 100000) (hb : b.length ≤ 100000) (hza : za.length ≤ 100000) (hzb : zb.length ≤ 100000) :
    DenV Try.prog 40 [sideM a za, sideM b zb, .c (iC m)] (.c (iC (vrdN a b za zb m))) := by
  refine Den.frame rfl rfl ?_
  have p1 := last40_den a b a.length b.length false false rfl rfl (by omega) (by omega)
  have hr := lastH_range a b
  have pa := fun k h => behind40_den za k (by omega) h
  have pb := fun k h => behind40_den zb k (by omega) h
  have qa := fun k => best40_den (za.drop (k + 1)) m (by simp; omega)
  have qb := fun k => best40_den (zb.drop (k + 1)) m (by simp; omega)
  have la := fun k => bestN_lt (za.drop (k + 1)) m (by simp; omega) 256 (by omega)
  have pc := fun k y => cmp05_den (bestN (za.drop (k + 1)) m 256).1 y (dgl_le (la k))
  have na := behI_nat za
  have nb := behI_nat zb
  have hv : ∀ r, r = vrdN a b za zb m → r = (if (lastH a b).1 < 0 then 0 else cmpN (bestN (behI za (lastH a b).1) m 256).1 (bestN (behI zb (lastH a b).2) m 256).1) := fun r h => h
  obtain ⟨r, hre⟩ : ∃ r, r = vrdN a b za zb m := ⟨_, rfl⟩
  have hre2 := hv r hre
  rw [← hre]
  clear hv hre
  obtain ⟨i, hi⟩ : ∃ i, (lastH a b).1 = i := ⟨_, rfl⟩
  obtain ⟨k, hk⟩ : ∃ k, (lastH a b).2 = k := ⟨_, rfl⟩
  rw [hi, hk] at p1 hre2
  by_cases c : i < 0
  · rw [if_pos c] at hre2
    subst hre2
    unfold sideM sideL
    refine den_of Try.func40 rfl rfl (by simp [Try.ntmps40]) (fun X hX hO => ?_)
    rw [Try.ntmps40] at hX
    simp only [Try.results40]
    repeat' (first 
     | (with_reducible first | refine awp_scope ?_ | refine awp_seq ?_ | refine awp_block ?_)
     | ((with_reducible first | refine awp_label ?_ | refine awp_skip ?_); try simp only [thenA, inBlockA, noGotoA])
     | (with_reducible refine awp_exit ?_; simp only [thenA, inBlockA, noGotoA, if_true, Nat.reduceEqDiff, if_false, ↓reduceIte])
     | (with_reducible refine awp_ret ?_; (try simp only [thenA, inBlockA, noGotoA]); (try simp [-List.reduceReplicate, Nat.add_one_le_iff, -getElem?_pos, -getElem?_neg, List.getElem?_cons_zero, List.getElem?_cons_succ, iC, bC, c]))
     | ((with_reducible first | refine awp_reg 44 hX [2, 3, 4, 6, 7, 8, 9, 11, 22] ?_ | change postOf _ _ _ _ _); simp [-List.reduceReplicate, Nat.add_one_le_iff, -getElem?_pos, -getElem?_neg, List.getElem?_cons_zero, List.getElem?_cons_succ, iC, bC, c])
     | ((first | (refine (p1 _).det ?_)); try simp [-List.reduceReplicate, Nat.add_one_le_iff, -getElem?_pos, -getElem?_neg, List.getElem?_cons_zero, List.getElem?_cons_succ, iC, bC, c])
     | (with_reducible refine awp_if_b rfl (fun hc => ?_) (fun hc => ?_) <;> (try simp [-getElem?_pos, -getElem?_neg] at hc) <;> (try (exfalso; omega)))
     | ((with_reducible first | refine GuardK_b (fun hc => ?_) (fun hc => ?_)) <;> (try simp only [Bool.not_eq_true', Bool.not_eq_false', decide_eq_true_eq, decide_eq_false_iff_not] at hc) <;> (first | (exfalso; omega) | skip) <;> simp [-List.reduceReplicate, Nat.add_one_le_iff, -getElem?_pos, -getElem?_neg, List.getElem?_cons_zero, List.getElem?_cons_succ, iC, bC, c, hc])
     | (with_reducible refine And.intro (by omega) ?_)
     | fail)
  · rw [if_neg c] at hre2
    have hii : 0 ≤ i ∧ i < (a.length : Int) ∧ 0 ≤ k ∧ k < (b.length : Int) := by
      rcases hr with h | h
      · rw [h] at hi; simp at hi; omega
      · rw [hi, hk] at h; exact h
    obtain ⟨i', rfl⟩ : ∃ i' : Nat, i = (i' : Int) := ⟨i.toNat, by omega⟩
    obtain ⟨k', rfl⟩ : ∃ k' : Nat, k = (k' : Int) := ⟨k.toNat, by omega⟩
    have pa1 := pa i' (by omega)
    have pb1 := pb k' (by omega)
    have qa1 := qa i'
    have qb1 := qb k'
    rw [na, nb] at hre2
    have pc1 := pc i' (bestN (zb.drop (k' + 1)) m 256).1
    rw [← hre2] at pc1
    generalize bestN (za.drop (i' + 1)) m 256 = x at *
    generalize bestN (zb.drop (k' + 1)) m 256 = y at *
    generalize za.drop (i' + 1) = xa at *
    generalize zb.drop (k' + 1) = xb at *
    have c2 : ¬ ((i' : Int) < 0) := by omega
    unfold sideM sideL intsC at *
    refine den_of Try.func40 rfl rfl (by simp [Try.ntmps40]) (fun X hX hO => ?_)
    rw [Try.ntmps40] at hX
    simp only [Try.results40]
    repeat' (first 
     | (with_reducible first | refine awp_scope ?_ | refine awp_seq ?_ | refine awp_block ?_)
     | ((with_reducible first | refine awp_label ?_ | refine awp_skip ?_); try simp only [thenA, inBlockA, noGotoA])
     | (with_reducible refine awp_exit ?_; simp only [thenA, inBlockA, noGotoA, if_true, Nat.reduceEqDiff, if_false, ↓reduceIte])
     | (with_reducible refine awp_ret ?_; (try simp only [thenA, inBlockA, noGotoA]); (try simp [-List.reduceReplicate, Nat.add_one_le_iff, -getElem?_pos, -getElem?_neg, List.getElem?_cons_zero, List.getElem?_cons_succ, iC, bC, c2]))
     | ((with_reducible first | refine awp_reg 44 hX [2, 3, 4, 6, 7, 8, 9, 11, 22] ?_ | change postOf _ _ _ _ _); simp [-List.reduceReplicate, Nat.add_one_le_iff, -getElem?_pos, -getElem?_neg, List.getElem?_cons_zero, List.getElem?_cons_succ, iC, bC, c2])
     | ((first | (refine (p1 _).det ?_) | (refine (pa1 _).det ?_) | (refine (pb1 _).det ?_) | (refine (qa1 _).det ?_) | (refine (qb1 _).det ?_) | (refine (pc1 _).det ?_)); try simp [-List.reduceReplicate, Nat.add_one_le_iff, -getElem?_pos, -getElem?_neg, List.getElem?_cons_zero, List.getElem?_cons_succ, iC, bC, c2])
     | (with_reducible refine awp_if_b rfl (fun hc => ?_) (fun hc => ?_) <;> (try simp [-getElem?_pos, -getElem?_neg] at hc) <;> (try (exfalso; omega)))
     | ((with_reducible first | refine GuardK_b (fun hc => ?_) (fun hc => ?_)) <;> (try simp only [Bool.not_eq_true', Bool.not_eq_false', decide_eq_true_eq, decide_eq_false_iff_not] at hc) <;> (first | (exfalso; omega) | skip) <;> simp [-List.reduceReplicate, Nat.add_one_le_iff, -getElem?_pos, -getElem?_neg, List.getElem?_cons_zero, List.getElem?_cons_succ, iC, bC, c2, hc])
     | (with_reducible refine And.intro (by omega) ?_)
     | fail)
end Go.Av

set_option exponentiation.threshold 1000
set_option linter.unusedVariables false
set_option linter.unusedSimpArgs false
set_option maxRecDepth 100000
set_option maxHeartbeats 4000000
namespace Go.Av
open Go Go.Proofs Go.Proofs.Ytofomnllcmgfeaa Go.RowKit
/-! ### Limbs of an array within an object -/
set_option maxHeartbeats 8000000 in
theorem limbsM_den (v : Nat) (lv : Int) (hv0 : v < 2 ^ (64 * 5)) (ob : List Ob) (p : Nat) (hget : ob[p]? = some ⟨52, 1, false, 0, up (limL v ++ [iC lv]), none⟩) :
    Den Try.prog 45 [.ms p 0 0 5] ob (fun r ob' => r = .c (ndC (dg v)) ∧ ob' = ob) := by
  obtain ⟨l, hldef⟩ : ∃ l, l = [lim v 0, lim v 1, lim v 2, lim v 3, lim v 4] := ⟨_, rfl⟩
  obtain ⟨n, hn5⟩ : ∃ n, n = 5 := ⟨_, rfl⟩
  have hn : l.length = n := by rw [hldef, hn5]; rfl
  have hN : n ≤ 100000 := by omega
  have h0 : 0 < n := by omega
  have hl : ∀ x ∈ l, x < 18446744073709551616 := fun x hx => by
    rw [hldef] at hx
    simp only [List.mem_cons, List.not_mem_nil, or_false] at hx
    rcases hx with rfl | rfl | rfl | rfl | rfl <;> exact lim_lt _ _
  have hv5 : v64 l = v := by rw [hldef]; exact v64_lims v hv0
  obtain ⟨sc, hsc⟩ : ∃ sc, sc = limL v ++ [iC lv] := ⟨_, rfl⟩
  have hscl : sc.length = 6 := by rw [hsc]; rfl
  have hscg : ∀ i x, l[i]? = some x → sc[i]? = some (u64C x) := fun i x h => by
    rw [hldef] at h
    rw [hsc]
    have h5 : i < 5 := by have := (List.getElem?_eq_some_iff.1 h).1; simpa using this
    obtain rfl | rfl | rfl | rfl | rfl : i = 0 ∨ i = 1 ∨ i = 2 ∨ i = 3 ∨ i = 4 := by omega
    all_goals (simp at h; subst h; rfl)
  rw [← hsc] at hget
  have hpl := (List.getElem?_eq_some_iff.1 hget).1
  have hgo : ∀ o, (ob ++ [o])[p]? = some ⟨52, 1, false, 0, up sc, none⟩ := fun o => by rw [List.getElem?_append_left hpl]; exact hget
  clear hldef
  have hv : trm (d4s l) = dg v := by rw [trm_dg _ (d4s_lt l), d4s_val l hl, hv5]
  have p1 := trim_den (d4s l) false (4 * n) (by rw [d4s_len, hn]) (by omega)
  rw [hv] at p1
  have hst := d4s_take l
  have hsl := fun i => d4s_len (l.take i)
  have hs0 : d4s (l.take 0) = [] := rfl
  have hsn : d4s (l.take n) = d4s l := by rw [List.take_of_length_le (by omega)]
  obtain ⟨D, hD⟩ : ∃ D : Nat → List Nat, ∀ i, d4s (l.take i) = D i := ⟨_, fun _ => rfl⟩
  simp only [hD] at *
  have hDl : ∀ i, i ≤ n → (D i).length = 4 * i := fun i hi => by rw [hsl, List.length_take, Nat.min_eq_left (by omega)]
  clear hsl hD hv
  refine den_of Try.func45 rfl rfl (by simp [Try.ntmps45]) (fun X hX hO => ?_)
  rw [Try.ntmps45] at hX
  simp only [Try.results45]
  repeat' (first 
   | (with_reducible first | refine awp_scope ?_ | refine awp_seq ?_ | refine awp_block ?_)
   | ((with_reducible first | refine awp_label ?_ | refine awp_skip ?_); try simp only [thenA, inBlockA, noGotoA])
   | (with_reducible refine awp_exit ?_; simp only [thenA, inBlockA, noGotoA, if_true, Nat.reduceEqDiff, if_false, ↓reduceIte])
   | (with_reducible refine awp_ret ?_; (try simp only [thenA, inBlockA, noGotoA]); (try simp [-List.reduceReplicate, Nat.add_one_le_iff, -getElem?_pos, -getElem?_neg, List.getElem?_cons_zero, List.getElem?_cons_succ, hget]))
   | ((with_reducible first | refine awp_reg 31 hX [0, 2, 3, 4, 5, 6, 10, 18] ?_ | change postOf _ _ _ _ _); simp [-List.reduceReplicate, Nat.add_one_le_iff, -getElem?_pos, -getElem?_neg, List.getElem?_cons_zero, List.getElem?_cons_succ, hget])
   | (with_reducible refine awp_if_b rfl (fun hc => ?_) (fun hc => ?_) <;> (try simp [-getElem?_pos, -getElem?_neg] at hc) <;> (try (exfalso; omega)))
   | ((with_reducible first | refine GuardK_b (fun hc => ?_) (fun hc => ?_)) <;> (try simp only [Bool.not_eq_true', Bool.not_eq_false', decide_eq_true_eq, decide_eq_false_iff_not] at hc) <;> (first | (exfalso; omega) | skip) <;> simp [-List.reduceReplicate, Nat.add_one_le_iff, -getElem?_pos, -getElem?_neg, List.getElem?_cons_zero, List.getElem?_cons_succ, hget, hc])
   | ((with_reducible first | refine hother _ _ rfl ?_ | refine hother2 _ _ rfl ?_); simp only [inBlockA, thenA, noGotoA, Nat.reduceEqDiff, if_false, if_true, ↓reduceIte])
   | (with_reducible refine And.intro (by omega) ?_)
   | fail)
  refine awp_nil 3 3 1 (by simp) ?_
  simp
  refine awp_forU [0, 3, 4] (fun i (g : Nat × Bool) => [(3, .ms ob.length g.1 0 (4 * i)), (4, .c (iC i))]) (fun i (g : Nat × Bool) => ob ++ [⟨3, 1, g.2, g.1, up ((D i).map nI), none⟩]) (fun i (g : Nat × Bool) => True) (n) ((0, true)) (by first | trivial | (simp; done) | omega | (intros; simp at *; done)) (by simp [-List.reduceReplicate, keep, iC, hs0]) (by simp [-List.reduceReplicate, iC, hs0]) ?_
  rintro i g Q1 hi hH next hother
  conv => arg 5; arg 1; simp only [List.cons_append, List.nil_append, keep, get, Nat.reduceEqDiff, if_true, if_false, ↓reduceIte]
  have hwi := wrap_in ((i : Int) + 1) (by omega)
  by_cases hlt : i < n
  · obtain ⟨x, hx⟩ : ∃ x, l[i]? = some x := ⟨_, List.getElem?_eq_getElem (by omega)⟩
    have hxl := hl x (List.mem_of_getElem? hx)
    have hsi := hst i x hx
    have hdl := hDl i (by omega)
    have hsi2 := hscg i x hx
    have hn5' : (i : Int) < 5 := by omega
    have hi6 : i < 6 := by omega
    unfold u64C at hsi2
    repeat' (first 
     | (with_reducible first | refine awp_scope ?_ | refine awp_seq ?_ | refine awp_block ?_)
     | ((with_reducible first | refine awp_label ?_ | refine awp_skip ?_); try simp only [thenA, inBlockA, noGotoA])
     | (with_reducible refine awp_exit ?_; simp only [thenA, inBlockA, noGotoA, if_true, Nat.reduceEqDiff, if_false, ↓reduceIte])
     | (with_reducible refine awp_ret ?_; (try simp only [thenA, inBlockA, noGotoA]); (try simp [-List.reduceReplicate, Nat.add_one_le_iff, -getElem?_pos, -getElem?_neg, List.getElem?_cons_zero, List.getElem?_cons_succ, iC, hlt, hx, hgo, hsi2, hscl, hn5', hn5, hi6]))
     | ((with_reducible first | refine awp_reg 31 hX [0, 2, 3, 4, 5, 6, 10, 18] ?_ | change postOf _ _ _ _ _); simp [-List.reduceReplicate, Nat.add_one_le_iff, -getElem?_pos, -getElem?_neg, List.getElem?_cons_zero, List.getElem?_cons_succ, iC, hlt, hx, hgo, hsi2, hscl, hn5', hn5, hi6])
     | (with_reducible refine awp_if_b rfl (fun hc => ?_) (fun hc => ?_) <;> (try simp [-getElem?_pos, -getElem?_neg] at hc) <;> (try (exfalso; omega)))
     | ((with_reducible first | refine GuardK_b (fun hc => ?_) (fun hc => ?_)) <;> (try simp only [Bool.not_eq_true', Bool.not_eq_false', decide_eq_true_eq, decide_eq_false_iff_not] at hc) <;> (first | (exfalso; omega) | skip) <;> simp [-List.reduceReplicate, Nat.add_one_le_iff, -getElem?_pos, -getElem?_neg, List.getElem?_cons_zero, List.getElem?_cons_succ, iC, hlt, hx, hgo, hsi2, hscl, hn5', hn5, hi6, hc])
     | ((with_reducible first | refine hother _ _ rfl ?_ | refine hother2 _ _ rfl ?_); simp only [inBlockA, thenA, noGotoA, Nat.reduceEqDiff, if_false, if_true, ↓reduceIte])
     | (with_reducible refine And.intro (by omega) ?_)
     | fail)
    have next1 := next; have hother2 := hother; clear next hother
    have f1 : x / 65536 < 18446744073709551616 := by omega
    obtain ⟨XK, hXK0, hXK1, hXKb⟩ : ∃ XK : Nat → Nat, XK 0 = x ∧ (∀ k, XK (k + 1) = XK k / 65536) ∧ d4 x = [XK 0 % 65536, XK 1 % 65536, XK 2 % 65536, XK 3 % 65536] :=
      ⟨fun k => x / 65536 ^ k, by simp, fun k => by simp only; rw [Nat.div_div_eq_div_mul, Nat.pow_succ], by simp [d4, Nat.div_div_eq_div_mul]⟩
    have hXl : ∀ k, k ≤ 4 → XK k < 18446744073709551616 := by
      intro k
      induction k with
      | zero => intro _; omega
      | succ k ih => intro hk; have := ih (by omega); rw [hXK1]; omega
    obtain ⟨T, hT0, hT4, hT1, hTl⟩ : ∃ T : Nat → List Nat, T 0 = D i ∧ T 4 = D (i + 1) ∧ (∀ k, k < 4 → T (k + 1) = T k ++ [XK k % 65536]) ∧ ∀ k, k ≤ 4 → (T k).length = 4 * i + k := by
      refine ⟨fun k => D i ++ (d4 x).take k, by simp, by rw [hsi]; rfl, fun k hk => ?_, fun k hk => by simp [hdl, d4]; omega⟩
      rw [hXKb]
      match k, hk with
      | 0, _ => simp
      | 1, _ => simp
      | 2, _ => simp
      | 3, _ => simp
    rw [← hT0]
    clear hXKb hsi
    refine awp_forU [0, 3, 4, 5, 6] (fun k (q : Nat × Bool) => [(3, .ms ob.length q.1 0 (4 * i + k)), (5, .c (u64C (XK k))), (6, .c (iC k))]) (fun k (q : Nat × Bool) => ob ++ [⟨3, 1, q.2, q.1, up ((T k).map nI), none⟩]) (fun k (q : Nat × Bool) => True) (4) (g) (by first | trivial | (simp; done) | omega | (intros; simp at *; done)) (by simp [-List.reduceReplicate, keep, iC, u64C, hXK0]) (by simp [-List.reduceReplicate, iC, u64C, hXK0]) ?_
    rintro k q Q1 hi hH next hother
    conv => arg 5; arg 1; simp only [List.cons_append, List.nil_append, keep, get, Nat.reduceEqDiff, if_true, if_false, ↓reduceIte]
    have hwk := wrap_in ((k : Int) + 1) (by omega)
    by_cases hk4 : k < 4
    · have hk2 : (k : Int) < 4 := by omega
      have hxk := hXl k (by omega)
      have t1 := hT1 k hk4
      have tl := hTl k (by omega)
      have s1 := hXK1 k
      have m1 : ((XK k : Int)).tmod 65536 = ((XK k % 65536 : Nat) : Int) := rfl
      have w1 := wrap_in ((XK k % 65536 : Nat) : Int) (by have := Nat.mod_lt (XK k) (show 65536 > 0 by decide); omega)
      have m2 : ((XK k : Int)).tdiv 65536 = ((XK k / 65536 : Nat) : Int) := rfl
      have w2 := wrapU64 ((XK k / 65536 : Nat) : Int) (by omega)
      have hlt2 : (XK k / 65536 : Nat) < 18446744073709551616 := by omega
      rw [← s1] at m2 w2
      generalize XK (k + 1) = xk1 at *
      generalize XK k % 65536 = dk at *
      repeat' (first 
       | (with_reducible first | refine awp_scope ?_ | refine awp_seq ?_ | refine awp_block ?_)
       | ((with_reducible first | refine awp_label ?_ | refine awp_skip ?_); try simp only [thenA, inBlockA, noGotoA])
       | (with_reducible refine awp_exit ?_; simp only [thenA, inBlockA, noGotoA, if_true, Nat.reduceEqDiff, if_false, ↓reduceIte])
       | (with_reducible refine awp_ret ?_; (try simp only [thenA, inBlockA, noGotoA]); (try simp [-List.reduceReplicate, Nat.add_one_le_iff, -getElem?_pos, -getElem?_neg, List.getElem?_cons_zero, List.getElem?_cons_succ, iC, bC, u64C, nI, hk2, m1, w1, m2, w2, tl, roomB, hwk]))
       | ((with_reducible first | refine awp_reg 31 hX [0, 2, 3, 4, 5, 6, 10, 18] ?_ | change postOf _ _ _ _ _); simp [-List.reduceReplicate, Nat.add_one_le_iff, -getElem?_pos, -getElem?_neg, List.getElem?_cons_zero, List.getElem?_cons_succ, iC, bC, u64C, nI, hk2, m1, w1, m2, w2, tl, roomB, hwk])
       | (with_reducible refine awp_if_b rfl (fun hc => ?_) (fun hc => ?_) <;> (try simp [-getElem?_pos, -getElem?_neg] at hc) <;> (try (exfalso; omega)))
       | ((with_reducible first | refine GuardK_b (fun hc => ?_) (fun hc => ?_)) <;> (try simp only [Bool.not_eq_true', Bool.not_eq_false', decide_eq_true_eq, decide_eq_false_iff_not] at hc) <;> (first | (exfalso; omega) | skip) <;> simp [-List.reduceReplicate, Nat.add_one_le_iff, -getElem?_pos, -getElem?_neg, List.getElem?_cons_zero, List.getElem?_cons_succ, iC, bC, u64C, nI, hk2, m1, w1, m2, w2, tl, roomB, hwk, hc])
       | ((with_reducible first | refine hother _ _ rfl ?_ | refine hother2 _ _ rfl ?_); simp only [inBlockA, thenA, noGotoA, Nat.reduceEqDiff, if_false, if_true, ↓reduceIte])
       | (with_reducible refine And.intro (by omega) ?_)
       | fail)
      refine next _ _ ((q.1 + 1, false)) (by omega) (by first | trivial | omega | assumption) (by simp [-List.reduceReplicate, keep, iC, u64C, nI, t1, Nat.add_assoc]) (by simp [-List.reduceReplicate, iC, u64C, nI, t1, Nat.add_assoc])
    · have hk3 : k = 4 := by omega
      subst hk3
      have e4 : 4 * (i + 1) = 4 * i + 4 := by omega
      repeat' (first 
       | (with_reducible first | refine awp_scope ?_ | refine awp_seq ?_ | refine awp_block ?_)
       | ((with_reducible first | refine awp_label ?_ | refine awp_skip ?_); try simp only [thenA, inBlockA, noGotoA])
       | (with_reducible refine awp_exit ?_; simp only [thenA, inBlockA, noGotoA, if_true, Nat.reduceEqDiff, if_false, ↓reduceIte])
       | (with_reducible refine awp_ret ?_; (try simp only [thenA, inBlockA, noGotoA]); (try simp [-List.reduceReplicate, Nat.add_one_le_iff, -getElem?_pos, -getElem?_neg, List.getElem?_cons_zero, List.getElem?_cons_succ, iC, bC, u64C, hwi]))
       | ((with_reducible first | refine awp_reg 31 hX [0, 2, 3, 4, 5, 6, 10, 18] ?_ | change postOf _ _ _ _ _); simp [-List.reduceReplicate, Nat.add_one_le_iff, -getElem?_pos, -getElem?_neg, List.getElem?_cons_zero, List.getElem?_cons_succ, iC, bC, u64C, hwi])
       | (with_reducible refine awp_if_b rfl (fun hc => ?_) (fun hc => ?_) <;> (try simp [-getElem?_pos, -getElem?_neg] at hc) <;> (try (exfalso; omega)))
       | ((with_reducible first | refine GuardK_b (fun hc => ?_) (fun hc => ?_)) <;> (try simp only [Bool.not_eq_true', Bool.not_eq_false', decide_eq_true_eq, decide_eq_false_iff_not] at hc) <;> (first | (exfalso; omega) | skip) <;> simp [-List.reduceReplicate, Nat.add_one_le_iff, -getElem?_pos, -getElem?_neg, List.getElem?_cons_zero, List.getElem?_cons_succ, iC, bC, u64C, hwi, hc])
       | ((with_reducible first | refine hother _ _ rfl ?_ | refine hother2 _ _ rfl ?_); simp only [inBlockA, thenA, noGotoA, Nat.reduceEqDiff, if_false, if_true, ↓reduceIte])
       | (with_reducible refine And.intro (by omega) ?_)
       | fail)
      refine next1 _ _ (q) (by omega) (by first | trivial | omega | assumption) (by simp [-List.reduceReplicate, keep, iC, hT4, e4]) (by simp [-List.reduceReplicate, iC, hT4, e4])
  · have hi2 : i = n := by omega
    subst hi2
    have hexit := hother; clear hother next
    repeat' (first 
     | (with_reducible first | refine awp_scope ?_ | refine awp_seq ?_ | refine awp_block ?_)
     | ((with_reducible first | refine awp_label ?_ | refine awp_skip ?_); try simp only [thenA, inBlockA, noGotoA])
     | (with_reducible refine awp_exit ?_; simp only [thenA, inBlockA, noGotoA, if_true, Nat.reduceEqDiff, if_false, ↓reduceIte])
     | (with_reducible refine awp_ret ?_; (try simp only [thenA, inBlockA, noGotoA]); (try simp [-List.reduceReplicate, Nat.add_one_le_iff, -getElem?_pos, -getElem?_neg, List.getElem?_cons_zero, List.getElem?_cons_succ, iC, bC, hgo, hn5]))
     | ((with_reducible first | refine awp_reg 31 hX [0, 2, 3, 4, 5, 6, 10, 18] ?_ | change postOf _ _ _ _ _); simp [-List.reduceReplicate, Nat.add_one_le_iff, -getElem?_pos, -getElem?_neg, List.getElem?_cons_zero, List.getElem?_cons_succ, iC, bC, hgo, hn5])
     | (with_reducible refine awp_if_b rfl (fun hc => ?_) (fun hc => ?_) <;> (try simp [-getElem?_pos, -getElem?_neg] at hc) <;> (try (exfalso; omega)))
     | ((with_reducible first | refine GuardK_b (fun hc => ?_) (fun hc => ?_)) <;> (try simp only [Bool.not_eq_true', Bool.not_eq_false', decide_eq_true_eq, decide_eq_false_iff_not] at hc) <;> (first | (exfalso; omega) | skip) <;> simp [-List.reduceReplicate, Nat.add_one_le_iff, -getElem?_pos, -getElem?_neg, List.getElem?_cons_zero, List.getElem?_cons_succ, iC, bC, hgo, hn5, hc])
     | ((with_reducible first | refine hother _ _ rfl ?_ | refine hother2 _ _ rfl ?_); simp only [inBlockA, thenA, noGotoA, Nat.reduceEqDiff, if_false, if_true, ↓reduceIte])
     | (with_reducible refine And.intro (by omega) ?_)
     | fail)
    refine hexit _ _ rfl ?_
    simp only [inBlockA, thenA, ↓reduceIte]
    have hsn5 : D 5 = d4s l := by rw [← hn5]; exact hsn
    rw [hn5] at p1
    refine awp_frz2 3 ob [] [] _ ((D 5).map nI) 20 hO rfl (by simp [get]) rfl (by simp [ltB, hpl]) (by simp) ?_
    rw [hsn5]
    repeat' (first 
     | (with_reducible first | refine awp_scope ?_ | refine awp_seq ?_ | refine awp_block ?_)
     | ((with_reducible first | refine awp_label ?_ | refine awp_skip ?_); try simp only [thenA, inBlockA, noGotoA])
     | (with_reducible refine awp_exit ?_; simp only [thenA, inBlockA, noGotoA, if_true, Nat.reduceEqDiff, if_false, ↓reduceIte])
     | (with_reducible refine awp_ret ?_; (try simp only [thenA, inBlockA, noGotoA]); (try simp [-List.reduceReplicate, Nat.add_one_le_iff, -getElem?_pos, -getElem?_neg, List.getElem?_cons_zero, List.getElem?_cons_succ, iC, bC]))
     | ((with_reducible first | refine awp_reg 31 hX [0, 2, 3, 4, 5, 6, 10, 18] ?_ | change postOf _ _ _ _ _); simp [-List.reduceReplicate, Nat.add_one_le_iff, -getElem?_pos, -getElem?_neg, List.getElem?_cons_zero, List.getElem?_cons_succ, iC, bC])
     | ((first | (refine (p1 _).det ?_)); try simp [-List.reduceReplicate, Nat.add_one_le_iff, -getElem?_pos, -getElem?_neg, List.getElem?_cons_zero, List.getElem?_cons_succ, iC, bC])
     | (with_reducible refine awp_if_b rfl (fun hc => ?_) (fun hc => ?_) <;> (try simp [-getElem?_pos, -getElem?_neg] at hc) <;> (try (exfalso; omega)))
     | ((with_reducible first | refine GuardK_b (fun hc => ?_) (fun hc => ?_)) <;> (try simp only [Bool.not_eq_true', Bool.not_eq_false', decide_eq_true_eq, decide_eq_false_iff_not] at hc) <;> (first | (exfalso; omega) | skip) <;> simp [-List.reduceReplicate, Nat.add_one_le_iff, -getElem?_pos, -getElem?_neg, List.getElem?_cons_zero, List.getElem?_cons_succ, iC, bC, hc])
     | ((with_reducible first | refine hother _ _ rfl ?_ | refine hother2 _ _ rfl ?_); simp only [inBlockA, thenA, noGotoA, Nat.reduceEqDiff, if_false, if_true, ↓reduceIte])
     | (with_reducible refine And.intro (by omega) ?_)
     | fail)
end Go.Av

set_option exponentiation.threshold 1000
set_option linter.unusedVariables false
set_option linter.unusedSimpArgs false
set_option maxRecDepth 100000
set_option maxHeartbeats 4000000
namespace Go.Av
open Go Go.Proofs Go.Proofs.Ytofomnllcmgfeaa Go.RowKit
/-! ### DuelScores -/
def great42 (a : List H32) (za : List Int) : Bool := decide (40 < a.length) || decide (40 < za.length)
theorem great42_den (a : List H32) (za : List Int) : DenV Try.prog 35 [sideM a za] (.c (bC (great42 a za))) := by
  refine Den.frame rfl rfl ?_
  unfold sideM sideL great42
  refine den_of Try.func35 rfl rfl (by simp [Try.ntmps35]) (fun X hX hO => ?_)
  rw [Try.ntmps35] at hX
  simp only [Try.results35]
  by_cases c : 40 < a.length
  · have c2 : (40 : Int) < a.length := by omega
    repeat' (first 
     | (with_reducible first | refine awp_scope ?_ | refine awp_seq ?_ | refine awp_block ?_)
     | ((with_reducible first | refine awp_label ?_ | refine awp_skip ?_); try simp only [thenA, inBlockA, noGotoA])
     | (with_reducible refine awp_exit ?_; simp only [thenA, inBlockA, noGotoA, if_true, Nat.reduceEqDiff, if_false, ↓reduceIte])
     | (with_reducible refine awp_ret ?_; (try simp only [thenA, inBlockA, noGotoA]); (try simp [-List.reduceReplicate, Nat.add_one_le_iff, -getElem?_pos, -getElem?_neg, List.getElem?_cons_zero, List.getElem?_cons_succ, iC, bC, c, c2]))
     | ((with_reducible first | refine awp_reg 13 hX [1, 2] ?_ | change postOf _ _ _ _ _); simp [-List.reduceReplicate, Nat.add_one_le_iff, -getElem?_pos, -getElem?_neg, List.getElem?_cons_zero, List.getElem?_cons_succ, iC, bC, c, c2])
     | (with_reducible refine awp_if_b rfl (fun hc => ?_) (fun hc => ?_) <;> (try simp [-getElem?_pos, -getElem?_neg] at hc) <;> (try (exfalso; omega)))
     | ((with_reducible first | refine GuardK_b (fun hc => ?_) (fun hc => ?_)) <;> (try simp only [Bool.not_eq_true', Bool.not_eq_false', decide_eq_true_eq, decide_eq_false_iff_not] at hc) <;> (first | (exfalso; omega) | skip) <;> simp [-List.reduceReplicate, Nat.add_one_le_iff, -getElem?_pos, -getElem?_neg, List.getElem?_cons_zero, List.getElem?_cons_succ, iC, bC, c, c2, hc])
     | (with_reducible refine And.intro (by omega) ?_)
     | fail)
  · have c2 : ¬ (40 : Int) < a.length := by omega
    repeat' (first 
     | (with_reducible first | refine awp_scope ?_ | refine awp_seq ?_ | refine awp_block ?_)
     | ((with_reducible first | refine awp_label ?_ | refine awp_skip ?_); try simp only [thenA, inBlockA, noGotoA])
     | (with_reducible refine awp_exit ?_; simp only [thenA, inBlockA, noGotoA, if_true, Nat.reduceEqDiff, if_false, ↓reduceIte])
     | (with_reducible refine awp_ret ?_; (try simp only [thenA, inBlockA, noGotoA]); (try simp [-List.reduceReplicate, Nat.add_one_le_iff, -getElem?_pos, -getElem?_neg, List.getElem?_cons_zero, List.getElem?_cons_succ, iC, bC, c, c2]))
     | ((with_reducible first | refine awp_reg 13 hX [1, 2] ?_ | change postOf _ _ _ _ _); simp [-List.reduceReplicate, Nat.add_one_le_iff, -getElem?_pos, -getElem?_neg, List.getElem?_cons_zero, List.getElem?_cons_succ, iC, bC, c, c2])
     | (with_reducible refine awp_if_b rfl (fun hc => ?_) (fun hc => ?_) <;> (try simp [-getElem?_pos, -getElem?_neg] at hc) <;> (try (exfalso; omega)))
     | ((with_reducible first | refine GuardK_b (fun hc => ?_) (fun hc => ?_)) <;> (try simp only [Bool.not_eq_true', Bool.not_eq_false', decide_eq_true_eq, decide_eq_false_iff_not] at hc) <;> (first | (exfalso; omega) | skip) <;> simp [-List.reduceReplicate, Nat.add_one_le_iff, -getElem?_pos, -getElem?_neg, List.getElem?_cons_zero, List.getElem?_cons_succ, iC, bC, c, c2, hc])
     | (with_reducible refine And.intro (by omega) ?_)
     | fail)
    omega
theorem ours_den (a : List H32) (za : List Int) : DenV Try.prog 41 [sideM a za] (sideM a za) := by
  refine Den.frame rfl rfl ?_
  unfold sideM sideL
  refine den_of Try.func41 rfl rfl (by simp [Try.ntmps41]) (fun X hX hO => ?_)
  rw [Try.ntmps41] at hX
  simp only [Try.results41]
  repeat' (first 
   | (with_reducible first | refine awp_scope ?_ | refine awp_seq ?_ | refine awp_block ?_)
   | ((with_reducible first | refine awp_label ?_ | refine awp_skip ?_); try simp only [thenA, inBlockA, noGotoA])
   | (with_reducible refine awp_exit ?_; simp only [thenA, inBlockA, noGotoA, if_true, Nat.reduceEqDiff, if_false, ↓reduceIte])
   | (with_reducible refine awp_ret ?_; (try simp only [thenA, inBlockA, noGotoA]); (try simp [-List.reduceReplicate, Nat.add_one_le_iff, -getElem?_pos, -getElem?_neg, List.getElem?_cons_zero, List.getElem?_cons_succ, up]))
   | ((with_reducible first | refine awp_reg 8 hX [1, 2] ?_ | change postOf _ _ _ _ _); simp [-List.reduceReplicate, Nat.add_one_le_iff, -getElem?_pos, -getElem?_neg, List.getElem?_cons_zero, List.getElem?_cons_succ, up])
   | (with_reducible refine awp_if_b rfl (fun hc => ?_) (fun hc => ?_) <;> (try simp [-getElem?_pos, -getElem?_neg] at hc) <;> (try (exfalso; omega)))
   | ((with_reducible first | refine GuardK_b (fun hc => ?_) (fun hc => ?_)) <;> (try simp only [Bool.not_eq_true', Bool.not_eq_false', decide_eq_true_eq, decide_eq_false_iff_not] at hc) <;> (first | (exfalso; omega) | skip) <;> simp [-List.reduceReplicate, Nat.add_one_le_iff, -getElem?_pos, -getElem?_neg, List.getElem?_cons_zero, List.getElem?_cons_succ, up, hc])
   | (with_reducible refine And.intro (by omega) ?_)
   | fail)
theorem great42_no {a : List H32} {za : List Int} (h : great42 a za = false) : a.length ≤ 40 ∧ za.length ≤ 40 := by
  unfold great42 at h
  simp only [Bool.or_eq_false_iff, decide_eq_false_iff_not] at h
  omega
def hOf (b : UInt8) : H32 := ⟨b :: List.replicate 31 0, rfl⟩
theorem awake42_den : DenV Try.prog 36 [] (.c (bC true)) := by
  refine Den.frame rfl rfl ?_
  have p1 := verdict_den [hOf 1, hOf 2] [hOf 1, hOf 3] [256, 3] [256, 0] 1 (by simp) (by simp) (by simp) (by simp)
  have p2 := verdict_den [hOf 1, hOf 3] [hOf 1, hOf 2] [256, 0] [256, 3] 1 (by simp) (by simp) (by simp) (by simp)
  have p3 := verdict_den [hOf 1, hOf 2] [hOf 1, hOf 2] [256, 3] [256, 3] 1 (by simp) (by simp) (by simp) (by simp)
  rw [show vrdN [hOf 1, hOf 2] [hOf 1, hOf 3] [256, 3] [256, 0] 1 = 1 by decide +kernel] at p1
  rw [show vrdN [hOf 1, hOf 3] [hOf 1, hOf 2] [256, 0] [256, 3] 1 = -1 by decide +kernel] at p2
  rw [show vrdN [hOf 1, hOf 2] [hOf 1, hOf 2] [256, 3] [256, 3] 1 = 0 by decide +kernel] at p3
  have e12 : hsC [hOf 1, hOf 2] = (hOf 1).1.map bC8 ++ (hOf 2).1.map bC8 := by simp [hsC]
  have e13 : hsC [hOf 1, hOf 3] = (hOf 1).1.map bC8 ++ (hOf 3).1.map bC8 := by simp [hsC]
  unfold sideM sideL at p1 p2 p3
  rw [e12, e13] at p1 p2
  rw [e12] at p3
  have z0 : zeroT Try.prog 71 = some (up ((hOf 0).1.map bC8)) := by kernel_rfl
  have s1 : ((hOf 0).1.map bC8).set 0 (.v (.int .u8 1)) = (hOf 1).1.map bC8 := by rfl
  have s2 : ((hOf 0).1.map bC8).set 0 (.v (.int .u8 2)) = (hOf 2).1.map bC8 := by rfl
  have s3 : ((hOf 0).1.map bC8).set 0 (.v (.int .u8 3)) = (hOf 3).1.map bC8 := by rfl
  have l0 : ((hOf 0).1.map bC8).length = 32 := by rfl
  have l1 : ((hOf 1).1.map bC8).length = 32 := by rfl
  have l2 : ((hOf 2).1.map bC8).length = 32 := by rfl
  have l3 : ((hOf 3).1.map bC8).length = 32 := by rfl
  generalize (hOf 0).1.map bC8 = c0 at *
  generalize (hOf 1).1.map bC8 = c1 at *
  generalize (hOf 2).1.map bC8 = c2 at *
  generalize (hOf 3).1.map bC8 = c3 at *
  obtain ⟨y1, y2⟩ := lay_pair c0 c1 c2 32 l0 l1 l2 (by decide)
  obtain ⟨_, y3⟩ := lay_pair c0 c1 c3 32 l0 l1 l3 (by decide)
  have le2 : ∀ (x y : List C) (z w : List C) (x' y' z' w' : List C), LeMs [.agg (up [.sl x 2 true, .sl z 2 true]), .agg (up [.sl y 2 true, .sl w 2 true]), .c (iC 1)] [.agg (up [.sl x 2 false, .sl z 2 false]), .agg (up [.sl y 2 false, .sl w 2 false]), .c (iC 1)] := fun x y z w _ _ _ _ =>
    ⟨leM_agg ⟨leM_c (leC_full _ _ _), leM_c (leC_full _ _ _), trivial⟩, leM_agg ⟨leM_c (leC_full _ _ _), leM_c (leC_full _ _ _), trivial⟩, leM_refl _, trivial⟩
  have q1 := fun ob => (p1 ob).le (le2 _ _ _ _ [] [] [] [])
  have q2 := fun ob => (p2 ob).le (le2 _ _ _ _ [] [] [] [])
  have q3 := fun ob => (p3 ob).le (le2 _ _ _ _ [] [] [] [])
  simp only [List.map_cons, List.map_nil, iC] at q1 q2 q3
  refine den_of Try.func36 rfl rfl (by simp [Try.ntmps36]) (fun X hX hO => ?_)
  rw [Try.ntmps36] at hX
  simp only [Try.results36]
  repeat' (first 
   | (with_reducible first | refine awp_scope ?_ | refine awp_seq ?_ | refine awp_block ?_)
   | ((with_reducible first | refine awp_label ?_ | refine awp_skip ?_); try simp only [thenA, inBlockA, noGotoA])
   | (with_reducible refine awp_exit ?_; simp only [thenA, inBlockA, noGotoA, if_true, Nat.reduceEqDiff, if_false, ↓reduceIte])
   | (with_reducible refine awp_ret ?_; (try simp only [thenA, inBlockA, noGotoA]); (try simp [-List.reduceReplicate, Nat.add_one_le_iff, -getElem?_pos, -getElem?_neg, List.getElem?_cons_zero, List.getElem?_cons_succ, iC, bC, z0, s1, s2, s3, l0, l1, l2, l3, y1, y2, y3, -Tab.zero71]))
   | ((with_reducible first | refine awp_reg 29 hX [0, 1, 2] ?_ | change postOf _ _ _ _ _); simp [-List.reduceReplicate, Nat.add_one_le_iff, -getElem?_pos, -getElem?_neg, List.getElem?_cons_zero, List.getElem?_cons_succ, iC, bC, z0, s1, s2, s3, l0, l1, l2, l3, y1, y2, y3, -Tab.zero71])
   | ((first | (refine (q1 _).det ?_) | (refine (q2 _).det ?_) | (refine (q3 _).det ?_)); try simp [-List.reduceReplicate, Nat.add_one_le_iff, -getElem?_pos, -getElem?_neg, List.getElem?_cons_zero, List.getElem?_cons_succ, iC, bC, z0, s1, s2, s3, l0, l1, l2, l3, y1, y2, y3, -Tab.zero71])
   | (with_reducible refine awp_if_b rfl (fun hc => ?_) (fun hc => ?_) <;> (try simp [-getElem?_pos, -getElem?_neg] at hc) <;> (try (exfalso; omega)))
   | ((with_reducible first | refine GuardK_b (fun hc => ?_) (fun hc => ?_)) <;> (try simp only [Bool.not_eq_true', Bool.not_eq_false', decide_eq_true_eq, decide_eq_false_iff_not] at hc) <;> (first | (exfalso; omega) | skip) <;> simp [-List.reduceReplicate, Nat.add_one_le_iff, -getElem?_pos, -getElem?_neg, List.getElem?_cons_zero, List.getElem?_cons_succ, iC, bC, z0, s1, s2, s3, l0, l1, l2, l3, y1, y2, y3, -Tab.zero71, hc])
   | (with_reducible refine And.intro (by omega) ?_)
   | fail)
set_option maxHeartbeats 8000000 in
theorem duelScores_den (a b : List H32) (za zb : List Int) (m : Int) (ob : List Ob) : Den Try.prog 10 [sideM a za, sideM b zb, .c (iC m)] ob (fun r ob' => r = .c (bC true) ∧ ob' = ob) := by
  refine Den.frame rfl rfl ?_ ob
  have aw := awake42_den
  have g1 := great42_den a za
  have g2 := great42_den b zb
  have o1 := ours_den a za
  have o2 := ours_den b zb
  cases hg1 : great42 a za
  · cases hg2 : great42 b zb
    · obtain ⟨ha, hza⟩ := great42_no hg1
      obtain ⟨hb, hzb⟩ := great42_no hg2
      rw [hg1] at g1
      rw [hg2] at g2
      have p1 := scores_den a b za zb m (by omega) (by omega) (by omega) (by omega)
      have p2 := last40_den a b a.length b.length false false rfl rfl (by omega) (by omega)
      have p3 := verdict_den a b za zb m (by omega) (by omega) (by omega) (by omega)
      have p4 := verdict40_den a b za zb m (by omega) (by omega) (by omega) (by omega)
      have hr := lastH_range a b
      have pa := fun k h => behind40_den za k (by omega) h
      have pb := fun k h => behind40_den zb k (by omega) h
      have qa := fun k => best40_den (za.drop (k + 1)) m (by simp; omega)
      have qb := fun k => best40_den (zb.drop (k + 1)) m (by simp; omega)
      have la := fun k => bestN_lt (za.drop (k + 1)) m (by simp; omega) 256 (by omega)
      have lb := fun k => bestN_lt (zb.drop (k + 1)) m (by simp; omega) 256 (by omega)
      have na := behI_nat za
      have nb := behI_nat zb
      have lm := limbsM_den
      have sl : ∀ p, (scoreC p).length = 6 := fun _ => rfl
      have lyS : ∀ q, lay [M.c (C.v (.int .u64 0)), M.c (C.v (.int .u64 0)), M.c (C.v (.int .u64 0)), M.c (C.v (.int .u64 0)), M.c (C.v (.int .u64 0)), M.c (C.v (.int .i64 0))] 0 (up (scoreC q)) = up (scoreC q) := fun _ => rfl
      have s5 : ∀ q : Nat × Nat, (scoreC q)[5]? = some (iC q.2) := fun _ => rfl
      unfold argN at p1
      obtain ⟨i, hi⟩ : ∃ i, (lastH a b).1 = i := ⟨_, rfl⟩
      obtain ⟨k, hk⟩ : ∃ k, (lastH a b).2 = k := ⟨_, rfl⟩
      rw [hi, hk] at p1 p2
      generalize vrdN a b za zb m = vd at *
      by_cases c : i < 0
      · have c2 : ¬ 0 ≤ i := by omega
        simp only [c, if_true, decide_true, Bool.not_true] at p1
        unfold sideM sideL at *
        refine den_of Try.func10 rfl rfl (by simp [Try.ntmps10]) (fun X hX hO => ?_)
        rw [Try.ntmps10] at hX
        simp only [Try.results10]
        repeat' (first 
         | (with_reducible first | refine awp_scope ?_ | refine awp_seq ?_ | refine awp_block ?_)
         | ((with_reducible first | refine awp_label ?_ | refine awp_skip ?_); try simp only [thenA, inBlockA, noGotoA])
         | (with_reducible refine awp_exit ?_; simp only [thenA, inBlockA, noGotoA, if_true, Nat.reduceEqDiff, if_false, ↓reduceIte])
         | (with_reducible refine awp_ret ?_; (try simp only [thenA, inBlockA, noGotoA]); (try simp [-List.reduceReplicate, Nat.add_one_le_iff, -getElem?_pos, -getElem?_neg, List.getElem?_cons_zero, List.getElem?_cons_succ, iC, bC, c, c2, sl, lyS, s5]))
         | ((with_reducible first | refine awp_reg 116 hX [2, 3, 4, 6, 7, 8, 9, 10, 11, 12, 13, 14, 15, 21, 55, 57] ?_ | refine awp_drw 116 hX [2, 3, 4, 6, 7, 8, 9, 10, 11, 12, 13, 14, 15, 21, 55, 57] Tab.mixed (by kernel_rfl) ?_ | refine DEv_cut _ _ _ _ _ _ _ _ _ _ _ _ (by kernel_rfl) ?_ | change postOf _ _ _ _ _); simp [-List.reduceReplicate, Nat.add_one_le_iff, -getElem?_pos, -getElem?_neg, List.getElem?_cons_zero, List.getElem?_cons_succ, iC, bC, c, c2, sl, lyS, s5])
         | ((first | (refine (g1 _).det ?_) | (refine ⟨_, _, g1 _, fun _ => rfl, ?_⟩) | (refine (g2 _).det ?_) | (refine ⟨_, _, g2 _, fun _ => rfl, ?_⟩) | (refine (p1 _).det ?_) | (refine ⟨_, _, p1 _, fun _ => rfl, ?_⟩) | (refine (p2 _).det ?_) | (refine ⟨_, _, p2 _, fun _ => rfl, ?_⟩) | (refine (p3 _).det ?_) | (refine ⟨_, _, p3 _, fun _ => rfl, ?_⟩) | (refine (o1 _).det ?_) | (refine ⟨_, _, o1 _, fun _ => rfl, ?_⟩) | (refine (o2 _).det ?_) | (refine ⟨_, _, o2 _, fun _ => rfl, ?_⟩) | (refine (p4 _).det ?_) | (refine ⟨_, _, p4 _, fun _ => rfl, ?_⟩) | (refine (aw _).det ?_) | (refine ⟨_, _, aw _, fun _ => rfl, ?_⟩)); try simp [-List.reduceReplicate, Nat.add_one_le_iff, -getElem?_pos, -getElem?_neg, List.getElem?_cons_zero, List.getElem?_cons_succ, iC, bC, c, c2, sl, lyS, s5])
         | (with_reducible refine awp_if_b rfl (fun hc => ?_) (fun hc => ?_) <;> (try simp [-getElem?_pos, -getElem?_neg] at hc) <;> (try (exfalso; omega)))
         | ((with_reducible first | refine GuardK_b (fun hc => ?_) (fun hc => ?_) | refine DGuard_b _ _ _ _ _ _ _ _ _ _ (fun hc => ?_) (fun hc => ?_)) <;> (try simp only [Bool.not_eq_true', Bool.not_eq_false', decide_eq_true_eq, decide_eq_false_iff_not] at hc) <;> (first | (exfalso; omega) | skip) <;> simp [-List.reduceReplicate, Nat.add_one_le_iff, -getElem?_pos, -getElem?_neg, List.getElem?_cons_zero, List.getElem?_cons_succ, iC, bC, c, c2, sl, lyS, s5, hc])
         | (with_reducible refine And.intro (by omega) ?_)
         | fail)
      · have c2 : 0 ≤ i := by omega
        have hii : 0 ≤ i ∧ i < (a.length : Int) ∧ 0 ≤ k ∧ k < (b.length : Int) := by
          rcases hr with h | h
          · rw [h] at hi; simp at hi; omega
          · rw [hi, hk] at h; exact h
        obtain ⟨i', rfl⟩ : ∃ i' : Nat, i = (i' : Int) := ⟨i.toNat, by omega⟩
        obtain ⟨k', rfl⟩ : ∃ k' : Nat, k = (k' : Int) := ⟨k.toNat, by omega⟩
        have pa1 := pa i' (by omega)
        have pb1 := pb k' (by omega)
        have qa1 := qa i'
        have qb1 := qb k'
        rw [na, nb] at p1
        have la1 := la i'
        have lb1 := lb k'
        simp only [c, if_false, decide_false, Bool.not_false] at p1
        clear pa pb qa qb la lb na nb hr hi hk
        generalize bestN (za.drop (i' + 1)) m 256 = x at *
        generalize bestN (zb.drop (k' + 1)) m 256 = y at *
        generalize za.drop (i' + 1) = xa at *
        generalize zb.drop (k' + 1) = xb at *
        have pc1 := cmp05_den x.1 x.1 (dgl_le la1)
        have pc2 := cmp05_den y.1 y.1 (dgl_le lb1)
        rw [cmpN_eq] at pc1 pc2
        have lx := fun o0 o1 o3 : Ob => limbsM_den x.1 x.2 la1 [o0, o1, ⟨52, 1, false, 0, up (scoreC x), none⟩, o3] 2 rfl
        have ly := fun o0 o1 o2 : Ob => limbsM_den y.1 y.2 lb1 [o0, o1, o2, ⟨52, 1, false, 0, up (scoreC y), none⟩] 3 rfl
        unfold sideM sideL intsC at *
        refine den_of Try.func10 rfl rfl (by simp [Try.ntmps10]) (fun X hX hO => ?_)
        rw [Try.ntmps10] at hX
        simp only [Try.results10]
        repeat' (first 
         | (with_reducible first | refine awp_scope ?_ | refine awp_seq ?_ | refine awp_block ?_)
         | ((with_reducible first | refine awp_label ?_ | refine awp_skip ?_); try simp only [thenA, inBlockA, noGotoA])
         | (with_reducible refine awp_exit ?_; simp only [thenA, inBlockA, noGotoA, if_true, Nat.reduceEqDiff, if_false, ↓reduceIte])
         | (with_reducible refine awp_ret ?_; (try simp only [thenA, inBlockA, noGotoA]); (try simp [-List.reduceReplicate, Nat.add_one_le_iff, -getElem?_pos, -getElem?_neg, List.getElem?_cons_zero, List.getElem?_cons_succ, iC, bC, c, c2, sl, lyS, s5]))
         | ((with_reducible first | refine awp_reg 116 hX [2, 3, 4, 6, 7, 8, 9, 10, 11, 12, 13, 14, 15, 21, 55, 57] ?_ | refine awp_drw 116 hX [2, 3, 4, 6, 7, 8, 9, 10, 11, 12, 13, 14, 15, 21, 55, 57] Tab.mixed (by kernel_rfl) ?_ | refine DEv_cut _ _ _ _ _ _ _ _ _ _ _ _ (by kernel_rfl) ?_ | change postOf _ _ _ _ _); simp [-List.reduceReplicate, Nat.add_one_le_iff, -getElem?_pos, -getElem?_neg, List.getElem?_cons_zero, List.getElem?_cons_succ, iC, bC, c, c2, sl, lyS, s5])
         | ((first | (refine (g1 _).det ?_) | (refine ⟨_, _, g1 _, fun _ => rfl, ?_⟩) | (refine (g2 _).det ?_) | (refine ⟨_, _, g2 _, fun _ => rfl, ?_⟩) | (refine (p1 _).det ?_) | (refine ⟨_, _, p1 _, fun _ => rfl, ?_⟩) | (refine (p2 _).det ?_) | (refine ⟨_, _, p2 _, fun _ => rfl, ?_⟩) | (refine (p3 _).det ?_) | (refine ⟨_, _, p3 _, fun _ => rfl, ?_⟩) | (refine (o1 _).det ?_) | (refine ⟨_, _, o1 _, fun _ => rfl, ?_⟩) | (refine (o2 _).det ?_) | (refine ⟨_, _, o2 _, fun _ => rfl, ?_⟩) | (refine (p4 _).det ?_) | (refine ⟨_, _, p4 _, fun _ => rfl, ?_⟩) | (refine (aw _).det ?_) | (refine ⟨_, _, aw _, fun _ => rfl, ?_⟩) | (refine (pa1 _).det ?_) | (refine ⟨_, _, pa1 _, fun _ => rfl, ?_⟩) | (refine (qa1 _).det ?_) | (refine ⟨_, _, qa1 _, fun _ => rfl, ?_⟩) | (refine (pb1 _).det ?_) | (refine ⟨_, _, pb1 _, fun _ => rfl, ?_⟩) | (refine (qb1 _).det ?_) | (refine ⟨_, _, qb1 _, fun _ => rfl, ?_⟩) | (refine (pc1 _).det ?_) | (refine ⟨_, _, pc1 _, fun _ => rfl, ?_⟩) | (refine (pc2 _).det ?_) | (refine ⟨_, _, pc2 _, fun _ => rfl, ?_⟩) | (refine (lx _ _ _).det ?_) | (refine ⟨_, _, lx _ _ _, fun _ => rfl, ?_⟩) | (refine (ly _ _ _).det ?_) | (refine ⟨_, _, ly _ _ _, fun _ => rfl, ?_⟩)); try simp [-List.reduceReplicate, Nat.add_one_le_iff, -getElem?_pos, -getElem?_neg, List.getElem?_cons_zero, List.getElem?_cons_succ, iC, bC, c, c2, sl, lyS, s5])
         | (with_reducible refine awp_if_b rfl (fun hc => ?_) (fun hc => ?_) <;> (try simp [-getElem?_pos, -getElem?_neg] at hc) <;> (try (exfalso; omega)))
         | ((with_reducible first | refine GuardK_b (fun hc => ?_) (fun hc => ?_) | refine DGuard_b _ _ _ _ _ _ _ _ _ _ (fun hc => ?_) (fun hc => ?_)) <;> (try simp only [Bool.not_eq_true', Bool.not_eq_false', decide_eq_true_eq, decide_eq_false_iff_not] at hc) <;> (first | (exfalso; omega) | skip) <;> simp [-List.reduceReplicate, Nat.add_one_le_iff, -getElem?_pos, -getElem?_neg, List.getElem?_cons_zero, List.getElem?_cons_succ, iC, bC, c, c2, sl, lyS, s5, hc])
         | (with_reducible refine And.intro (by omega) ?_)
         | fail)
    · rw [hg1] at g1
      rw [hg2] at g2
      unfold sideM sideL at *
      refine den_of Try.func10 rfl rfl (by simp [Try.ntmps10]) (fun X hX hO => ?_)
      rw [Try.ntmps10] at hX
      simp only [Try.results10]
      repeat' (first 
       | (with_reducible first | refine awp_scope ?_ | refine awp_seq ?_ | refine awp_block ?_)
       | ((with_reducible first | refine awp_label ?_ | refine awp_skip ?_); try simp only [thenA, inBlockA, noGotoA])
       | (with_reducible refine awp_exit ?_; simp only [thenA, inBlockA, noGotoA, if_true, Nat.reduceEqDiff, if_false, ↓reduceIte])
       | (with_reducible refine awp_ret ?_; (try simp only [thenA, inBlockA, noGotoA]); (try simp [-List.reduceReplicate, Nat.add_one_le_iff, -getElem?_pos, -getElem?_neg, List.getElem?_cons_zero, List.getElem?_cons_succ, bC]))
       | ((with_reducible first | refine awp_reg 116 hX [2, 3, 4, 6, 7, 8, 9, 10, 11, 12, 13, 14, 15, 21, 55, 57] ?_ | refine awp_drw 116 hX [2, 3, 4, 6, 7, 8, 9, 10, 11, 12, 13, 14, 15, 21, 55, 57] Tab.mixed (by kernel_rfl) ?_ | refine DEv_cut _ _ _ _ _ _ _ _ _ _ _ _ (by kernel_rfl) ?_ | change postOf _ _ _ _ _); simp [-List.reduceReplicate, Nat.add_one_le_iff, -getElem?_pos, -getElem?_neg, List.getElem?_cons_zero, List.getElem?_cons_succ, bC])
       | ((first | (refine (g1 _).det ?_) | (refine ⟨_, _, g1 _, fun _ => rfl, ?_⟩) | (refine (g2 _).det ?_) | (refine ⟨_, _, g2 _, fun _ => rfl, ?_⟩) | (refine (aw _).det ?_) | (refine ⟨_, _, aw _, fun _ => rfl, ?_⟩)); try simp [-List.reduceReplicate, Nat.add_one_le_iff, -getElem?_pos, -getElem?_neg, List.getElem?_cons_zero, List.getElem?_cons_succ, bC])
       | (with_reducible refine awp_if_b rfl (fun hc => ?_) (fun hc => ?_) <;> (try simp [-getElem?_pos, -getElem?_neg] at hc) <;> (try (exfalso; omega)))
       | ((with_reducible first | refine GuardK_b (fun hc => ?_) (fun hc => ?_) | refine DGuard_b _ _ _ _ _ _ _ _ _ _ (fun hc => ?_) (fun hc => ?_)) <;> (try simp only [Bool.not_eq_true', Bool.not_eq_false', decide_eq_true_eq, decide_eq_false_iff_not] at hc) <;> (first | (exfalso; omega) | skip) <;> simp [-List.reduceReplicate, Nat.add_one_le_iff, -getElem?_pos, -getElem?_neg, List.getElem?_cons_zero, List.getElem?_cons_succ, bC, hc])
       | (with_reducible refine And.intro (by omega) ?_)
       | fail)
  · rw [hg1] at g1
    unfold sideM sideL at *
    refine den_of Try.func10 rfl rfl (by simp [Try.ntmps10]) (fun X hX hO => ?_)
    rw [Try.ntmps10] at hX
    simp only [Try.results10]
    repeat' (first 
     | (with_reducible first | refine awp_scope ?_ | refine awp_seq ?_ | refine awp_block ?_)
     | ((with_reducible first | refine awp_label ?_ | refine awp_skip ?_); try simp only [thenA, inBlockA, noGotoA])
     | (with_reducible refine awp_exit ?_; simp only [thenA, inBlockA, noGotoA, if_true, Nat.reduceEqDiff, if_false, ↓reduceIte])
     | (with_reducible refine awp_ret ?_; (try simp only [thenA, inBlockA, noGotoA]); (try simp [-List.reduceReplicate, Nat.add_one_le_iff, -getElem?_pos, -getElem?_neg, List.getElem?_cons_zero, List.getElem?_cons_succ, bC]))
     | ((with_reducible first | refine awp_reg 116 hX [2, 3, 4, 6, 7, 8, 9, 10, 11, 12, 13, 14, 15, 21, 55, 57] ?_ | refine awp_drw 116 hX [2, 3, 4, 6, 7, 8, 9, 10, 11, 12, 13, 14, 15, 21, 55, 57] Tab.mixed (by kernel_rfl) ?_ | refine DEv_cut _ _ _ _ _ _ _ _ _ _ _ _ (by kernel_rfl) ?_ | change postOf _ _ _ _ _); simp [-List.reduceReplicate, Nat.add_one_le_iff, -getElem?_pos, -getElem?_neg, List.getElem?_cons_zero, List.getElem?_cons_succ, bC])
     | ((first | (refine (g1 _).det ?_) | (refine ⟨_, _, g1 _, fun _ => rfl, ?_⟩) | (refine (aw _).det ?_) | (refine ⟨_, _, aw _, fun _ => rfl, ?_⟩)); try simp [-List.reduceReplicate, Nat.add_one_le_iff, -getElem?_pos, -getElem?_neg, List.getElem?_cons_zero, List.getElem?_cons_succ, bC])
     | (with_reducible refine awp_if_b rfl (fun hc => ?_) (fun hc => ?_) <;> (try simp [-getElem?_pos, -getElem?_neg] at hc) <;> (try (exfalso; omega)))
     | ((with_reducible first | refine GuardK_b (fun hc => ?_) (fun hc => ?_) | refine DGuard_b _ _ _ _ _ _ _ _ _ _ (fun hc => ?_) (fun hc => ?_)) <;> (try simp only [Bool.not_eq_true', Bool.not_eq_false', decide_eq_true_eq, decide_eq_false_iff_not] at hc) <;> (first | (exfalso; omega) | skip) <;> simp [-List.reduceReplicate, Nat.add_one_le_iff, -getElem?_pos, -getElem?_neg, List.getElem?_cons_zero, List.getElem?_cons_succ, bC, hc])
     | (with_reducible refine And.intro (by omega) ?_)
     | fail)
theorem opens_side {P : Program} {t tl th tb tn ti : TypeId} {fs : Array Field} (ht : P.underlying t = some (.struct fs)) (hl : P.underlying tl = some (.slice th)) (hh : P.underlying th = some (.array 32 tb)) (hb : P.underlying tb = some (.int .u8)) (hn : P.underlying tn = some (.slice ti)) (hi : P.underlying ti = some (.int .i64))
    (f0 : (fs[0]?).map (fun f => (f.offset, f.type)) = some (0, tl)) (f1 : (fs[1]?).map (fun f => (f.offset, f.type)) = some (1, tn)) (c0 : P.cellsOf t = 2) (c1 : P.cellsOf tl = 1) (c2 : P.cellsOf tn = 1) (c3 : P.cellsOf th = 32) (c4 : P.cellsOf tb = 1) (c5 : P.cellsOf ti = 1) :
    Opens P t (fun p : List H32 × List Int => sideL p.1 p.2) (fun p => p.1.length ≤ maxLen ∧ p.2.length ≤ maxLen) :=
  (((seg_field 0 0 1 ht f0 c1 (opens_hashes hl hh hb c4 c3)).app (seg_field 1 1 1 ht f1 c2 (opens_ints hn hi c5)) (fun _ => rfl)).opens ht c0).conv fun p hp => ⟨p, ⟨hp.1.1, hp.2.1⟩, rfl⟩
end Go.Av
