import Derived.Test.YtahcfdbjookojaaAvT30
import Derived.Test.YtahcfdbjookojaaAvTP
set_option linter.unusedVariables false
set_option linter.unusedSimpArgs false
set_option maxRecDepth 100000
set_option maxHeartbeats 4000000
namespace Go.Av
open Go Go.Proofs Go.Proofs.Ytahcfdbjookojaa Go.RowKit
/-! ### tag: sums -/
theorem leafSum_den (s : ByteArray) (hs : s.size ≤ 2000) : DenV Try.prog 34 [.c (.v (.string s))] (hashM (shaL (bsS (leafT s)))) := by
  have h1 : (bsS (leafT s)).size = s.size + 1 := by rw [bs_size]; simp [leafT]
  have h := sha_den (bsS (leafT s)) (by omega)
  have ht := leafText_den s (by omega)
  have hl := shaL_len (bsS (leafT s))
  generalize shaL (bsS (leafT s)) = x at *
  generalize bsS (leafT s) = y at *
  refine Den.frame rfl (lt_hash _ _) ?_
  refine den_of Try.func34 rfl rfl (by simp [Try.ntmps34]) (fun X hX hO => ?_)
  rw [Try.ntmps34] at hX
  simp only [Try.results34]
  have t1 := hash_take x hl
  repeat' (first 
    | with_reducible refine awp_scope ?_
    | with_reducible refine awp_seq ?_
    | with_reducible refine awp_block ?_
    | (with_reducible refine awp_label ?_; try simp only [thenA, inBlockA, noGotoA])
    | (with_reducible refine awp_skip ?_; try simp only [thenA, inBlockA, noGotoA])
    | (with_reducible refine awp_exit ?_; simp only [thenA, inBlockA, noGotoA, if_true, Nat.reduceEqDiff, if_false, ↓reduceIte])
    | (with_reducible refine awp_ret ?_; (try simp only [thenA, inBlockA, noGotoA]); (try simp [-List.reduceReplicate, Nat.add_one_le_iff, -getElem?_pos, -getElem?_neg, List.getElem?_cons_zero, List.getElem?_cons_succ, hashM, hl, t1]))
    | (with_reducible refine awp_reg 6 hX [0, 2] ?_; simp [-List.reduceReplicate, Nat.add_one_le_iff, -getElem?_pos, -getElem?_neg, List.getElem?_cons_zero, List.getElem?_cons_succ, hashM, hl, t1])
    | (with_reducible refine awp_drw 6 hX [0, 2] Tab.mixed (by kernel_rfl) ?_; simp [-List.reduceReplicate, Nat.add_one_le_iff, -getElem?_pos, -getElem?_neg, List.getElem?_cons_zero, List.getElem?_cons_succ, hashM, hl, t1])
    | (refine (ht _).det ?_; try simp [-List.reduceReplicate, Nat.add_one_le_iff, -getElem?_pos, -getElem?_neg, List.getElem?_cons_zero, List.getElem?_cons_succ, hashM, hl, t1])
    | (refine ⟨_, _, ht _, fun _ => rfl, ?_⟩; try simp [-List.reduceReplicate, Nat.add_one_le_iff, -getElem?_pos, -getElem?_neg, List.getElem?_cons_zero, List.getElem?_cons_succ, hashM, hl, t1])
    | (refine (h _).det ?_; try simp [-List.reduceReplicate, Nat.add_one_le_iff, -getElem?_pos, -getElem?_neg, List.getElem?_cons_zero, List.getElem?_cons_succ, hashM, hl, t1])
    | (refine ⟨_, _, h _, fun _ => rfl, ?_⟩; try simp [-List.reduceReplicate, Nat.add_one_le_iff, -getElem?_pos, -getElem?_neg, List.getElem?_cons_zero, List.getElem?_cons_succ, hashM, hl, t1])
    | (with_reducible refine awp_if_b rfl (fun hc => ?_) (fun hc => ?_) <;> (try simp [-getElem?_pos, -getElem?_neg] at hc) <;> (try (exfalso; omega)))
    | (with_reducible refine GuardK_b (fun hc => ?_) (fun hc => ?_) <;> (try simp only [Bool.not_eq_true', Bool.not_eq_false', decide_eq_true_eq, decide_eq_false_iff_not] at hc) <;> (first | (exfalso; omega) | skip) <;> simp [-List.reduceReplicate, Nat.add_one_le_iff, -getElem?_pos, -getElem?_neg, List.getElem?_cons_zero, List.getElem?_cons_succ, hashM, hl, t1, hc])
    | (with_reducible refine DGuard_b _ _ _ _ _ _ _ _ _ _ (fun hc => ?_) (fun hc => ?_) <;> (try simp only [Bool.not_eq_true', Bool.not_eq_false', decide_eq_true_eq, decide_eq_false_iff_not] at hc) <;> (first | (exfalso; omega) | skip) <;> simp [-List.reduceReplicate, Nat.add_one_le_iff, -getElem?_pos, -getElem?_neg, List.getElem?_cons_zero, List.getElem?_cons_succ, hashM, hl, t1, hc])
    | (with_reducible refine DEv_cut _ _ _ _ _ _ _ _ _ _ _ _ (by kernel_rfl) ?_; simp [-List.reduceReplicate, Nat.add_one_le_iff, -getElem?_pos, -getElem?_neg, List.getElem?_cons_zero, List.getElem?_cons_succ, hashM, hl, t1])
    | ((with_reducible refine hother _ _ rfl ?_); simp only [inBlockA, thenA, noGotoA, Nat.reduceEqDiff, if_false, if_true, ↓reduceIte])
    | ((with_reducible refine hother2 _ _ rfl ?_); simp only [inBlockA, thenA, noGotoA, Nat.reduceEqDiff, if_false, if_true, ↓reduceIte])
    | ((with_reducible refine hother3 _ _ rfl ?_); simp only [inBlockA, thenA, noGotoA, Nat.reduceEqDiff, if_false, if_true, ↓reduceIte])
    | (with_reducible refine And.intro (by omega) ?_)
    | (with_reducible change postOf _ _ _ _ _; simp [-List.reduceReplicate, Nat.add_one_le_iff, -getElem?_pos, -getElem?_neg, List.getElem?_cons_zero, List.getElem?_cons_succ, hashM, hl, t1])
    | fail)
theorem headerSum_den (s : ByteArray) (hs : s.size ≤ 2000) : DenV Try.prog 40 [.c (.v (.string s))] (hashM (shaL (bsS (headT s)))) := by
  have h1 : (bsS (headT s)).size = s.size + 1 := by rw [bs_size]; simp [headT]
  have h := sha_den (bsS (headT s)) (by omega)
  have ht := headerText_den s (by omega)
  have hl := shaL_len (bsS (headT s))
  generalize shaL (bsS (headT s)) = x at *
  generalize bsS (headT s) = y at *
  refine Den.frame rfl (lt_hash _ _) ?_
  refine den_of Try.func40 rfl rfl (by simp [Try.ntmps40]) (fun X hX hO => ?_)
  rw [Try.ntmps40] at hX
  simp only [Try.results40]
  have t1 := hash_take x hl
  repeat' (first 
    | with_reducible refine awp_scope ?_
    | with_reducible refine awp_seq ?_
    | with_reducible refine awp_block ?_
    | (with_reducible refine awp_label ?_; try simp only [thenA, inBlockA, noGotoA])
    | (with_reducible refine awp_skip ?_; try simp only [thenA, inBlockA, noGotoA])
    | (with_reducible refine awp_exit ?_; simp only [thenA, inBlockA, noGotoA, if_true, Nat.reduceEqDiff, if_false, ↓reduceIte])
    | (with_reducible refine awp_ret ?_; (try simp only [thenA, inBlockA, noGotoA]); (try simp [-List.reduceReplicate, Nat.add_one_le_iff, -getElem?_pos, -getElem?_neg, List.getElem?_cons_zero, List.getElem?_cons_succ, hashM, hl, t1]))
    | (with_reducible refine awp_reg 6 hX [0, 2] ?_; simp [-List.reduceReplicate, Nat.add_one_le_iff, -getElem?_pos, -getElem?_neg, List.getElem?_cons_zero, List.getElem?_cons_succ, hashM, hl, t1])
    | (with_reducible refine awp_drw 6 hX [0, 2] Tab.mixed (by kernel_rfl) ?_; simp [-List.reduceReplicate, Nat.add_one_le_iff, -getElem?_pos, -getElem?_neg, List.getElem?_cons_zero, List.getElem?_cons_succ, hashM, hl, t1])
    | (refine (ht _).det ?_; try simp [-List.reduceReplicate, Nat.add_one_le_iff, -getElem?_pos, -getElem?_neg, List.getElem?_cons_zero, List.getElem?_cons_succ, hashM, hl, t1])
    | (refine ⟨_, _, ht _, fun _ => rfl, ?_⟩; try simp [-List.reduceReplicate, Nat.add_one_le_iff, -getElem?_pos, -getElem?_neg, List.getElem?_cons_zero, List.getElem?_cons_succ, hashM, hl, t1])
    | (refine (h _).det ?_; try simp [-List.reduceReplicate, Nat.add_one_le_iff, -getElem?_pos, -getElem?_neg, List.getElem?_cons_zero, List.getElem?_cons_succ, hashM, hl, t1])
    | (refine ⟨_, _, h _, fun _ => rfl, ?_⟩; try simp [-List.reduceReplicate, Nat.add_one_le_iff, -getElem?_pos, -getElem?_neg, List.getElem?_cons_zero, List.getElem?_cons_succ, hashM, hl, t1])
    | (with_reducible refine awp_if_b rfl (fun hc => ?_) (fun hc => ?_) <;> (try simp [-getElem?_pos, -getElem?_neg] at hc) <;> (try (exfalso; omega)))
    | (with_reducible refine GuardK_b (fun hc => ?_) (fun hc => ?_) <;> (try simp only [Bool.not_eq_true', Bool.not_eq_false', decide_eq_true_eq, decide_eq_false_iff_not] at hc) <;> (first | (exfalso; omega) | skip) <;> simp [-List.reduceReplicate, Nat.add_one_le_iff, -getElem?_pos, -getElem?_neg, List.getElem?_cons_zero, List.getElem?_cons_succ, hashM, hl, t1, hc])
    | (with_reducible refine DGuard_b _ _ _ _ _ _ _ _ _ _ (fun hc => ?_) (fun hc => ?_) <;> (try simp only [Bool.not_eq_true', Bool.not_eq_false', decide_eq_true_eq, decide_eq_false_iff_not] at hc) <;> (first | (exfalso; omega) | skip) <;> simp [-List.reduceReplicate, Nat.add_one_le_iff, -getElem?_pos, -getElem?_neg, List.getElem?_cons_zero, List.getElem?_cons_succ, hashM, hl, t1, hc])
    | (with_reducible refine DEv_cut _ _ _ _ _ _ _ _ _ _ _ _ (by kernel_rfl) ?_; simp [-List.reduceReplicate, Nat.add_one_le_iff, -getElem?_pos, -getElem?_neg, List.getElem?_cons_zero, List.getElem?_cons_succ, hashM, hl, t1])
    | ((with_reducible refine hother _ _ rfl ?_); simp only [inBlockA, thenA, noGotoA, Nat.reduceEqDiff, if_false, if_true, ↓reduceIte])
    | ((with_reducible refine hother2 _ _ rfl ?_); simp only [inBlockA, thenA, noGotoA, Nat.reduceEqDiff, if_false, if_true, ↓reduceIte])
    | ((with_reducible refine hother3 _ _ rfl ?_); simp only [inBlockA, thenA, noGotoA, Nat.reduceEqDiff, if_false, if_true, ↓reduceIte])
    | (with_reducible refine And.intro (by omega) ?_)
    | (with_reducible change postOf _ _ _ _ _; simp [-List.reduceReplicate, Nat.add_one_le_iff, -getElem?_pos, -getElem?_neg, List.getElem?_cons_zero, List.getElem?_cons_succ, hashM, hl, t1])
    | fail)
theorem nodeSum_den (a b : List UInt8) (ha : a.length = 32) (hb : b.length = 32) : DenV Try.prog 36 [hashM a, hashM b] (hashM (shaL (bsS (nodeT a b)))) := by
  have h1 : (bsS (nodeT a b)).size = 65 := by rw [bs_size]; simp [nodeT, ha, hb]
  have h := sha_den (bsS (nodeT a b)) (by omega)
  have ht := nodeText_den a b ha hb
  have hl := shaL_len (bsS (nodeT a b))
  generalize shaL (bsS (nodeT a b)) = x at *
  generalize bsS (nodeT a b) = y at *
  refine Den.frame (by simp [ltBs, lt_hash]) (lt_hash _ _) ?_
  refine den_of Try.func36 rfl rfl (by simp [Try.ntmps36]) (fun X hX hO => ?_)
  rw [Try.ntmps36] at hX
  simp only [Try.results36]
  have t1 := hash_take x hl
  have t2 := hash_take a ha
  have t3 := hash_take b hb
  repeat' (first 
    | with_reducible refine awp_scope ?_
    | with_reducible refine awp_seq ?_
    | with_reducible refine awp_block ?_
    | (with_reducible refine awp_label ?_; try simp only [thenA, inBlockA, noGotoA])
    | (with_reducible refine awp_skip ?_; try simp only [thenA, inBlockA, noGotoA])
    | (with_reducible refine awp_exit ?_; simp only [thenA, inBlockA, noGotoA, if_true, Nat.reduceEqDiff, if_false, ↓reduceIte])
    | (with_reducible refine awp_ret ?_; (try simp only [thenA, inBlockA, noGotoA]); (try simp [-List.reduceReplicate, Nat.add_one_le_iff, -getElem?_pos, -getElem?_neg, List.getElem?_cons_zero, List.getElem?_cons_succ, hashM, hl, ha, hb, t1, t2, t3]))
    | (with_reducible refine awp_reg 9 hX [2, 3, 4] ?_; simp [-List.reduceReplicate, Nat.add_one_le_iff, -getElem?_pos, -getElem?_neg, List.getElem?_cons_zero, List.getElem?_cons_succ, hashM, hl, ha, hb, t1, t2, t3])
    | (with_reducible refine awp_drw 9 hX [2, 3, 4] Tab.mixed (by kernel_rfl) ?_; simp [-List.reduceReplicate, Nat.add_one_le_iff, -getElem?_pos, -getElem?_neg, List.getElem?_cons_zero, List.getElem?_cons_succ, hashM, hl, ha, hb, t1, t2, t3])
    | (refine (ht _).det ?_; try simp [-List.reduceReplicate, Nat.add_one_le_iff, -getElem?_pos, -getElem?_neg, List.getElem?_cons_zero, List.getElem?_cons_succ, hashM, hl, ha, hb, t1, t2, t3])
    | (refine ⟨_, _, ht _, fun _ => rfl, ?_⟩; try simp [-List.reduceReplicate, Nat.add_one_le_iff, -getElem?_pos, -getElem?_neg, List.getElem?_cons_zero, List.getElem?_cons_succ, hashM, hl, ha, hb, t1, t2, t3])
    | (refine (h _).det ?_; try simp [-List.reduceReplicate, Nat.add_one_le_iff, -getElem?_pos, -getElem?_neg, List.getElem?_cons_zero, List.getElem?_cons_succ, hashM, hl, ha, hb, t1, t2, t3])
    | (refine ⟨_, _, h _, fun _ => rfl, ?_⟩; try simp [-List.reduceReplicate, Nat.add_one_le_iff, -getElem?_pos, -getElem?_neg, List.getElem?_cons_zero, List.getElem?_cons_succ, hashM, hl, ha, hb, t1, t2, t3])
    | (with_reducible refine awp_if_b rfl (fun hc => ?_) (fun hc => ?_) <;> (try simp [-getElem?_pos, -getElem?_neg] at hc) <;> (try (exfalso; omega)))
    | (with_reducible refine GuardK_b (fun hc => ?_) (fun hc => ?_) <;> (try simp only [Bool.not_eq_true', Bool.not_eq_false', decide_eq_true_eq, decide_eq_false_iff_not] at hc) <;> (first | (exfalso; omega) | skip) <;> simp [-List.reduceReplicate, Nat.add_one_le_iff, -getElem?_pos, -getElem?_neg, List.getElem?_cons_zero, List.getElem?_cons_succ, hashM, hl, ha, hb, t1, t2, t3, hc])
    | (with_reducible refine DGuard_b _ _ _ _ _ _ _ _ _ _ (fun hc => ?_) (fun hc => ?_) <;> (try simp only [Bool.not_eq_true', Bool.not_eq_false', decide_eq_true_eq, decide_eq_false_iff_not] at hc) <;> (first | (exfalso; omega) | skip) <;> simp [-List.reduceReplicate, Nat.add_one_le_iff, -getElem?_pos, -getElem?_neg, List.getElem?_cons_zero, List.getElem?_cons_succ, hashM, hl, ha, hb, t1, t2, t3, hc])
    | (with_reducible refine DEv_cut _ _ _ _ _ _ _ _ _ _ _ _ (by kernel_rfl) ?_; simp [-List.reduceReplicate, Nat.add_one_le_iff, -getElem?_pos, -getElem?_neg, List.getElem?_cons_zero, List.getElem?_cons_succ, hashM, hl, ha, hb, t1, t2, t3])
    | ((with_reducible refine hother _ _ rfl ?_); simp only [inBlockA, thenA, noGotoA, Nat.reduceEqDiff, if_false, if_true, ↓reduceIte])
    | ((with_reducible refine hother2 _ _ rfl ?_); simp only [inBlockA, thenA, noGotoA, Nat.reduceEqDiff, if_false, if_true, ↓reduceIte])
    | ((with_reducible refine hother3 _ _ rfl ?_); simp only [inBlockA, thenA, noGotoA, Nat.reduceEqDiff, if_false, if_true, ↓reduceIte])
    | (with_reducible refine And.intro (by omega) ?_)
    | (with_reducible change postOf _ _ _ _ _; simp [-List.reduceReplicate, Nat.add_one_le_iff, -getElem?_pos, -getElem?_neg, List.getElem?_cons_zero, List.getElem?_cons_succ, hashM, hl, ha, hb, t1, t2, t3])
    | fail)
theorem rootSum_den (n : Nat) (a : List UInt8) (hn : n < 18446744073709551616) (ha : a.length = 32) : DenV Try.prog 38 [.c (u64C n), hashM a] (hashM (shaL (bsS (rootT n a)))) := by
  have h1 : (bsS (rootT n a)).size = 41 := by rw [bs_size]; simp [rootT, ha, putN_len]
  have h := sha_den (bsS (rootT n a)) (by omega)
  have ht := rootText_den n a hn ha
  have hl := shaL_len (bsS (rootT n a))
  generalize shaL (bsS (rootT n a)) = x at *
  generalize bsS (rootT n a) = y at *
  refine Den.frame (by simp [ltBs, ltB, lt_hash]) (lt_hash _ _) ?_
  refine den_of Try.func38 rfl rfl (by simp [Try.ntmps38]) (fun X hX hO => ?_)
  rw [Try.ntmps38] at hX
  simp only [Try.results38]
  have t1 := hash_take x hl
  have t2 := hash_take a ha
  repeat' (first 
    | with_reducible refine awp_scope ?_
    | with_reducible refine awp_seq ?_
    | with_reducible refine awp_block ?_
    | (with_reducible refine awp_label ?_; try simp only [thenA, inBlockA, noGotoA])
    | (with_reducible refine awp_skip ?_; try simp only [thenA, inBlockA, noGotoA])
    | (with_reducible refine awp_exit ?_; simp only [thenA, inBlockA, noGotoA, if_true, Nat.reduceEqDiff, if_false, ↓reduceIte])
    | (with_reducible refine awp_ret ?_; (try simp only [thenA, inBlockA, noGotoA]); (try simp [-List.reduceReplicate, Nat.add_one_le_iff, -getElem?_pos, -getElem?_neg, List.getElem?_cons_zero, List.getElem?_cons_succ, hashM, hl, ha, t1, t2, u64C]))
    | (with_reducible refine awp_reg 9 hX [0, 3, 4] ?_; simp [-List.reduceReplicate, Nat.add_one_le_iff, -getElem?_pos, -getElem?_neg, List.getElem?_cons_zero, List.getElem?_cons_succ, hashM, hl, ha, t1, t2, u64C])
    | (with_reducible refine awp_drw 9 hX [0, 3, 4] Tab.mixed (by kernel_rfl) ?_; simp [-List.reduceReplicate, Nat.add_one_le_iff, -getElem?_pos, -getElem?_neg, List.getElem?_cons_zero, List.getElem?_cons_succ, hashM, hl, ha, t1, t2, u64C])
    | (refine (ht _).det ?_; try simp [-List.reduceReplicate, Nat.add_one_le_iff, -getElem?_pos, -getElem?_neg, List.getElem?_cons_zero, List.getElem?_cons_succ, hashM, hl, ha, t1, t2, u64C])
    | (refine ⟨_, _, ht _, fun _ => rfl, ?_⟩; try simp [-List.reduceReplicate, Nat.add_one_le_iff, -getElem?_pos, -getElem?_neg, List.getElem?_cons_zero, List.getElem?_cons_succ, hashM, hl, ha, t1, t2, u64C])
    | (refine (h _).det ?_; try simp [-List.reduceReplicate, Nat.add_one_le_iff, -getElem?_pos, -getElem?_neg, List.getElem?_cons_zero, List.getElem?_cons_succ, hashM, hl, ha, t1, t2, u64C])
    | (refine ⟨_, _, h _, fun _ => rfl, ?_⟩; try simp [-List.reduceReplicate, Nat.add_one_le_iff, -getElem?_pos, -getElem?_neg, List.getElem?_cons_zero, List.getElem?_cons_succ, hashM, hl, ha, t1, t2, u64C])
    | (with_reducible refine awp_if_b rfl (fun hc => ?_) (fun hc => ?_) <;> (try simp [-getElem?_pos, -getElem?_neg] at hc) <;> (try (exfalso; omega)))
    | (with_reducible refine GuardK_b (fun hc => ?_) (fun hc => ?_) <;> (try simp only [Bool.not_eq_true', Bool.not_eq_false', decide_eq_true_eq, decide_eq_false_iff_not] at hc) <;> (first | (exfalso; omega) | skip) <;> simp [-List.reduceReplicate, Nat.add_one_le_iff, -getElem?_pos, -getElem?_neg, List.getElem?_cons_zero, List.getElem?_cons_succ, hashM, hl, ha, t1, t2, u64C, hc])
    | (with_reducible refine DGuard_b _ _ _ _ _ _ _ _ _ _ (fun hc => ?_) (fun hc => ?_) <;> (try simp only [Bool.not_eq_true', Bool.not_eq_false', decide_eq_true_eq, decide_eq_false_iff_not] at hc) <;> (first | (exfalso; omega) | skip) <;> simp [-List.reduceReplicate, Nat.add_one_le_iff, -getElem?_pos, -getElem?_neg, List.getElem?_cons_zero, List.getElem?_cons_succ, hashM, hl, ha, t1, t2, u64C, hc])
    | (with_reducible refine DEv_cut _ _ _ _ _ _ _ _ _ _ _ _ (by kernel_rfl) ?_; simp [-List.reduceReplicate, Nat.add_one_le_iff, -getElem?_pos, -getElem?_neg, List.getElem?_cons_zero, List.getElem?_cons_succ, hashM, hl, ha, t1, t2, u64C])
    | ((with_reducible refine hother _ _ rfl ?_); simp only [inBlockA, thenA, noGotoA, Nat.reduceEqDiff, if_false, if_true, ↓reduceIte])
    | ((with_reducible refine hother2 _ _ rfl ?_); simp only [inBlockA, thenA, noGotoA, Nat.reduceEqDiff, if_false, if_true, ↓reduceIte])
    | ((with_reducible refine hother3 _ _ rfl ?_); simp only [inBlockA, thenA, noGotoA, Nat.reduceEqDiff, if_false, if_true, ↓reduceIte])
    | (with_reducible refine And.intro (by omega) ?_)
    | (with_reducible change postOf _ _ _ _ _; simp [-List.reduceReplicate, Nat.add_one_le_iff, -getElem?_pos, -getElem?_neg, List.getElem?_cons_zero, List.getElem?_cons_succ, hashM, hl, ha, t1, t2, u64C])
    | fail)
theorem leaf03_den (s : ByteArray) (hs : s.size ≤ 2000) : DenV Try.prog 35 [.c (.v (.string s))] (hashM (shaL (bsS (leafT s)))) := by
  have h1 : (bsS (leafT s)).size = s.size + 1 := by rw [bs_size]; simp [leafT]
  have h := sha02_den (bsS (leafT s)) (by omega)
  have ht := leafText03_den s (by omega)
  have hl := shaL_len (bsS (leafT s))
  generalize shaL (bsS (leafT s)) = x at *
  generalize bsS (leafT s) = y at *
  refine Den.frame rfl (lt_hash _ _) ?_
  refine den_of Try.func35 rfl rfl (by simp [Try.ntmps35]) (fun X hX hO => ?_)
  rw [Try.ntmps35] at hX
  simp only [Try.results35]
  have t1 := hash_take x hl
  repeat' (first 
    | with_reducible refine awp_scope ?_
    | with_reducible refine awp_seq ?_
    | with_reducible refine awp_block ?_
    | (with_reducible refine awp_label ?_; try simp only [thenA, inBlockA, noGotoA])
    | (with_reducible refine awp_skip ?_; try simp only [thenA, inBlockA, noGotoA])
    | (with_reducible refine awp_exit ?_; simp only [thenA, inBlockA, noGotoA, if_true, Nat.reduceEqDiff, if_false, ↓reduceIte])
    | (with_reducible refine awp_ret ?_; (try simp only [thenA, inBlockA, noGotoA]); (try simp [-List.reduceReplicate, Nat.add_one_le_iff, -getElem?_pos, -getElem?_neg, List.getElem?_cons_zero, List.getElem?_cons_succ, hashM, hl, t1]))
    | (with_reducible refine awp_reg 6 hX [0, 2] ?_; simp [-List.reduceReplicate, Nat.add_one_le_iff, -getElem?_pos, -getElem?_neg, List.getElem?_cons_zero, List.getElem?_cons_succ, hashM, hl, t1])
    | (with_reducible refine awp_drw 6 hX [0, 2] Tab.mixed (by kernel_rfl) ?_; simp [-List.reduceReplicate, Nat.add_one_le_iff, -getElem?_pos, -getElem?_neg, List.getElem?_cons_zero, List.getElem?_cons_succ, hashM, hl, t1])
    | (refine (ht _).det ?_; try simp [-List.reduceReplicate, Nat.add_one_le_iff, -getElem?_pos, -getElem?_neg, List.getElem?_cons_zero, List.getElem?_cons_succ, hashM, hl, t1])
    | (refine ⟨_, _, ht _, fun _ => rfl, ?_⟩; try simp [-List.reduceReplicate, Nat.add_one_le_iff, -getElem?_pos, -getElem?_neg, List.getElem?_cons_zero, List.getElem?_cons_succ, hashM, hl, t1])
    | (refine (h _).det ?_; try simp [-List.reduceReplicate, Nat.add_one_le_iff, -getElem?_pos, -getElem?_neg, List.getElem?_cons_zero, List.getElem?_cons_succ, hashM, hl, t1])
    | (refine ⟨_, _, h _, fun _ => rfl, ?_⟩; try simp [-List.reduceReplicate, Nat.add_one_le_iff, -getElem?_pos, -getElem?_neg, List.getElem?_cons_zero, List.getElem?_cons_succ, hashM, hl, t1])
    | (with_reducible refine awp_if_b rfl (fun hc => ?_) (fun hc => ?_) <;> (try simp [-getElem?_pos, -getElem?_neg] at hc) <;> (try (exfalso; omega)))
    | (with_reducible refine GuardK_b (fun hc => ?_) (fun hc => ?_) <;> (try simp only [Bool.not_eq_true', Bool.not_eq_false', decide_eq_true_eq, decide_eq_false_iff_not] at hc) <;> (first | (exfalso; omega) | skip) <;> simp [-List.reduceReplicate, Nat.add_one_le_iff, -getElem?_pos, -getElem?_neg, List.getElem?_cons_zero, List.getElem?_cons_succ, hashM, hl, t1, hc])
    | (with_reducible refine DGuard_b _ _ _ _ _ _ _ _ _ _ (fun hc => ?_) (fun hc => ?_) <;> (try simp only [Bool.not_eq_true', Bool.not_eq_false', decide_eq_true_eq, decide_eq_false_iff_not] at hc) <;> (first | (exfalso; omega) | skip) <;> simp [-List.reduceReplicate, Nat.add_one_le_iff, -getElem?_pos, -getElem?_neg, List.getElem?_cons_zero, List.getElem?_cons_succ, hashM, hl, t1, hc])
    | (with_reducible refine DEv_cut _ _ _ _ _ _ _ _ _ _ _ _ (by kernel_rfl) ?_; simp [-List.reduceReplicate, Nat.add_one_le_iff, -getElem?_pos, -getElem?_neg, List.getElem?_cons_zero, List.getElem?_cons_succ, hashM, hl, t1])
    | ((with_reducible refine hother _ _ rfl ?_); simp only [inBlockA, thenA, noGotoA, Nat.reduceEqDiff, if_false, if_true, ↓reduceIte])
    | ((with_reducible refine hother2 _ _ rfl ?_); simp only [inBlockA, thenA, noGotoA, Nat.reduceEqDiff, if_false, if_true, ↓reduceIte])
    | ((with_reducible refine hother3 _ _ rfl ?_); simp only [inBlockA, thenA, noGotoA, Nat.reduceEqDiff, if_false, if_true, ↓reduceIte])
    | (with_reducible refine And.intro (by omega) ?_)
    | (with_reducible change postOf _ _ _ _ _; simp [-List.reduceReplicate, Nat.add_one_le_iff, -getElem?_pos, -getElem?_neg, List.getElem?_cons_zero, List.getElem?_cons_succ, hashM, hl, t1])
    | fail)
theorem node03_den (a b : List UInt8) (ha : a.length = 32) (hb : b.length = 32) : DenV Try.prog 37 [hashM a, hashM b] (hashM (shaL (bsS (nodeT a b)))) := by
  have h1 : (bsS (nodeT a b)).size = 65 := by rw [bs_size]; simp [nodeT, ha, hb]
  have h := sha02_den (bsS (nodeT a b)) (by omega)
  have ht := nodeText03_den a b ha hb
  have hl := shaL_len (bsS (nodeT a b))
  generalize shaL (bsS (nodeT a b)) = x at *
  generalize bsS (nodeT a b) = y at *
  refine Den.frame (by simp [ltBs, lt_hash]) (lt_hash _ _) ?_
  refine den_of Try.func37 rfl rfl (by simp [Try.ntmps37]) (fun X hX hO => ?_)
  rw [Try.ntmps37] at hX
  simp only [Try.results37]
  have t1 := hash_take x hl
  have t2 := hash_take a ha
  have t3 := hash_take b hb
  repeat' (first 
    | with_reducible refine awp_scope ?_
    | with_reducible refine awp_seq ?_
    | with_reducible refine awp_block ?_
    | (with_reducible refine awp_label ?_; try simp only [thenA, inBlockA, noGotoA])
    | (with_reducible refine awp_skip ?_; try simp only [thenA, inBlockA, noGotoA])
    | (with_reducible refine awp_exit ?_; simp only [thenA, inBlockA, noGotoA, if_true, Nat.reduceEqDiff, if_false, ↓reduceIte])
    | (with_reducible refine awp_ret ?_; (try simp only [thenA, inBlockA, noGotoA]); (try simp [-List.reduceReplicate, Nat.add_one_le_iff, -getElem?_pos, -getElem?_neg, List.getElem?_cons_zero, List.getElem?_cons_succ, hashM, hl, ha, hb, t1, t2, t3]))
    | (with_reducible refine awp_reg 9 hX [2, 3, 4] ?_; simp [-List.reduceReplicate, Nat.add_one_le_iff, -getElem?_pos, -getElem?_neg, List.getElem?_cons_zero, List.getElem?_cons_succ, hashM, hl, ha, hb, t1, t2, t3])
    | (with_reducible refine awp_drw 9 hX [2, 3, 4] Tab.mixed (by kernel_rfl) ?_; simp [-List.reduceReplicate, Nat.add_one_le_iff, -getElem?_pos, -getElem?_neg, List.getElem?_cons_zero, List.getElem?_cons_succ, hashM, hl, ha, hb, t1, t2, t3])
    | (refine (ht _).det ?_; try simp [-List.reduceReplicate, Nat.add_one_le_iff, -getElem?_pos, -getElem?_neg, List.getElem?_cons_zero, List.getElem?_cons_succ, hashM, hl, ha, hb, t1, t2, t3])
    | (refine ⟨_, _, ht _, fun _ => rfl, ?_⟩; try simp [-List.reduceReplicate, Nat.add_one_le_iff, -getElem?_pos, -getElem?_neg, List.getElem?_cons_zero, List.getElem?_cons_succ, hashM, hl, ha, hb, t1, t2, t3])
    | (refine (h _).det ?_; try simp [-List.reduceReplicate, Nat.add_one_le_iff, -getElem?_pos, -getElem?_neg, List.getElem?_cons_zero, List.getElem?_cons_succ, hashM, hl, ha, hb, t1, t2, t3])
    | (refine ⟨_, _, h _, fun _ => rfl, ?_⟩; try simp [-List.reduceReplicate, Nat.add_one_le_iff, -getElem?_pos, -getElem?_neg, List.getElem?_cons_zero, List.getElem?_cons_succ, hashM, hl, ha, hb, t1, t2, t3])
    | (with_reducible refine awp_if_b rfl (fun hc => ?_) (fun hc => ?_) <;> (try simp [-getElem?_pos, -getElem?_neg] at hc) <;> (try (exfalso; omega)))
    | (with_reducible refine GuardK_b (fun hc => ?_) (fun hc => ?_) <;> (try simp only [Bool.not_eq_true', Bool.not_eq_false', decide_eq_true_eq, decide_eq_false_iff_not] at hc) <;> (first | (exfalso; omega) | skip) <;> simp [-List.reduceReplicate, Nat.add_one_le_iff, -getElem?_pos, -getElem?_neg, List.getElem?_cons_zero, List.getElem?_cons_succ, hashM, hl, ha, hb, t1, t2, t3, hc])
    | (with_reducible refine DGuard_b _ _ _ _ _ _ _ _ _ _ (fun hc => ?_) (fun hc => ?_) <;> (try simp only [Bool.not_eq_true', Bool.not_eq_false', decide_eq_true_eq, decide_eq_false_iff_not] at hc) <;> (first | (exfalso; omega) | skip) <;> simp [-List.reduceReplicate, Nat.add_one_le_iff, -getElem?_pos, -getElem?_neg, List.getElem?_cons_zero, List.getElem?_cons_succ, hashM, hl, ha, hb, t1, t2, t3, hc])
    | (with_reducible refine DEv_cut _ _ _ _ _ _ _ _ _ _ _ _ (by kernel_rfl) ?_; simp [-List.reduceReplicate, Nat.add_one_le_iff, -getElem?_pos, -getElem?_neg, List.getElem?_cons_zero, List.getElem?_cons_succ, hashM, hl, ha, hb, t1, t2, t3])
    | ((with_reducible refine hother _ _ rfl ?_); simp only [inBlockA, thenA, noGotoA, Nat.reduceEqDiff, if_false, if_true, ↓reduceIte])
    | ((with_reducible refine hother2 _ _ rfl ?_); simp only [inBlockA, thenA, noGotoA, Nat.reduceEqDiff, if_false, if_true, ↓reduceIte])
    | ((with_reducible refine hother3 _ _ rfl ?_); simp only [inBlockA, thenA, noGotoA, Nat.reduceEqDiff, if_false, if_true, ↓reduceIte])
    | (with_reducible refine And.intro (by omega) ?_)
    | (with_reducible change postOf _ _ _ _ _; simp [-List.reduceReplicate, Nat.add_one_le_iff, -getElem?_pos, -getElem?_neg, List.getElem?_cons_zero, List.getElem?_cons_succ, hashM, hl, ha, hb, t1, t2, t3])
    | fail)
theorem root03_den (n : Nat) (a : List UInt8) (hn : n < 18446744073709551616) (ha : a.length = 32) : DenV Try.prog 39 [.c (u64C n), hashM a] (hashM (shaL (bsS (rootT n a)))) := by
  have h1 : (bsS (rootT n a)).size = 41 := by rw [bs_size]; simp [rootT, ha, putN_len]
  have h := sha02_den (bsS (rootT n a)) (by omega)
  have ht := rootText03_den n a hn ha
  have hl := shaL_len (bsS (rootT n a))
  generalize shaL (bsS (rootT n a)) = x at *
  generalize bsS (rootT n a) = y at *
  refine Den.frame (by simp [ltBs, ltB, lt_hash]) (lt_hash _ _) ?_
  refine den_of Try.func39 rfl rfl (by simp [Try.ntmps39]) (fun X hX hO => ?_)
  rw [Try.ntmps39] at hX
  simp only [Try.results39]
  have t1 := hash_take x hl
  have t2 := hash_take a ha
  repeat' (first 
    | with_reducible refine awp_scope ?_
    | with_reducible refine awp_seq ?_
    | with_reducible refine awp_block ?_
    | (with_reducible refine awp_label ?_; try simp only [thenA, inBlockA, noGotoA])
    | (with_reducible refine awp_skip ?_; try simp only [thenA, inBlockA, noGotoA])
    | (with_reducible refine awp_exit ?_; simp only [thenA, inBlockA, noGotoA, if_true, Nat.reduceEqDiff, if_false, ↓reduceIte])
    | (with_reducible refine awp_ret ?_; (try simp only [thenA, inBlockA, noGotoA]); (try simp [-List.reduceReplicate, Nat.add_one_le_iff, -getElem?_pos, -getElem?_neg, List.getElem?_cons_zero, List.getElem?_cons_succ, hashM, hl, ha, t1, t2, u64C]))
    | (with_reducible refine awp_reg 9 hX [0, 3, 4] ?_; simp [-List.reduceReplicate, Nat.add_one_le_iff, -getElem?_pos, -getElem?_neg, List.getElem?_cons_zero, List.getElem?_cons_succ, hashM, hl, ha, t1, t2, u64C])
    | (with_reducible refine awp_drw 9 hX [0, 3, 4] Tab.mixed (by kernel_rfl) ?_; simp [-List.reduceReplicate, Nat.add_one_le_iff, -getElem?_pos, -getElem?_neg, List.getElem?_cons_zero, List.getElem?_cons_succ, hashM, hl, ha, t1, t2, u64C])
    | (refine (ht _).det ?_; try simp [-List.reduceReplicate, Nat.add_one_le_iff, -getElem?_pos, -getElem?_neg, List.getElem?_cons_zero, List.getElem?_cons_succ, hashM, hl, ha, t1, t2, u64C])
    | (refine ⟨_, _, ht _, fun _ => rfl, ?_⟩; try simp [-List.reduceReplicate, Nat.add_one_le_iff, -getElem?_pos, -getElem?_neg, List.getElem?_cons_zero, List.getElem?_cons_succ, hashM, hl, ha, t1, t2, u64C])
    | (refine (h _).det ?_; try simp [-List.reduceReplicate, Nat.add_one_le_iff, -getElem?_pos, -getElem?_neg, List.getElem?_cons_zero, List.getElem?_cons_succ, hashM, hl, ha, t1, t2, u64C])
    | (refine ⟨_, _, h _, fun _ => rfl, ?_⟩; try simp [-List.reduceReplicate, Nat.add_one_le_iff, -getElem?_pos, -getElem?_neg, List.getElem?_cons_zero, List.getElem?_cons_succ, hashM, hl, ha, t1, t2, u64C])
    | (with_reducible refine awp_if_b rfl (fun hc => ?_) (fun hc => ?_) <;> (try simp [-getElem?_pos, -getElem?_neg] at hc) <;> (try (exfalso; omega)))
    | (with_reducible refine GuardK_b (fun hc => ?_) (fun hc => ?_) <;> (try simp only [Bool.not_eq_true', Bool.not_eq_false', decide_eq_true_eq, decide_eq_false_iff_not] at hc) <;> (first | (exfalso; omega) | skip) <;> simp [-List.reduceReplicate, Nat.add_one_le_iff, -getElem?_pos, -getElem?_neg, List.getElem?_cons_zero, List.getElem?_cons_succ, hashM, hl, ha, t1, t2, u64C, hc])
    | (with_reducible refine DGuard_b _ _ _ _ _ _ _ _ _ _ (fun hc => ?_) (fun hc => ?_) <;> (try simp only [Bool.not_eq_true', Bool.not_eq_false', decide_eq_true_eq, decide_eq_false_iff_not] at hc) <;> (first | (exfalso; omega) | skip) <;> simp [-List.reduceReplicate, Nat.add_one_le_iff, -getElem?_pos, -getElem?_neg, List.getElem?_cons_zero, List.getElem?_cons_succ, hashM, hl, ha, t1, t2, u64C, hc])
    | (with_reducible refine DEv_cut _ _ _ _ _ _ _ _ _ _ _ _ (by kernel_rfl) ?_; simp [-List.reduceReplicate, Nat.add_one_le_iff, -getElem?_pos, -getElem?_neg, List.getElem?_cons_zero, List.getElem?_cons_succ, hashM, hl, ha, t1, t2, u64C])
    | ((with_reducible refine hother _ _ rfl ?_); simp only [inBlockA, thenA, noGotoA, Nat.reduceEqDiff, if_false, if_true, ↓reduceIte])
    | ((with_reducible refine hother2 _ _ rfl ?_); simp only [inBlockA, thenA, noGotoA, Nat.reduceEqDiff, if_false, if_true, ↓reduceIte])
    | ((with_reducible refine hother3 _ _ rfl ?_); simp only [inBlockA, thenA, noGotoA, Nat.reduceEqDiff, if_false, if_true, ↓reduceIte])
    | (with_reducible refine And.intro (by omega) ?_)
    | (with_reducible change postOf _ _ _ _ _; simp [-List.reduceReplicate, Nat.add_one_le_iff, -getElem?_pos, -getElem?_neg, List.getElem?_cons_zero, List.getElem?_cons_succ, hashM, hl, ha, t1, t2, u64C])
    | fail)
theorem hashes_take (a b : List UInt8) (ha : a.length = 32) : (a.map bC8 ++ b.map bC8).take 32 = a.map bC8 := by
  rw [List.take_append_of_le_length (by simp [ha]), List.take_of_length_le (by simp [ha])]
theorem hashes_drop (a b : List UInt8) (ha : a.length = 32) (hb : b.length = 32) : ((a.map bC8 ++ b.map bC8).drop 32).take 32 = b.map bC8 := by
  rw [List.drop_append_of_le_length (by simp [ha]), List.drop_of_length_le (by simp [ha]), List.nil_append, List.take_of_length_le (by simp [hb])]
theorem tagSums_den (s : ByteArray) (a b : List UInt8) (n : Nat) (ha : a.length = 32) (hb : b.length = 32) (hn : n < 18446744073709551616) (ob : List Ob) :
    Den Try.prog 10 [.c (.v (.string s)), .agg (up (a.map bC8 ++ b.map bC8)), .c (u64C n)] ob (fun r ob' => r = .c (bC true) ∧ ob' = ob) := by
  refine Den.frame (by simp [ltBs, ltB, ltBs_up]) rfl ?_ ob
  have hl : (a.map bC8 ++ b.map bC8).length = 64 := by simp [ha, hb]
  have k1 := hashes_take a b ha
  have k2 := hashes_drop a b ha hb
  have k3 : (a.map bC8 ++ b.map bC8).take 64 = a.map bC8 ++ b.map bC8 := List.take_of_length_le (by rw [hl]; exact Nat.le_refl _)
  by_cases hs : s.size ≤ 2000
  · have e1 := eq_hash1 _ (shaL_len (bsS (leafT s)))
    have e2 := eq_hash1 _ (shaL_len (bsS (nodeT a b)))
    have e3 := eq_hash1 _ (shaL_len (bsS (rootT n a)))
    have e4 := eq_hash1 _ (shaL_len (bsS (headT s)))
    have d1 := leafSum_den s hs
    have d2 := nodeSum_den a b ha hb
    have d3 := rootSum_den n a hn ha
    have d4 := headerSum_den s hs
    have r1 := leaf03_den s hs
    have r2 := node03_den a b ha hb
    have r3 := root03_den n a hn ha
    have r4 := headerText03_den s (by omega)
    have r5 := sha02_den (bsS (headT s)) (by rw [bs_size]; simp [headT]; omega)
    generalize shaL (bsS (leafT s)) = x1 at *
    generalize shaL (bsS (nodeT a b)) = x2 at *
    generalize shaL (bsS (rootT n a)) = x3 at *
    generalize shaL (bsS (headT s)) = x4 at *
    generalize bsS (headT s) = y4 at *
    generalize a.map bC8 ++ b.map bC8 = ab at *
    refine den_of Try.func10 rfl rfl (by simp [Try.ntmps10]) (fun X hX hO => ?_)
    rw [Try.ntmps10] at hX
    simp only [Try.results10]
    have c1 : ¬ (2000 : Int) < s.size := by omega
    repeat' (first 
      | with_reducible refine awp_scope ?_
      | with_reducible refine awp_seq ?_
      | with_reducible refine awp_block ?_
      | (with_reducible refine awp_label ?_; try simp only [thenA, inBlockA, noGotoA])
      | (with_reducible refine awp_skip ?_; try simp only [thenA, inBlockA, noGotoA])
      | (with_reducible refine awp_exit ?_; simp only [thenA, inBlockA, noGotoA, if_true, Nat.reduceEqDiff, if_false, ↓reduceIte])
      | (with_reducible refine awp_ret ?_; (try simp only [thenA, inBlockA, noGotoA]); (try simp [-List.reduceReplicate, Nat.add_one_le_iff, -getElem?_pos, -getElem?_neg, List.getElem?_cons_zero, List.getElem?_cons_succ, c1, hl, k1, k2, k3, hashM, e1, e2, e3, e4, bC, u64C]))
      | (with_reducible refine awp_reg 51 hX [0, 2, 4, 6, 9] ?_; simp [-List.reduceReplicate, Nat.add_one_le_iff, -getElem?_pos, -getElem?_neg, List.getElem?_cons_zero, List.getElem?_cons_succ, c1, hl, k1, k2, k3, hashM, e1, e2, e3, e4, bC, u64C])
      | (with_reducible refine awp_drw 51 hX [0, 2, 4, 6, 9] Tab.mixed (by kernel_rfl) ?_; simp [-List.reduceReplicate, Nat.add_one_le_iff, -getElem?_pos, -getElem?_neg, List.getElem?_cons_zero, List.getElem?_cons_succ, c1, hl, k1, k2, k3, hashM, e1, e2, e3, e4, bC, u64C])
      | (refine (d1 _).det ?_; try simp [-List.reduceReplicate, Nat.add_one_le_iff, -getElem?_pos, -getElem?_neg, List.getElem?_cons_zero, List.getElem?_cons_succ, c1, hl, k1, k2, k3, hashM, e1, e2, e3, e4, bC, u64C])
      | (refine ⟨_, _, d1 _, fun _ => rfl, ?_⟩; try simp [-List.reduceReplicate, Nat.add_one_le_iff, -getElem?_pos, -getElem?_neg, List.getElem?_cons_zero, List.getElem?_cons_succ, c1, hl, k1, k2, k3, hashM, e1, e2, e3, e4, bC, u64C])
      | (refine (d2 _).det ?_; try simp [-List.reduceReplicate, Nat.add_one_le_iff, -getElem?_pos, -getElem?_neg, List.getElem?_cons_zero, List.getElem?_cons_succ, c1, hl, k1, k2, k3, hashM, e1, e2, e3, e4, bC, u64C])
      | (refine ⟨_, _, d2 _, fun _ => rfl, ?_⟩; try simp [-List.reduceReplicate, Nat.add_one_le_iff, -getElem?_pos, -getElem?_neg, List.getElem?_cons_zero, List.getElem?_cons_succ, c1, hl, k1, k2, k3, hashM, e1, e2, e3, e4, bC, u64C])
      | (refine (d3 _).det ?_; try simp [-List.reduceReplicate, Nat.add_one_le_iff, -getElem?_pos, -getElem?_neg, List.getElem?_cons_zero, List.getElem?_cons_succ, c1, hl, k1, k2, k3, hashM, e1, e2, e3, e4, bC, u64C])
      | (refine ⟨_, _, d3 _, fun _ => rfl, ?_⟩; try simp [-List.reduceReplicate, Nat.add_one_le_iff, -getElem?_pos, -getElem?_neg, List.getElem?_cons_zero, List.getElem?_cons_succ, c1, hl, k1, k2, k3, hashM, e1, e2, e3, e4, bC, u64C])
      | (refine (d4 _).det ?_; try simp [-List.reduceReplicate, Nat.add_one_le_iff, -getElem?_pos, -getElem?_neg, List.getElem?_cons_zero, List.getElem?_cons_succ, c1, hl, k1, k2, k3, hashM, e1, e2, e3, e4, bC, u64C])
      | (refine ⟨_, _, d4 _, fun _ => rfl, ?_⟩; try simp [-List.reduceReplicate, Nat.add_one_le_iff, -getElem?_pos, -getElem?_neg, List.getElem?_cons_zero, List.getElem?_cons_succ, c1, hl, k1, k2, k3, hashM, e1, e2, e3, e4, bC, u64C])
      | (refine (r1 _).det ?_; try simp [-List.reduceReplicate, Nat.add_one_le_iff, -getElem?_pos, -getElem?_neg, List.getElem?_cons_zero, List.getElem?_cons_succ, c1, hl, k1, k2, k3, hashM, e1, e2, e3, e4, bC, u64C])
      | (refine ⟨_, _, r1 _, fun _ => rfl, ?_⟩; try simp [-List.reduceReplicate, Nat.add_one_le_iff, -getElem?_pos, -getElem?_neg, List.getElem?_cons_zero, List.getElem?_cons_succ, c1, hl, k1, k2, k3, hashM, e1, e2, e3, e4, bC, u64C])
      | (refine (r2 _).det ?_; try simp [-List.reduceReplicate, Nat.add_one_le_iff, -getElem?_pos, -getElem?_neg, List.getElem?_cons_zero, List.getElem?_cons_succ, c1, hl, k1, k2, k3, hashM, e1, e2, e3, e4, bC, u64C])
      | (refine ⟨_, _, r2 _, fun _ => rfl, ?_⟩; try simp [-List.reduceReplicate, Nat.add_one_le_iff, -getElem?_pos, -getElem?_neg, List.getElem?_cons_zero, List.getElem?_cons_succ, c1, hl, k1, k2, k3, hashM, e1, e2, e3, e4, bC, u64C])
      | (refine (r3 _).det ?_; try simp [-List.reduceReplicate, Nat.add_one_le_iff, -getElem?_pos, -getElem?_neg, List.getElem?_cons_zero, List.getElem?_cons_succ, c1, hl, k1, k2, k3, hashM, e1, e2, e3, e4, bC, u64C])
      | (refine ⟨_, _, r3 _, fun _ => rfl, ?_⟩; try simp [-List.reduceReplicate, Nat.add_one_le_iff, -getElem?_pos, -getElem?_neg, List.getElem?_cons_zero, List.getElem?_cons_succ, c1, hl, k1, k2, k3, hashM, e1, e2, e3, e4, bC, u64C])
      | (refine (r4 _).det ?_; try simp [-List.reduceReplicate, Nat.add_one_le_iff, -getElem?_pos, -getElem?_neg, List.getElem?_cons_zero, List.getElem?_cons_succ, c1, hl, k1, k2, k3, hashM, e1, e2, e3, e4, bC, u64C])
      | (refine ⟨_, _, r4 _, fun _ => rfl, ?_⟩; try simp [-List.reduceReplicate, Nat.add_one_le_iff, -getElem?_pos, -getElem?_neg, List.getElem?_cons_zero, List.getElem?_cons_succ, c1, hl, k1, k2, k3, hashM, e1, e2, e3, e4, bC, u64C])
      | (refine (r5 _).det ?_; try simp [-List.reduceReplicate, Nat.add_one_le_iff, -getElem?_pos, -getElem?_neg, List.getElem?_cons_zero, List.getElem?_cons_succ, c1, hl, k1, k2, k3, hashM, e1, e2, e3, e4, bC, u64C])
      | (refine ⟨_, _, r5 _, fun _ => rfl, ?_⟩; try simp [-List.reduceReplicate, Nat.add_one_le_iff, -getElem?_pos, -getElem?_neg, List.getElem?_cons_zero, List.getElem?_cons_succ, c1, hl, k1, k2, k3, hashM, e1, e2, e3, e4, bC, u64C])
      | ((with_reducible refine Den.at_ (f := 18) ?_); refine (awake03_den _).det ?_; try simp [-List.reduceReplicate, Nat.add_one_le_iff, -getElem?_pos, -getElem?_neg, List.getElem?_cons_zero, List.getElem?_cons_succ, c1, hl, k1, k2, k3, hashM, e1, e2, e3, e4, bC, u64C])
      | ((with_reducible refine drawn_at (f := 18) ?_); refine ⟨_, _, awake03_den _, fun _ => rfl, ?_⟩; try simp [-List.reduceReplicate, Nat.add_one_le_iff, -getElem?_pos, -getElem?_neg, List.getElem?_cons_zero, List.getElem?_cons_succ, c1, hl, k1, k2, k3, hashM, e1, e2, e3, e4, bC, u64C])
      | (with_reducible refine awp_if_b rfl (fun hc => ?_) (fun hc => ?_) <;> (try simp [-getElem?_pos, -getElem?_neg] at hc) <;> (try (exfalso; omega)))
      | (with_reducible refine GuardK_b (fun hc => ?_) (fun hc => ?_) <;> (try simp only [Bool.not_eq_true', Bool.not_eq_false', decide_eq_true_eq, decide_eq_false_iff_not] at hc) <;> (first | (exfalso; omega) | skip) <;> simp [-List.reduceReplicate, Nat.add_one_le_iff, -getElem?_pos, -getElem?_neg, List.getElem?_cons_zero, List.getElem?_cons_succ, c1, hl, k1, k2, k3, hashM, e1, e2, e3, e4, bC, u64C, hc])
      | (with_reducible refine DGuard_b _ _ _ _ _ _ _ _ _ _ (fun hc => ?_) (fun hc => ?_) <;> (try simp only [Bool.not_eq_true', Bool.not_eq_false', decide_eq_true_eq, decide_eq_false_iff_not] at hc) <;> (first | (exfalso; omega) | skip) <;> simp [-List.reduceReplicate, Nat.add_one_le_iff, -getElem?_pos, -getElem?_neg, List.getElem?_cons_zero, List.getElem?_cons_succ, c1, hl, k1, k2, k3, hashM, e1, e2, e3, e4, bC, u64C, hc])
      | (with_reducible refine DEv_cut _ _ _ _ _ _ _ _ _ _ _ _ (by kernel_rfl) ?_; simp [-List.reduceReplicate, Nat.add_one_le_iff, -getElem?_pos, -getElem?_neg, List.getElem?_cons_zero, List.getElem?_cons_succ, c1, hl, k1, k2, k3, hashM, e1, e2, e3, e4, bC, u64C])
      | ((with_reducible refine hother _ _ rfl ?_); simp only [inBlockA, thenA, noGotoA, Nat.reduceEqDiff, if_false, if_true, ↓reduceIte])
      | ((with_reducible refine hother2 _ _ rfl ?_); simp only [inBlockA, thenA, noGotoA, Nat.reduceEqDiff, if_false, if_true, ↓reduceIte])
      | ((with_reducible refine hother3 _ _ rfl ?_); simp only [inBlockA, thenA, noGotoA, Nat.reduceEqDiff, if_false, if_true, ↓reduceIte])
      | (with_reducible refine And.intro (by omega) ?_)
      | (with_reducible change postOf _ _ _ _ _; simp [-List.reduceReplicate, Nat.add_one_le_iff, -getElem?_pos, -getElem?_neg, List.getElem?_cons_zero, List.getElem?_cons_succ, c1, hl, k1, k2, k3, hashM, e1, e2, e3, e4, bC, u64C])
      | fail)
    all_goals trace_state
    all_goals sorry
  · generalize a.map bC8 ++ b.map bC8 = ab at *
    refine den_of Try.func10 rfl rfl (by simp [Try.ntmps10]) (fun X hX hO => ?_)
    rw [Try.ntmps10] at hX
    simp only [Try.results10]
    have c1 : (2000 : Int) < s.size := by omega
    repeat' (first 
      | with_reducible refine awp_scope ?_
      | with_reducible refine awp_seq ?_
      | with_reducible refine awp_block ?_
      | (with_reducible refine awp_label ?_; try simp only [thenA, inBlockA, noGotoA])
      | (with_reducible refine awp_skip ?_; try simp only [thenA, inBlockA, noGotoA])
      | (with_reducible refine awp_exit ?_; simp only [thenA, inBlockA, noGotoA, if_true, Nat.reduceEqDiff, if_false, ↓reduceIte])
      | (with_reducible refine awp_ret ?_; (try simp only [thenA, inBlockA, noGotoA]); (try simp [-List.reduceReplicate, Nat.add_one_le_iff, -getElem?_pos, -getElem?_neg, List.getElem?_cons_zero, List.getElem?_cons_succ, c1, hl, k3, bC, u64C]))
      | (with_reducible refine awp_reg 51 hX [0, 2, 4, 6, 9] ?_; simp [-List.reduceReplicate, Nat.add_one_le_iff, -getElem?_pos, -getElem?_neg, List.getElem?_cons_zero, List.getElem?_cons_succ, c1, hl, k3, bC, u64C])
      | (with_reducible refine awp_drw 51 hX [0, 2, 4, 6, 9] Tab.mixed (by kernel_rfl) ?_; simp [-List.reduceReplicate, Nat.add_one_le_iff, -getElem?_pos, -getElem?_neg, List.getElem?_cons_zero, List.getElem?_cons_succ, c1, hl, k3, bC, u64C])
      | ((with_reducible refine Den.at_ (f := 18) ?_); refine (awake03_den _).det ?_; try simp [-List.reduceReplicate, Nat.add_one_le_iff, -getElem?_pos, -getElem?_neg, List.getElem?_cons_zero, List.getElem?_cons_succ, c1, hl, k3, bC, u64C])
      | ((with_reducible refine drawn_at (f := 18) ?_); refine ⟨_, _, awake03_den _, fun _ => rfl, ?_⟩; try simp [-List.reduceReplicate, Nat.add_one_le_iff, -getElem?_pos, -getElem?_neg, List.getElem?_cons_zero, List.getElem?_cons_succ, c1, hl, k3, bC, u64C])
      | (with_reducible refine awp_if_b rfl (fun hc => ?_) (fun hc => ?_) <;> (try simp [-getElem?_pos, -getElem?_neg] at hc) <;> (try (exfalso; omega)))
      | (with_reducible refine GuardK_b (fun hc => ?_) (fun hc => ?_) <;> (try simp only [Bool.not_eq_true', Bool.not_eq_false', decide_eq_true_eq, decide_eq_false_iff_not] at hc) <;> (first | (exfalso; omega) | skip) <;> simp [-List.reduceReplicate, Nat.add_one_le_iff, -getElem?_pos, -getElem?_neg, List.getElem?_cons_zero, List.getElem?_cons_succ, c1, hl, k3, bC, u64C, hc])
      | (with_reducible refine DGuard_b _ _ _ _ _ _ _ _ _ _ (fun hc => ?_) (fun hc => ?_) <;> (try simp only [Bool.not_eq_true', Bool.not_eq_false', decide_eq_true_eq, decide_eq_false_iff_not] at hc) <;> (first | (exfalso; omega) | skip) <;> simp [-List.reduceReplicate, Nat.add_one_le_iff, -getElem?_pos, -getElem?_neg, List.getElem?_cons_zero, List.getElem?_cons_succ, c1, hl, k3, bC, u64C, hc])
      | (with_reducible refine DEv_cut _ _ _ _ _ _ _ _ _ _ _ _ (by kernel_rfl) ?_; simp [-List.reduceReplicate, Nat.add_one_le_iff, -getElem?_pos, -getElem?_neg, List.getElem?_cons_zero, List.getElem?_cons_succ, c1, hl, k3, bC, u64C])
      | ((with_reducible refine hother _ _ rfl ?_); simp only [inBlockA, thenA, noGotoA, Nat.reduceEqDiff, if_false, if_true, ↓reduceIte])
      | ((with_reducible refine hother2 _ _ rfl ?_); simp only [inBlockA, thenA, noGotoA, Nat.reduceEqDiff, if_false, if_true, ↓reduceIte])
      | ((with_reducible refine hother3 _ _ rfl ?_); simp only [inBlockA, thenA, noGotoA, Nat.reduceEqDiff, if_false, if_true, ↓reduceIte])
      | (with_reducible refine And.intro (by omega) ?_)
      | (with_reducible change postOf _ _ _ _ _; simp [-List.reduceReplicate, Nat.add_one_le_iff, -getElem?_pos, -getElem?_neg, List.getElem?_cons_zero, List.getElem?_cons_succ, c1, hl, k3, bC, u64C])
      | fail)
    all_goals trace_state
    all_goals sorry
end Go.Av
