import Derived.Test.YtfdbbkhglohkaaaAvTJ
set_option linter.unusedVariables false
set_option linter.unusedSimpArgs false
set_option maxRecDepth 100000
set_option maxHeartbeats 4000000
namespace Go.Av
open Go Go.Proofs Go.Proofs.Ytfdbbkhglohkaaa Go.RowKit
/-! ### tag -/
theorem join_two (a b : ByteArray) : joinS [a, b] ⟨#[]⟩ = a.data.toList ++ b.data.toList := by simp [joinS, Lib.join, List.intercalate]
theorem join_one' (a : ByteArray) : joinS [a] ⟨#[]⟩ = a.data.toList := by simp [joinS, Lib.join, List.intercalate]
theorem text_den (t : UInt8) (xs : List ByteArray) (n : Nat) (full : Bool) (hn : xs.length = n) (hN : n ≤ 1000000) (hl : (joinS xs ⟨#[]⟩).length ≤ 140737488355328) :
    DenV Try.prog 52 [.c (.v (.int .u8 (t.toNat : Int))), .c (.sl (xs.map fun s => .v (.string s)) n full)] (.c (.v (.string (bsS (t :: joinS xs ⟨#[]⟩))))) := by
  refine Den.frame rfl rfl ?_
  refine den_of Try.func52 rfl rfl (by simp [Try.ntmps52]) (fun X hX hO => ?_)
  rw [Try.ntmps52] at hX
  simp only [Try.results52]
  have h1 : (⟨#[t]⟩ : ByteArray) = bsS [t] := rfl
  have h2 := bs_append [t] (joinS xs ⟨#[]⟩)
  have h3 : 1 + (joinS xs ⟨#[]⟩).length ≤ 9223372036854775807 := by omega
  have h4 : UInt8.ofNat t.toNat = t := by simp
  repeat' (first 
    | with_reducible refine awp_scope ?_
    | with_reducible refine awp_seq ?_
    | with_reducible refine awp_block ?_
    | (with_reducible refine awp_label ?_; try simp only [thenA, inBlockA, noGotoA])
    | (with_reducible refine awp_skip ?_; try simp only [thenA, inBlockA, noGotoA])
    | (with_reducible refine awp_exit ?_; simp only [thenA, inBlockA, noGotoA, if_true, Nat.reduceEqDiff, if_false, ↓reduceIte])
    | (with_reducible refine awp_ret ?_; (try simp only [thenA, inBlockA, noGotoA]); (try simp [-List.reduceReplicate, Nat.add_one_le_iff, -getElem?_pos, -getElem?_neg, List.getElem?_cons_zero, List.getElem?_cons_succ, h1, bs_append, bs_size, h3, h4]))
    | (with_reducible refine awp_reg 11 hX [0, 1, 4] ?_; simp [-List.reduceReplicate, Nat.add_one_le_iff, -getElem?_pos, -getElem?_neg, List.getElem?_cons_zero, List.getElem?_cons_succ, h1, bs_append, bs_size, h3, h4])
    | (with_reducible refine awp_drw 11 hX [0, 1, 4] Tab.mixed (by kernel_rfl) ?_; simp [-List.reduceReplicate, Nat.add_one_le_iff, -getElem?_pos, -getElem?_neg, List.getElem?_cons_zero, List.getElem?_cons_succ, h1, bs_append, bs_size, h3, h4])
    | ((with_reducible refine Den.at_ (f := 67) ?_); refine (join_den xs ⟨#[]⟩ n full hn hN hl _).det ?_; try simp [-List.reduceReplicate, Nat.add_one_le_iff, -getElem?_pos, -getElem?_neg, List.getElem?_cons_zero, List.getElem?_cons_succ, h1, bs_append, bs_size, h3, h4])
    | ((with_reducible refine drawn_at (f := 67) ?_); refine ⟨_, _, join_den xs ⟨#[]⟩ n full hn hN hl _, fun _ => rfl, ?_⟩; try simp [-List.reduceReplicate, Nat.add_one_le_iff, -getElem?_pos, -getElem?_neg, List.getElem?_cons_zero, List.getElem?_cons_succ, h1, bs_append, bs_size, h3, h4])
    | (with_reducible refine awp_if_b rfl (fun hc => ?_) (fun hc => ?_) <;> (try simp [-getElem?_pos, -getElem?_neg] at hc) <;> (try (exfalso; omega)))
    | (with_reducible refine GuardK_b (fun hc => ?_) (fun hc => ?_) <;> (try simp only [Bool.not_eq_true', Bool.not_eq_false', decide_eq_true_eq, decide_eq_false_iff_not] at hc) <;> (first | (exfalso; omega) | skip) <;> simp [-List.reduceReplicate, Nat.add_one_le_iff, -getElem?_pos, -getElem?_neg, List.getElem?_cons_zero, List.getElem?_cons_succ, h1, bs_append, bs_size, h3, h4, hc])
    | (with_reducible refine DGuard_b _ _ _ _ _ _ _ _ _ _ (fun hc => ?_) (fun hc => ?_) <;> (try simp only [Bool.not_eq_true', Bool.not_eq_false', decide_eq_true_eq, decide_eq_false_iff_not] at hc) <;> (first | (exfalso; omega) | skip) <;> simp [-List.reduceReplicate, Nat.add_one_le_iff, -getElem?_pos, -getElem?_neg, List.getElem?_cons_zero, List.getElem?_cons_succ, h1, bs_append, bs_size, h3, h4, hc])
    | (with_reducible refine DEv_cut _ _ _ _ _ _ _ _ _ _ _ _ (by kernel_rfl) ?_; simp [-List.reduceReplicate, Nat.add_one_le_iff, -getElem?_pos, -getElem?_neg, List.getElem?_cons_zero, List.getElem?_cons_succ, h1, bs_append, bs_size, h3, h4])
    | ((with_reducible refine hother _ _ rfl ?_); simp only [inBlockA, thenA, noGotoA, Nat.reduceEqDiff, if_false, if_true, ↓reduceIte])
    | ((with_reducible refine hother2 _ _ rfl ?_); simp only [inBlockA, thenA, noGotoA, Nat.reduceEqDiff, if_false, if_true, ↓reduceIte])
    | ((with_reducible refine hother3 _ _ rfl ?_); simp only [inBlockA, thenA, noGotoA, Nat.reduceEqDiff, if_false, if_true, ↓reduceIte])
    | (with_reducible refine And.intro (by omega) ?_)
    | (with_reducible change postOf _ _ _ _ _; simp [-List.reduceReplicate, Nat.add_one_le_iff, -getElem?_pos, -getElem?_neg, List.getElem?_cons_zero, List.getElem?_cons_succ, h1, bs_append, bs_size, h3, h4])
    | fail)
def leafT (s : ByteArray) : List UInt8 := 0 :: s.data.toList
def headT (s : ByteArray) : List UInt8 := 3 :: s.data.toList
def nodeT (a b : List UInt8) : List UInt8 := 1 :: (a ++ b)
def rootT (n : Nat) (a : List UInt8) : List UInt8 := 2 :: (putN n 8 ++ a)
theorem leafText_den (s : ByteArray) (hs : s.size ≤ 140737488355328) : DenV Try.prog 44 [.c (.v (.string s))] (.c (.v (.string (bsS (leafT s))))) := by
  refine Den.frame rfl rfl ?_
  refine den_of Try.func44 rfl rfl (by simp [Try.ntmps44]) (fun X hX hO => ?_)
  rw [Try.ntmps44] at hX
  simp only [Try.results44]
  have h := text_den 0 [s] 1 true rfl (by omega) (by rw [join_one', ← size_list]; exact hs)
  rw [join_one'] at h
  repeat' (first 
    | with_reducible refine awp_scope ?_
    | with_reducible refine awp_seq ?_
    | with_reducible refine awp_block ?_
    | (with_reducible refine awp_label ?_; try simp only [thenA, inBlockA, noGotoA])
    | (with_reducible refine awp_skip ?_; try simp only [thenA, inBlockA, noGotoA])
    | (with_reducible refine awp_exit ?_; simp only [thenA, inBlockA, noGotoA, if_true, Nat.reduceEqDiff, if_false, ↓reduceIte])
    | (with_reducible refine awp_ret ?_; (try simp only [thenA, inBlockA, noGotoA]); (try simp [-List.reduceReplicate, Nat.add_one_le_iff, -getElem?_pos, -getElem?_neg, List.getElem?_cons_zero, List.getElem?_cons_succ, leafT]))
    | (with_reducible refine awp_reg 6 hX [0, 2] ?_; simp [-List.reduceReplicate, Nat.add_one_le_iff, -getElem?_pos, -getElem?_neg, List.getElem?_cons_zero, List.getElem?_cons_succ, leafT])
    | (with_reducible refine awp_drw 6 hX [0, 2] Tab.mixed (by kernel_rfl) ?_; simp [-List.reduceReplicate, Nat.add_one_le_iff, -getElem?_pos, -getElem?_neg, List.getElem?_cons_zero, List.getElem?_cons_succ, leafT])
    | (refine (h _).det ?_; try simp [-List.reduceReplicate, Nat.add_one_le_iff, -getElem?_pos, -getElem?_neg, List.getElem?_cons_zero, List.getElem?_cons_succ, leafT])
    | (refine ⟨_, _, h _, fun _ => rfl, ?_⟩; try simp [-List.reduceReplicate, Nat.add_one_le_iff, -getElem?_pos, -getElem?_neg, List.getElem?_cons_zero, List.getElem?_cons_succ, leafT])
    | (with_reducible refine awp_if_b rfl (fun hc => ?_) (fun hc => ?_) <;> (try simp [-getElem?_pos, -getElem?_neg] at hc) <;> (try (exfalso; omega)))
    | (with_reducible refine GuardK_b (fun hc => ?_) (fun hc => ?_) <;> (try simp only [Bool.not_eq_true', Bool.not_eq_false', decide_eq_true_eq, decide_eq_false_iff_not] at hc) <;> (first | (exfalso; omega) | skip) <;> simp [-List.reduceReplicate, Nat.add_one_le_iff, -getElem?_pos, -getElem?_neg, List.getElem?_cons_zero, List.getElem?_cons_succ, leafT, hc])
    | (with_reducible refine DGuard_b _ _ _ _ _ _ _ _ _ _ (fun hc => ?_) (fun hc => ?_) <;> (try simp only [Bool.not_eq_true', Bool.not_eq_false', decide_eq_true_eq, decide_eq_false_iff_not] at hc) <;> (first | (exfalso; omega) | skip) <;> simp [-List.reduceReplicate, Nat.add_one_le_iff, -getElem?_pos, -getElem?_neg, List.getElem?_cons_zero, List.getElem?_cons_succ, leafT, hc])
    | (with_reducible refine DEv_cut _ _ _ _ _ _ _ _ _ _ _ _ (by kernel_rfl) ?_; simp [-List.reduceReplicate, Nat.add_one_le_iff, -getElem?_pos, -getElem?_neg, List.getElem?_cons_zero, List.getElem?_cons_succ, leafT])
    | ((with_reducible refine hother _ _ rfl ?_); simp only [inBlockA, thenA, noGotoA, Nat.reduceEqDiff, if_false, if_true, ↓reduceIte])
    | ((with_reducible refine hother2 _ _ rfl ?_); simp only [inBlockA, thenA, noGotoA, Nat.reduceEqDiff, if_false, if_true, ↓reduceIte])
    | ((with_reducible refine hother3 _ _ rfl ?_); simp only [inBlockA, thenA, noGotoA, Nat.reduceEqDiff, if_false, if_true, ↓reduceIte])
    | (with_reducible refine And.intro (by omega) ?_)
    | (with_reducible change postOf _ _ _ _ _; simp [-List.reduceReplicate, Nat.add_one_le_iff, -getElem?_pos, -getElem?_neg, List.getElem?_cons_zero, List.getElem?_cons_succ, leafT])
    | fail)
theorem headerText_den (s : ByteArray) (hs : s.size ≤ 140737488355328) : DenV Try.prog 50 [.c (.v (.string s))] (.c (.v (.string (bsS (headT s))))) := by
  refine Den.frame rfl rfl ?_
  refine den_of Try.func50 rfl rfl (by simp [Try.ntmps50]) (fun X hX hO => ?_)
  rw [Try.ntmps50] at hX
  simp only [Try.results50]
  have h := text_den 3 [s] 1 true rfl (by omega) (by rw [join_one', ← size_list]; exact hs)
  rw [join_one'] at h
  repeat' (first 
    | with_reducible refine awp_scope ?_
    | with_reducible refine awp_seq ?_
    | with_reducible refine awp_block ?_
    | (with_reducible refine awp_label ?_; try simp only [thenA, inBlockA, noGotoA])
    | (with_reducible refine awp_skip ?_; try simp only [thenA, inBlockA, noGotoA])
    | (with_reducible refine awp_exit ?_; simp only [thenA, inBlockA, noGotoA, if_true, Nat.reduceEqDiff, if_false, ↓reduceIte])
    | (with_reducible refine awp_ret ?_; (try simp only [thenA, inBlockA, noGotoA]); (try simp [-List.reduceReplicate, Nat.add_one_le_iff, -getElem?_pos, -getElem?_neg, List.getElem?_cons_zero, List.getElem?_cons_succ, headT]))
    | (with_reducible refine awp_reg 6 hX [0, 2] ?_; simp [-List.reduceReplicate, Nat.add_one_le_iff, -getElem?_pos, -getElem?_neg, List.getElem?_cons_zero, List.getElem?_cons_succ, headT])
    | (with_reducible refine awp_drw 6 hX [0, 2] Tab.mixed (by kernel_rfl) ?_; simp [-List.reduceReplicate, Nat.add_one_le_iff, -getElem?_pos, -getElem?_neg, List.getElem?_cons_zero, List.getElem?_cons_succ, headT])
    | (refine (h _).det ?_; try simp [-List.reduceReplicate, Nat.add_one_le_iff, -getElem?_pos, -getElem?_neg, List.getElem?_cons_zero, List.getElem?_cons_succ, headT])
    | (refine ⟨_, _, h _, fun _ => rfl, ?_⟩; try simp [-List.reduceReplicate, Nat.add_one_le_iff, -getElem?_pos, -getElem?_neg, List.getElem?_cons_zero, List.getElem?_cons_succ, headT])
    | (with_reducible refine awp_if_b rfl (fun hc => ?_) (fun hc => ?_) <;> (try simp [-getElem?_pos, -getElem?_neg] at hc) <;> (try (exfalso; omega)))
    | (with_reducible refine GuardK_b (fun hc => ?_) (fun hc => ?_) <;> (try simp only [Bool.not_eq_true', Bool.not_eq_false', decide_eq_true_eq, decide_eq_false_iff_not] at hc) <;> (first | (exfalso; omega) | skip) <;> simp [-List.reduceReplicate, Nat.add_one_le_iff, -getElem?_pos, -getElem?_neg, List.getElem?_cons_zero, List.getElem?_cons_succ, headT, hc])
    | (with_reducible refine DGuard_b _ _ _ _ _ _ _ _ _ _ (fun hc => ?_) (fun hc => ?_) <;> (try simp only [Bool.not_eq_true', Bool.not_eq_false', decide_eq_true_eq, decide_eq_false_iff_not] at hc) <;> (first | (exfalso; omega) | skip) <;> simp [-List.reduceReplicate, Nat.add_one_le_iff, -getElem?_pos, -getElem?_neg, List.getElem?_cons_zero, List.getElem?_cons_succ, headT, hc])
    | (with_reducible refine DEv_cut _ _ _ _ _ _ _ _ _ _ _ _ (by kernel_rfl) ?_; simp [-List.reduceReplicate, Nat.add_one_le_iff, -getElem?_pos, -getElem?_neg, List.getElem?_cons_zero, List.getElem?_cons_succ, headT])
    | ((with_reducible refine hother _ _ rfl ?_); simp only [inBlockA, thenA, noGotoA, Nat.reduceEqDiff, if_false, if_true, ↓reduceIte])
    | ((with_reducible refine hother2 _ _ rfl ?_); simp only [inBlockA, thenA, noGotoA, Nat.reduceEqDiff, if_false, if_true, ↓reduceIte])
    | ((with_reducible refine hother3 _ _ rfl ?_); simp only [inBlockA, thenA, noGotoA, Nat.reduceEqDiff, if_false, if_true, ↓reduceIte])
    | (with_reducible refine And.intro (by omega) ?_)
    | (with_reducible change postOf _ _ _ _ _; simp [-List.reduceReplicate, Nat.add_one_le_iff, -getElem?_pos, -getElem?_neg, List.getElem?_cons_zero, List.getElem?_cons_succ, headT])
    | fail)
theorem bs_list (l : List UInt8) : (bsS l).data.toList = l := rfl
theorem nodeText_den (a b : List UInt8) (ha : a.length = 32) (hb : b.length = 32) : DenV Try.prog 46 [hashM a, hashM b] (.c (.v (.string (bsS (nodeT a b))))) := by
  refine Den.frame (by simp [ltBs, lt_hash]) rfl ?_
  refine den_of Try.func46 rfl rfl (by simp [Try.ntmps46]) (fun X hX hO => ?_)
  rw [Try.ntmps46] at hX
  simp only [Try.results46]
  have h := text_den 1 [bsS a, bsS b] 2 true rfl (by omega) (by rw [join_two, bs_list, bs_list]; simp [ha, hb])
  rw [join_two, bs_list, bs_list] at h
  have h1 := bytesM_b8 a
  have h2 := bytesM_b8 b
  have t1 := hash_take a ha
  have t2 := hash_take b hb
  repeat' (first 
    | with_reducible refine awp_scope ?_
    | with_reducible refine awp_seq ?_
    | with_reducible refine awp_block ?_
    | (with_reducible refine awp_label ?_; try simp only [thenA, inBlockA, noGotoA])
    | (with_reducible refine awp_skip ?_; try simp only [thenA, inBlockA, noGotoA])
    | (with_reducible refine awp_exit ?_; simp only [thenA, inBlockA, noGotoA, if_true, Nat.reduceEqDiff, if_false, ↓reduceIte])
    | (with_reducible refine awp_ret ?_; (try simp only [thenA, inBlockA, noGotoA]); (try simp [-List.reduceReplicate, Nat.add_one_le_iff, -getElem?_pos, -getElem?_neg, List.getElem?_cons_zero, List.getElem?_cons_succ, hashM, ha, hb, h1, h2, t1, t2, nodeT]))
    | (with_reducible refine awp_reg 11 hX [2, 3, 4] ?_; simp [-List.reduceReplicate, Nat.add_one_le_iff, -getElem?_pos, -getElem?_neg, List.getElem?_cons_zero, List.getElem?_cons_succ, hashM, ha, hb, h1, h2, t1, t2, nodeT])
    | (with_reducible refine awp_drw 11 hX [2, 3, 4] Tab.mixed (by kernel_rfl) ?_; simp [-List.reduceReplicate, Nat.add_one_le_iff, -getElem?_pos, -getElem?_neg, List.getElem?_cons_zero, List.getElem?_cons_succ, hashM, ha, hb, h1, h2, t1, t2, nodeT])
    | (refine (h _).det ?_; try simp [-List.reduceReplicate, Nat.add_one_le_iff, -getElem?_pos, -getElem?_neg, List.getElem?_cons_zero, List.getElem?_cons_succ, hashM, ha, hb, h1, h2, t1, t2, nodeT])
    | (refine ⟨_, _, h _, fun _ => rfl, ?_⟩; try simp [-List.reduceReplicate, Nat.add_one_le_iff, -getElem?_pos, -getElem?_neg, List.getElem?_cons_zero, List.getElem?_cons_succ, hashM, ha, hb, h1, h2, t1, t2, nodeT])
    | (with_reducible refine awp_if_b rfl (fun hc => ?_) (fun hc => ?_) <;> (try simp [-getElem?_pos, -getElem?_neg] at hc) <;> (try (exfalso; omega)))
    | (with_reducible refine GuardK_b (fun hc => ?_) (fun hc => ?_) <;> (try simp only [Bool.not_eq_true', Bool.not_eq_false', decide_eq_true_eq, decide_eq_false_iff_not] at hc) <;> (first | (exfalso; omega) | skip) <;> simp [-List.reduceReplicate, Nat.add_one_le_iff, -getElem?_pos, -getElem?_neg, List.getElem?_cons_zero, List.getElem?_cons_succ, hashM, ha, hb, h1, h2, t1, t2, nodeT, hc])
    | (with_reducible refine DGuard_b _ _ _ _ _ _ _ _ _ _ (fun hc => ?_) (fun hc => ?_) <;> (try simp only [Bool.not_eq_true', Bool.not_eq_false', decide_eq_true_eq, decide_eq_false_iff_not] at hc) <;> (first | (exfalso; omega) | skip) <;> simp [-List.reduceReplicate, Nat.add_one_le_iff, -getElem?_pos, -getElem?_neg, List.getElem?_cons_zero, List.getElem?_cons_succ, hashM, ha, hb, h1, h2, t1, t2, nodeT, hc])
    | (with_reducible refine DEv_cut _ _ _ _ _ _ _ _ _ _ _ _ (by kernel_rfl) ?_; simp [-List.reduceReplicate, Nat.add_one_le_iff, -getElem?_pos, -getElem?_neg, List.getElem?_cons_zero, List.getElem?_cons_succ, hashM, ha, hb, h1, h2, t1, t2, nodeT])
    | ((with_reducible refine hother _ _ rfl ?_); simp only [inBlockA, thenA, noGotoA, Nat.reduceEqDiff, if_false, if_true, ↓reduceIte])
    | ((with_reducible refine hother2 _ _ rfl ?_); simp only [inBlockA, thenA, noGotoA, Nat.reduceEqDiff, if_false, if_true, ↓reduceIte])
    | ((with_reducible refine hother3 _ _ rfl ?_); simp only [inBlockA, thenA, noGotoA, Nat.reduceEqDiff, if_false, if_true, ↓reduceIte])
    | (with_reducible refine And.intro (by omega) ?_)
    | (with_reducible change postOf _ _ _ _ _; simp [-List.reduceReplicate, Nat.add_one_le_iff, -getElem?_pos, -getElem?_neg, List.getElem?_cons_zero, List.getElem?_cons_succ, hashM, ha, hb, h1, h2, t1, t2, nodeT])
    | fail)
theorem rootText_den (n : Nat) (a : List UInt8) (hn : n < 18446744073709551616) (ha : a.length = 32) : DenV Try.prog 48 [.c (u64C n), hashM a] (.c (.v (.string (bsS (rootT n a))))) := by
  refine Den.frame (by simp [ltBs, ltB, lt_hash]) rfl ?_
  refine den_of Try.func48 rfl rfl (by simp [Try.ntmps48]) (fun X hX hO => ?_)
  rw [Try.ntmps48] at hX
  simp only [Try.results48]
  have h := text_den 2 [bsS (putN n 8), bsS a] 2 true rfl (by omega) (by rw [join_two, bs_list, bs_list]; simp [ha, putN_len])
  rw [join_two, bs_list, bs_list] at h
  have h1 := bytesM_b8 a
  have t1 := hash_take a ha
  repeat' (first 
    | with_reducible refine awp_scope ?_
    | with_reducible refine awp_seq ?_
    | with_reducible refine awp_block ?_
    | (with_reducible refine awp_label ?_; try simp only [thenA, inBlockA, noGotoA])
    | (with_reducible refine awp_skip ?_; try simp only [thenA, inBlockA, noGotoA])
    | (with_reducible refine awp_exit ?_; simp only [thenA, inBlockA, noGotoA, if_true, Nat.reduceEqDiff, if_false, ↓reduceIte])
    | (with_reducible refine awp_ret ?_; (try simp only [thenA, inBlockA, noGotoA]); (try simp [-List.reduceReplicate, Nat.add_one_le_iff, -getElem?_pos, -getElem?_neg, List.getElem?_cons_zero, List.getElem?_cons_succ, hashM, ha, h1, t1, rootT, u64C]))
    | (with_reducible refine awp_reg 11 hX [0, 3, 4] ?_; simp [-List.reduceReplicate, Nat.add_one_le_iff, -getElem?_pos, -getElem?_neg, List.getElem?_cons_zero, List.getElem?_cons_succ, hashM, ha, h1, t1, rootT, u64C])
    | (with_reducible refine awp_drw 11 hX [0, 3, 4] Tab.mixed (by kernel_rfl) ?_; simp [-List.reduceReplicate, Nat.add_one_le_iff, -getElem?_pos, -getElem?_neg, List.getElem?_cons_zero, List.getElem?_cons_succ, hashM, ha, h1, t1, rootT, u64C])
    | ((with_reducible refine Den.at_ (f := 65) ?_); refine (put64_den n hn _).det ?_; try simp [-List.reduceReplicate, Nat.add_one_le_iff, -getElem?_pos, -getElem?_neg, List.getElem?_cons_zero, List.getElem?_cons_succ, hashM, ha, h1, t1, rootT, u64C])
    | ((with_reducible refine drawn_at (f := 65) ?_); refine ⟨_, _, put64_den n hn _, fun _ => rfl, ?_⟩; try simp [-List.reduceReplicate, Nat.add_one_le_iff, -getElem?_pos, -getElem?_neg, List.getElem?_cons_zero, List.getElem?_cons_succ, hashM, ha, h1, t1, rootT, u64C])
    | (refine (h _).det ?_; try simp [-List.reduceReplicate, Nat.add_one_le_iff, -getElem?_pos, -getElem?_neg, List.getElem?_cons_zero, List.getElem?_cons_succ, hashM, ha, h1, t1, rootT, u64C])
    | (refine ⟨_, _, h _, fun _ => rfl, ?_⟩; try simp [-List.reduceReplicate, Nat.add_one_le_iff, -getElem?_pos, -getElem?_neg, List.getElem?_cons_zero, List.getElem?_cons_succ, hashM, ha, h1, t1, rootT, u64C])
    | (with_reducible refine awp_if_b rfl (fun hc => ?_) (fun hc => ?_) <;> (try simp [-getElem?_pos, -getElem?_neg] at hc) <;> (try (exfalso; omega)))
    | (with_reducible refine GuardK_b (fun hc => ?_) (fun hc => ?_) <;> (try simp only [Bool.not_eq_true', Bool.not_eq_false', decide_eq_true_eq, decide_eq_false_iff_not] at hc) <;> (first | (exfalso; omega) | skip) <;> simp [-List.reduceReplicate, Nat.add_one_le_iff, -getElem?_pos, -getElem?_neg, List.getElem?_cons_zero, List.getElem?_cons_succ, hashM, ha, h1, t1, rootT, u64C, hc])
    | (with_reducible refine DGuard_b _ _ _ _ _ _ _ _ _ _ (fun hc => ?_) (fun hc => ?_) <;> (try simp only [Bool.not_eq_true', Bool.not_eq_false', decide_eq_true_eq, decide_eq_false_iff_not] at hc) <;> (first | (exfalso; omega) | skip) <;> simp [-List.reduceReplicate, Nat.add_one_le_iff, -getElem?_pos, -getElem?_neg, List.getElem?_cons_zero, List.getElem?_cons_succ, hashM, ha, h1, t1, rootT, u64C, hc])
    | (with_reducible refine DEv_cut _ _ _ _ _ _ _ _ _ _ _ _ (by kernel_rfl) ?_; simp [-List.reduceReplicate, Nat.add_one_le_iff, -getElem?_pos, -getElem?_neg, List.getElem?_cons_zero, List.getElem?_cons_succ, hashM, ha, h1, t1, rootT, u64C])
    | ((with_reducible refine hother _ _ rfl ?_); simp only [inBlockA, thenA, noGotoA, Nat.reduceEqDiff, if_false, if_true, ↓reduceIte])
    | ((with_reducible refine hother2 _ _ rfl ?_); simp only [inBlockA, thenA, noGotoA, Nat.reduceEqDiff, if_false, if_true, ↓reduceIte])
    | ((with_reducible refine hother3 _ _ rfl ?_); simp only [inBlockA, thenA, noGotoA, Nat.reduceEqDiff, if_false, if_true, ↓reduceIte])
    | (with_reducible refine And.intro (by omega) ?_)
    | (with_reducible change postOf _ _ _ _ _; simp [-List.reduceReplicate, Nat.add_one_le_iff, -getElem?_pos, -getElem?_neg, List.getElem?_cons_zero, List.getElem?_cons_succ, hashM, ha, h1, t1, rootT, u64C])
    | fail)
/-! ### the document's -/
theorem bs_cons (t : UInt8) (s : ByteArray) : bsS [t] ++ s = bsS (t :: s.data.toList) := by
  rw [← bs_data s, bs_append]; rfl
theorem leafText03_den (s : ByteArray) (hs : s.size ≤ 140737488355328) : DenV Try.prog 45 [.c (.v (.string s))] (.c (.v (.string (bsS (leafT s))))) := by
  refine Den.frame rfl rfl ?_
  refine den_of Try.func45 rfl rfl (by simp [Try.ntmps45]) (fun X hX hO => ?_)
  rw [Try.ntmps45] at hX
  simp only [Try.results45]
  have z : bsS [UInt8.ofNat (0 % 256 : Int).toNat] = bsS [0] := rfl
  have h := bs_cons 0 s
  have h1 : 1 + s.size ≤ 9223372036854775807 := by omega
  repeat' (first 
    | with_reducible refine awp_scope ?_
    | with_reducible refine awp_seq ?_
    | with_reducible refine awp_block ?_
    | (with_reducible refine awp_label ?_; try simp only [thenA, inBlockA, noGotoA])
    | (with_reducible refine awp_skip ?_; try simp only [thenA, inBlockA, noGotoA])
    | (with_reducible refine awp_exit ?_; simp only [thenA, inBlockA, noGotoA, if_true, Nat.reduceEqDiff, if_false, ↓reduceIte])
    | (with_reducible refine awp_ret ?_; (try simp only [thenA, inBlockA, noGotoA]); (try simp [-List.reduceReplicate, Nat.add_one_le_iff, -getElem?_pos, -getElem?_neg, List.getElem?_cons_zero, List.getElem?_cons_succ, z, h, h1, bs_size, leafT]))
    | (with_reducible refine awp_reg 6 hX [0, 2] ?_; simp [-List.reduceReplicate, Nat.add_one_le_iff, -getElem?_pos, -getElem?_neg, List.getElem?_cons_zero, List.getElem?_cons_succ, z, h, h1, bs_size, leafT])
    | (with_reducible refine awp_drw 6 hX [0, 2] Tab.mixed (by kernel_rfl) ?_; simp [-List.reduceReplicate, Nat.add_one_le_iff, -getElem?_pos, -getElem?_neg, List.getElem?_cons_zero, List.getElem?_cons_succ, z, h, h1, bs_size, leafT])
    | ((with_reducible refine Den.at_ (f := 64) ?_); refine (byte01_den 0 _).det ?_; try simp [-List.reduceReplicate, Nat.add_one_le_iff, -getElem?_pos, -getElem?_neg, List.getElem?_cons_zero, List.getElem?_cons_succ, z, h, h1, bs_size, leafT])
    | ((with_reducible refine drawn_at (f := 64) ?_); refine ⟨_, _, byte01_den 0 _, fun _ => rfl, ?_⟩; try simp [-List.reduceReplicate, Nat.add_one_le_iff, -getElem?_pos, -getElem?_neg, List.getElem?_cons_zero, List.getElem?_cons_succ, z, h, h1, bs_size, leafT])
    | (with_reducible refine awp_if_b rfl (fun hc => ?_) (fun hc => ?_) <;> (try simp [-getElem?_pos, -getElem?_neg] at hc) <;> (try (exfalso; omega)))
    | (with_reducible refine GuardK_b (fun hc => ?_) (fun hc => ?_) <;> (try simp only [Bool.not_eq_true', Bool.not_eq_false', decide_eq_true_eq, decide_eq_false_iff_not] at hc) <;> (first | (exfalso; omega) | skip) <;> simp [-List.reduceReplicate, Nat.add_one_le_iff, -getElem?_pos, -getElem?_neg, List.getElem?_cons_zero, List.getElem?_cons_succ, z, h, h1, bs_size, leafT, hc])
    | (with_reducible refine DGuard_b _ _ _ _ _ _ _ _ _ _ (fun hc => ?_) (fun hc => ?_) <;> (try simp only [Bool.not_eq_true', Bool.not_eq_false', decide_eq_true_eq, decide_eq_false_iff_not] at hc) <;> (first | (exfalso; omega) | skip) <;> simp [-List.reduceReplicate, Nat.add_one_le_iff, -getElem?_pos, -getElem?_neg, List.getElem?_cons_zero, List.getElem?_cons_succ, z, h, h1, bs_size, leafT, hc])
    | (with_reducible refine DEv_cut _ _ _ _ _ _ _ _ _ _ _ _ (by kernel_rfl) ?_; simp [-List.reduceReplicate, Nat.add_one_le_iff, -getElem?_pos, -getElem?_neg, List.getElem?_cons_zero, List.getElem?_cons_succ, z, h, h1, bs_size, leafT])
    | ((with_reducible refine hother _ _ rfl ?_); simp only [inBlockA, thenA, noGotoA, Nat.reduceEqDiff, if_false, if_true, ↓reduceIte])
    | ((with_reducible refine hother2 _ _ rfl ?_); simp only [inBlockA, thenA, noGotoA, Nat.reduceEqDiff, if_false, if_true, ↓reduceIte])
    | ((with_reducible refine hother3 _ _ rfl ?_); simp only [inBlockA, thenA, noGotoA, Nat.reduceEqDiff, if_false, if_true, ↓reduceIte])
    | (with_reducible refine And.intro (by omega) ?_)
    | (with_reducible change postOf _ _ _ _ _; simp [-List.reduceReplicate, Nat.add_one_le_iff, -getElem?_pos, -getElem?_neg, List.getElem?_cons_zero, List.getElem?_cons_succ, z, h, h1, bs_size, leafT])
    | fail)
theorem headerText03_den (s : ByteArray) (hs : s.size ≤ 140737488355328) : DenV Try.prog 51 [.c (.v (.string s))] (.c (.v (.string (bsS (headT s))))) := by
  refine Den.frame rfl rfl ?_
  refine den_of Try.func51 rfl rfl (by simp [Try.ntmps51]) (fun X hX hO => ?_)
  rw [Try.ntmps51] at hX
  simp only [Try.results51]
  have z : bsS [UInt8.ofNat (3 % 256 : Int).toNat] = bsS [3] := rfl
  have h := bs_cons 3 s
  have h1 : 1 + s.size ≤ 9223372036854775807 := by omega
  repeat' (first 
    | with_reducible refine awp_scope ?_
    | with_reducible refine awp_seq ?_
    | with_reducible refine awp_block ?_
    | (with_reducible refine awp_label ?_; try simp only [thenA, inBlockA, noGotoA])
    | (with_reducible refine awp_skip ?_; try simp only [thenA, inBlockA, noGotoA])
    | (with_reducible refine awp_exit ?_; simp only [thenA, inBlockA, noGotoA, if_true, Nat.reduceEqDiff, if_false, ↓reduceIte])
    | (with_reducible refine awp_ret ?_; (try simp only [thenA, inBlockA, noGotoA]); (try simp [-List.reduceReplicate, Nat.add_one_le_iff, -getElem?_pos, -getElem?_neg, List.getElem?_cons_zero, List.getElem?_cons_succ, z, h, h1, bs_size, headT]))
    | (with_reducible refine awp_reg 6 hX [0, 2] ?_; simp [-List.reduceReplicate, Nat.add_one_le_iff, -getElem?_pos, -getElem?_neg, List.getElem?_cons_zero, List.getElem?_cons_succ, z, h, h1, bs_size, headT])
    | (with_reducible refine awp_drw 6 hX [0, 2] Tab.mixed (by kernel_rfl) ?_; simp [-List.reduceReplicate, Nat.add_one_le_iff, -getElem?_pos, -getElem?_neg, List.getElem?_cons_zero, List.getElem?_cons_succ, z, h, h1, bs_size, headT])
    | ((with_reducible refine Den.at_ (f := 64) ?_); refine (byte01_den 3 _).det ?_; try simp [-List.reduceReplicate, Nat.add_one_le_iff, -getElem?_pos, -getElem?_neg, List.getElem?_cons_zero, List.getElem?_cons_succ, z, h, h1, bs_size, headT])
    | ((with_reducible refine drawn_at (f := 64) ?_); refine ⟨_, _, byte01_den 3 _, fun _ => rfl, ?_⟩; try simp [-List.reduceReplicate, Nat.add_one_le_iff, -getElem?_pos, -getElem?_neg, List.getElem?_cons_zero, List.getElem?_cons_succ, z, h, h1, bs_size, headT])
    | (with_reducible refine awp_if_b rfl (fun hc => ?_) (fun hc => ?_) <;> (try simp [-getElem?_pos, -getElem?_neg] at hc) <;> (try (exfalso; omega)))
    | (with_reducible refine GuardK_b (fun hc => ?_) (fun hc => ?_) <;> (try simp only [Bool.not_eq_true', Bool.not_eq_false', decide_eq_true_eq, decide_eq_false_iff_not] at hc) <;> (first | (exfalso; omega) | skip) <;> simp [-List.reduceReplicate, Nat.add_one_le_iff, -getElem?_pos, -getElem?_neg, List.getElem?_cons_zero, List.getElem?_cons_succ, z, h, h1, bs_size, headT, hc])
    | (with_reducible refine DGuard_b _ _ _ _ _ _ _ _ _ _ (fun hc => ?_) (fun hc => ?_) <;> (try simp only [Bool.not_eq_true', Bool.not_eq_false', decide_eq_true_eq, decide_eq_false_iff_not] at hc) <;> (first | (exfalso; omega) | skip) <;> simp [-List.reduceReplicate, Nat.add_one_le_iff, -getElem?_pos, -getElem?_neg, List.getElem?_cons_zero, List.getElem?_cons_succ, z, h, h1, bs_size, headT, hc])
    | (with_reducible refine DEv_cut _ _ _ _ _ _ _ _ _ _ _ _ (by kernel_rfl) ?_; simp [-List.reduceReplicate, Nat.add_one_le_iff, -getElem?_pos, -getElem?_neg, List.getElem?_cons_zero, List.getElem?_cons_succ, z, h, h1, bs_size, headT])
    | ((with_reducible refine hother _ _ rfl ?_); simp only [inBlockA, thenA, noGotoA, Nat.reduceEqDiff, if_false, if_true, ↓reduceIte])
    | ((with_reducible refine hother2 _ _ rfl ?_); simp only [inBlockA, thenA, noGotoA, Nat.reduceEqDiff, if_false, if_true, ↓reduceIte])
    | ((with_reducible refine hother3 _ _ rfl ?_); simp only [inBlockA, thenA, noGotoA, Nat.reduceEqDiff, if_false, if_true, ↓reduceIte])
    | (with_reducible refine And.intro (by omega) ?_)
    | (with_reducible change postOf _ _ _ _ _; simp [-List.reduceReplicate, Nat.add_one_le_iff, -getElem?_pos, -getElem?_neg, List.getElem?_cons_zero, List.getElem?_cons_succ, z, h, h1, bs_size, headT])
    | fail)
theorem raw_den' (l : List UInt8) (hl : l.length = 32) : DenV Try.prog 42 [hashM l] (.c (.v (.string (bsS l)))) := raw_den l hl
theorem nodeText03_den (a b : List UInt8) (ha : a.length = 32) (hb : b.length = 32) : DenV Try.prog 47 [hashM a, hashM b] (.c (.v (.string (bsS (nodeT a b))))) := by
  refine Den.frame (by simp [ltBs, lt_hash]) rfl ?_
  refine den_of Try.func47 rfl rfl (by simp [Try.ntmps47]) (fun X hX hO => ?_)
  rw [Try.ntmps47] at hX
  simp only [Try.results47]
  have z : bsS [UInt8.ofNat (1 % 256 : Int).toNat] = bsS [1] := rfl
  have t1 := hash_take a ha
  have t2 := hash_take b hb
  repeat' (first 
    | with_reducible refine awp_scope ?_
    | with_reducible refine awp_seq ?_
    | with_reducible refine awp_block ?_
    | (with_reducible refine awp_label ?_; try simp only [thenA, inBlockA, noGotoA])
    | (with_reducible refine awp_skip ?_; try simp only [thenA, inBlockA, noGotoA])
    | (with_reducible refine awp_exit ?_; simp only [thenA, inBlockA, noGotoA, if_true, Nat.reduceEqDiff, if_false, ↓reduceIte])
    | (with_reducible refine awp_ret ?_; (try simp only [thenA, inBlockA, noGotoA]); (try simp [-List.reduceReplicate, Nat.add_one_le_iff, -getElem?_pos, -getElem?_neg, List.getElem?_cons_zero, List.getElem?_cons_succ, hashM, ha, hb, t1, t2, z, bs_append, bs_size, nodeT]))
    | (with_reducible refine awp_reg 12 hX [2, 3, 4] ?_; simp [-List.reduceReplicate, Nat.add_one_le_iff, -getElem?_pos, -getElem?_neg, List.getElem?_cons_zero, List.getElem?_cons_succ, hashM, ha, hb, t1, t2, z, bs_append, bs_size, nodeT])
    | (with_reducible refine awp_drw 12 hX [2, 3, 4] Tab.mixed (by kernel_rfl) ?_; simp [-List.reduceReplicate, Nat.add_one_le_iff, -getElem?_pos, -getElem?_neg, List.getElem?_cons_zero, List.getElem?_cons_succ, hashM, ha, hb, t1, t2, z, bs_append, bs_size, nodeT])
    | ((with_reducible refine Den.at_ (f := 64) ?_); refine (byte01_den 1 _).det ?_; try simp [-List.reduceReplicate, Nat.add_one_le_iff, -getElem?_pos, -getElem?_neg, List.getElem?_cons_zero, List.getElem?_cons_succ, hashM, ha, hb, t1, t2, z, bs_append, bs_size, nodeT])
    | ((with_reducible refine drawn_at (f := 64) ?_); refine ⟨_, _, byte01_den 1 _, fun _ => rfl, ?_⟩; try simp [-List.reduceReplicate, Nat.add_one_le_iff, -getElem?_pos, -getElem?_neg, List.getElem?_cons_zero, List.getElem?_cons_succ, hashM, ha, hb, t1, t2, z, bs_append, bs_size, nodeT])
    | (refine (raw_den' a ha _).det ?_; try simp [-List.reduceReplicate, Nat.add_one_le_iff, -getElem?_pos, -getElem?_neg, List.getElem?_cons_zero, List.getElem?_cons_succ, hashM, ha, hb, t1, t2, z, bs_append, bs_size, nodeT])
    | (refine ⟨_, _, raw_den' a ha _, fun _ => rfl, ?_⟩; try simp [-List.reduceReplicate, Nat.add_one_le_iff, -getElem?_pos, -getElem?_neg, List.getElem?_cons_zero, List.getElem?_cons_succ, hashM, ha, hb, t1, t2, z, bs_append, bs_size, nodeT])
    | (refine (raw_den' b hb _).det ?_; try simp [-List.reduceReplicate, Nat.add_one_le_iff, -getElem?_pos, -getElem?_neg, List.getElem?_cons_zero, List.getElem?_cons_succ, hashM, ha, hb, t1, t2, z, bs_append, bs_size, nodeT])
    | (refine ⟨_, _, raw_den' b hb _, fun _ => rfl, ?_⟩; try simp [-List.reduceReplicate, Nat.add_one_le_iff, -getElem?_pos, -getElem?_neg, List.getElem?_cons_zero, List.getElem?_cons_succ, hashM, ha, hb, t1, t2, z, bs_append, bs_size, nodeT])
    | (with_reducible refine awp_if_b rfl (fun hc => ?_) (fun hc => ?_) <;> (try simp [-getElem?_pos, -getElem?_neg] at hc) <;> (try (exfalso; omega)))
    | (with_reducible refine GuardK_b (fun hc => ?_) (fun hc => ?_) <;> (try simp only [Bool.not_eq_true', Bool.not_eq_false', decide_eq_true_eq, decide_eq_false_iff_not] at hc) <;> (first | (exfalso; omega) | skip) <;> simp [-List.reduceReplicate, Nat.add_one_le_iff, -getElem?_pos, -getElem?_neg, List.getElem?_cons_zero, List.getElem?_cons_succ, hashM, ha, hb, t1, t2, z, bs_append, bs_size, nodeT, hc])
    | (with_reducible refine DGuard_b _ _ _ _ _ _ _ _ _ _ (fun hc => ?_) (fun hc => ?_) <;> (try simp only [Bool.not_eq_true', Bool.not_eq_false', decide_eq_true_eq, decide_eq_false_iff_not] at hc) <;> (first | (exfalso; omega) | skip) <;> simp [-List.reduceReplicate, Nat.add_one_le_iff, -getElem?_pos, -getElem?_neg, List.getElem?_cons_zero, List.getElem?_cons_succ, hashM, ha, hb, t1, t2, z, bs_append, bs_size, nodeT, hc])
    | (with_reducible refine DEv_cut _ _ _ _ _ _ _ _ _ _ _ _ (by kernel_rfl) ?_; simp [-List.reduceReplicate, Nat.add_one_le_iff, -getElem?_pos, -getElem?_neg, List.getElem?_cons_zero, List.getElem?_cons_succ, hashM, ha, hb, t1, t2, z, bs_append, bs_size, nodeT])
    | ((with_reducible refine hother _ _ rfl ?_); simp only [inBlockA, thenA, noGotoA, Nat.reduceEqDiff, if_false, if_true, ↓reduceIte])
    | ((with_reducible refine hother2 _ _ rfl ?_); simp only [inBlockA, thenA, noGotoA, Nat.reduceEqDiff, if_false, if_true, ↓reduceIte])
    | ((with_reducible refine hother3 _ _ rfl ?_); simp only [inBlockA, thenA, noGotoA, Nat.reduceEqDiff, if_false, if_true, ↓reduceIte])
    | (with_reducible refine And.intro (by omega) ?_)
    | (with_reducible change postOf _ _ _ _ _; simp [-List.reduceReplicate, Nat.add_one_le_iff, -getElem?_pos, -getElem?_neg, List.getElem?_cons_zero, List.getElem?_cons_succ, hashM, ha, hb, t1, t2, z, bs_append, bs_size, nodeT])
    | fail)
theorem rootText03_den (n : Nat) (a : List UInt8) (hn : n < 18446744073709551616) (ha : a.length = 32) : DenV Try.prog 49 [.c (u64C n), hashM a] (.c (.v (.string (bsS (rootT n a))))) := by
  refine Den.frame (by simp [ltBs, ltB, lt_hash]) rfl ?_
  refine den_of Try.func49 rfl rfl (by simp [Try.ntmps49]) (fun X hX hO => ?_)
  rw [Try.ntmps49] at hX
  simp only [Try.results49]
  have z : bsS [UInt8.ofNat (2 % 256 : Int).toNat] = bsS [2] := rfl
  have t1 := hash_take a ha
  have l8 := putN_len n 8
  repeat' (first 
    | with_reducible refine awp_scope ?_
    | with_reducible refine awp_seq ?_
    | with_reducible refine awp_block ?_
    | (with_reducible refine awp_label ?_; try simp only [thenA, inBlockA, noGotoA])
    | (with_reducible refine awp_skip ?_; try simp only [thenA, inBlockA, noGotoA])
    | (with_reducible refine awp_exit ?_; simp only [thenA, inBlockA, noGotoA, if_true, Nat.reduceEqDiff, if_false, ↓reduceIte])
    | (with_reducible refine awp_ret ?_; (try simp only [thenA, inBlockA, noGotoA]); (try simp [-List.reduceReplicate, Nat.add_one_le_iff, -getElem?_pos, -getElem?_neg, List.getElem?_cons_zero, List.getElem?_cons_succ, hashM, ha, t1, z, bs_append, bs_size, rootT, u64C, l8]))
    | (with_reducible refine awp_reg 12 hX [0, 3, 4] ?_; simp [-List.reduceReplicate, Nat.add_one_le_iff, -getElem?_pos, -getElem?_neg, List.getElem?_cons_zero, List.getElem?_cons_succ, hashM, ha, t1, z, bs_append, bs_size, rootT, u64C, l8])
    | (with_reducible refine awp_drw 12 hX [0, 3, 4] Tab.mixed (by kernel_rfl) ?_; simp [-List.reduceReplicate, Nat.add_one_le_iff, -getElem?_pos, -getElem?_neg, List.getElem?_cons_zero, List.getElem?_cons_succ, hashM, ha, t1, z, bs_append, bs_size, rootT, u64C, l8])
    | ((with_reducible refine Den.at_ (f := 64) ?_); refine (byte01_den 2 _).det ?_; try simp [-List.reduceReplicate, Nat.add_one_le_iff, -getElem?_pos, -getElem?_neg, List.getElem?_cons_zero, List.getElem?_cons_succ, hashM, ha, t1, z, bs_append, bs_size, rootT, u64C, l8])
    | ((with_reducible refine drawn_at (f := 64) ?_); refine ⟨_, _, byte01_den 2 _, fun _ => rfl, ?_⟩; try simp [-List.reduceReplicate, Nat.add_one_le_iff, -getElem?_pos, -getElem?_neg, List.getElem?_cons_zero, List.getElem?_cons_succ, hashM, ha, t1, z, bs_append, bs_size, rootT, u64C, l8])
    | ((with_reducible refine Den.at_ (f := 66) ?_); refine (put01_den n 8 hn (by omega) _).det ?_; try simp [-List.reduceReplicate, Nat.add_one_le_iff, -getElem?_pos, -getElem?_neg, List.getElem?_cons_zero, List.getElem?_cons_succ, hashM, ha, t1, z, bs_append, bs_size, rootT, u64C, l8])
    | ((with_reducible refine drawn_at (f := 66) ?_); refine ⟨_, _, put01_den n 8 hn (by omega) _, fun _ => rfl, ?_⟩; try simp [-List.reduceReplicate, Nat.add_one_le_iff, -getElem?_pos, -getElem?_neg, List.getElem?_cons_zero, List.getElem?_cons_succ, hashM, ha, t1, z, bs_append, bs_size, rootT, u64C, l8])
    | (refine (raw_den' a ha _).det ?_; try simp [-List.reduceReplicate, Nat.add_one_le_iff, -getElem?_pos, -getElem?_neg, List.getElem?_cons_zero, List.getElem?_cons_succ, hashM, ha, t1, z, bs_append, bs_size, rootT, u64C, l8])
    | (refine ⟨_, _, raw_den' a ha _, fun _ => rfl, ?_⟩; try simp [-List.reduceReplicate, Nat.add_one_le_iff, -getElem?_pos, -getElem?_neg, List.getElem?_cons_zero, List.getElem?_cons_succ, hashM, ha, t1, z, bs_append, bs_size, rootT, u64C, l8])
    | (with_reducible refine awp_if_b rfl (fun hc => ?_) (fun hc => ?_) <;> (try simp [-getElem?_pos, -getElem?_neg] at hc) <;> (try (exfalso; omega)))
    | (with_reducible refine GuardK_b (fun hc => ?_) (fun hc => ?_) <;> (try simp only [Bool.not_eq_true', Bool.not_eq_false', decide_eq_true_eq, decide_eq_false_iff_not] at hc) <;> (first | (exfalso; omega) | skip) <;> simp [-List.reduceReplicate, Nat.add_one_le_iff, -getElem?_pos, -getElem?_neg, List.getElem?_cons_zero, List.getElem?_cons_succ, hashM, ha, t1, z, bs_append, bs_size, rootT, u64C, l8, hc])
    | (with_reducible refine DGuard_b _ _ _ _ _ _ _ _ _ _ (fun hc => ?_) (fun hc => ?_) <;> (try simp only [Bool.not_eq_true', Bool.not_eq_false', decide_eq_true_eq, decide_eq_false_iff_not] at hc) <;> (first | (exfalso; omega) | skip) <;> simp [-List.reduceReplicate, Nat.add_one_le_iff, -getElem?_pos, -getElem?_neg, List.getElem?_cons_zero, List.getElem?_cons_succ, hashM, ha, t1, z, bs_append, bs_size, rootT, u64C, l8, hc])
    | (with_reducible refine DEv_cut _ _ _ _ _ _ _ _ _ _ _ _ (by kernel_rfl) ?_; simp [-List.reduceReplicate, Nat.add_one_le_iff, -getElem?_pos, -getElem?_neg, List.getElem?_cons_zero, List.getElem?_cons_succ, hashM, ha, t1, z, bs_append, bs_size, rootT, u64C, l8])
    | ((with_reducible refine hother _ _ rfl ?_); simp only [inBlockA, thenA, noGotoA, Nat.reduceEqDiff, if_false, if_true, ↓reduceIte])
    | ((with_reducible refine hother2 _ _ rfl ?_); simp only [inBlockA, thenA, noGotoA, Nat.reduceEqDiff, if_false, if_true, ↓reduceIte])
    | ((with_reducible refine hother3 _ _ rfl ?_); simp only [inBlockA, thenA, noGotoA, Nat.reduceEqDiff, if_false, if_true, ↓reduceIte])
    | (with_reducible refine And.intro (by omega) ?_)
    | (with_reducible change postOf _ _ _ _ _; simp [-List.reduceReplicate, Nat.add_one_le_iff, -getElem?_pos, -getElem?_neg, List.getElem?_cons_zero, List.getElem?_cons_succ, hashM, ha, t1, z, bs_append, bs_size, rootT, u64C, l8])
    | fail)
theorem awake03_den : DenV Try.prog 43 [] (.c (bC true)) := by
  refine Den.frame rfl rfl ?_
  refine den_of Try.func43 rfl rfl (by simp [Try.ntmps43]) (fun X hX hO => ?_)
  rw [Try.ntmps43] at hX
  simp only [Try.results43]
  have hz : up (List.replicate 32 (C.v (.int .u8 0))) = up ((List.replicate 32 (0 : UInt8)).map bC8) := by rw [zero_hash]
  have e1 : (bsS (leafT ⟨#[97]⟩)).toList = [0, 97] := by rw [bs_toList]; rfl
  have e0 : (⟨#[0, 97]⟩ : ByteArray).toList = [0, 97] := by rw [toList_data]
  have e2 : (bsS (nodeT (List.replicate 32 0) (List.replicate 32 0))).size = 65 := by decide +kernel
  have e3 : (bsS (rootT 0 (List.replicate 32 0))).size = 41 := by decide +kernel
  repeat' (first 
    | with_reducible refine awp_scope ?_
    | with_reducible refine awp_seq ?_
    | with_reducible refine awp_block ?_
    | (with_reducible refine awp_label ?_; try simp only [thenA, inBlockA, noGotoA])
    | (with_reducible refine awp_skip ?_; try simp only [thenA, inBlockA, noGotoA])
    | (with_reducible refine awp_exit ?_; simp only [thenA, inBlockA, noGotoA, if_true, Nat.reduceEqDiff, if_false, ↓reduceIte])
    | (with_reducible refine awp_ret ?_; (try simp only [thenA, inBlockA, noGotoA]); (try simp [-List.reduceReplicate, Nat.add_one_le_iff, -getElem?_pos, -getElem?_neg, List.getElem?_cons_zero, List.getElem?_cons_succ, bC, hashM, hz, e0, e1, e2, e3, u64C]))
    | (with_reducible refine awp_reg 16 hX [0] ?_; simp [-List.reduceReplicate, Nat.add_one_le_iff, -getElem?_pos, -getElem?_neg, List.getElem?_cons_zero, List.getElem?_cons_succ, bC, hashM, hz, e0, e1, e2, e3, u64C])
    | (with_reducible refine awp_drw 16 hX [0] Tab.mixed (by kernel_rfl) ?_; simp [-List.reduceReplicate, Nat.add_one_le_iff, -getElem?_pos, -getElem?_neg, List.getElem?_cons_zero, List.getElem?_cons_succ, bC, hashM, hz, e0, e1, e2, e3, u64C])
    | ((with_reducible refine Den.at_ (f := 44) ?_); refine (leafText_den ⟨#[97]⟩ (by decide) _).det ?_; try simp [-List.reduceReplicate, Nat.add_one_le_iff, -getElem?_pos, -getElem?_neg, List.getElem?_cons_zero, List.getElem?_cons_succ, bC, hashM, hz, e0, e1, e2, e3, u64C])
    | ((with_reducible refine drawn_at (f := 44) ?_); refine ⟨_, _, leafText_den ⟨#[97]⟩ (by decide) _, fun _ => rfl, ?_⟩; try simp [-List.reduceReplicate, Nat.add_one_le_iff, -getElem?_pos, -getElem?_neg, List.getElem?_cons_zero, List.getElem?_cons_succ, bC, hashM, hz, e0, e1, e2, e3, u64C])
    | ((with_reducible refine Den.at_ (f := 46) ?_); refine (nodeText_den (List.replicate 32 0) (List.replicate 32 0) (by simp) (by simp) _).det ?_; try simp [-List.reduceReplicate, Nat.add_one_le_iff, -getElem?_pos, -getElem?_neg, List.getElem?_cons_zero, List.getElem?_cons_succ, bC, hashM, hz, e0, e1, e2, e3, u64C])
    | ((with_reducible refine drawn_at (f := 46) ?_); refine ⟨_, _, nodeText_den (List.replicate 32 0) (List.replicate 32 0) (by simp) (by simp) _, fun _ => rfl, ?_⟩; try simp [-List.reduceReplicate, Nat.add_one_le_iff, -getElem?_pos, -getElem?_neg, List.getElem?_cons_zero, List.getElem?_cons_succ, bC, hashM, hz, e0, e1, e2, e3, u64C])
    | ((with_reducible refine Den.at_ (f := 48) ?_); refine (rootText_den 0 (List.replicate 32 0) (by omega) (by simp) _).det ?_; try simp [-List.reduceReplicate, Nat.add_one_le_iff, -getElem?_pos, -getElem?_neg, List.getElem?_cons_zero, List.getElem?_cons_succ, bC, hashM, hz, e0, e1, e2, e3, u64C])
    | ((with_reducible refine drawn_at (f := 48) ?_); refine ⟨_, _, rootText_den 0 (List.replicate 32 0) (by omega) (by simp) _, fun _ => rfl, ?_⟩; try simp [-List.reduceReplicate, Nat.add_one_le_iff, -getElem?_pos, -getElem?_neg, List.getElem?_cons_zero, List.getElem?_cons_succ, bC, hashM, hz, e0, e1, e2, e3, u64C])
    | (with_reducible refine awp_if_b rfl (fun hc => ?_) (fun hc => ?_) <;> (try simp [-getElem?_pos, -getElem?_neg] at hc) <;> (try (exfalso; omega)))
    | (with_reducible refine GuardK_b (fun hc => ?_) (fun hc => ?_) <;> (try simp only [Bool.not_eq_true', Bool.not_eq_false', decide_eq_true_eq, decide_eq_false_iff_not] at hc) <;> (first | (exfalso; omega) | skip) <;> simp [-List.reduceReplicate, Nat.add_one_le_iff, -getElem?_pos, -getElem?_neg, List.getElem?_cons_zero, List.getElem?_cons_succ, bC, hashM, hz, e0, e1, e2, e3, u64C, hc])
    | (with_reducible refine DGuard_b _ _ _ _ _ _ _ _ _ _ (fun hc => ?_) (fun hc => ?_) <;> (try simp only [Bool.not_eq_true', Bool.not_eq_false', decide_eq_true_eq, decide_eq_false_iff_not] at hc) <;> (first | (exfalso; omega) | skip) <;> simp [-List.reduceReplicate, Nat.add_one_le_iff, -getElem?_pos, -getElem?_neg, List.getElem?_cons_zero, List.getElem?_cons_succ, bC, hashM, hz, e0, e1, e2, e3, u64C, hc])
    | (with_reducible refine DEv_cut _ _ _ _ _ _ _ _ _ _ _ _ (by kernel_rfl) ?_; simp [-List.reduceReplicate, Nat.add_one_le_iff, -getElem?_pos, -getElem?_neg, List.getElem?_cons_zero, List.getElem?_cons_succ, bC, hashM, hz, e0, e1, e2, e3, u64C])
    | ((with_reducible refine hother _ _ rfl ?_); simp only [inBlockA, thenA, noGotoA, Nat.reduceEqDiff, if_false, if_true, ↓reduceIte])
    | ((with_reducible refine hother2 _ _ rfl ?_); simp only [inBlockA, thenA, noGotoA, Nat.reduceEqDiff, if_false, if_true, ↓reduceIte])
    | ((with_reducible refine hother3 _ _ rfl ?_); simp only [inBlockA, thenA, noGotoA, Nat.reduceEqDiff, if_false, if_true, ↓reduceIte])
    | (with_reducible refine And.intro (by omega) ?_)
    | (with_reducible change postOf _ _ _ _ _; simp [-List.reduceReplicate, Nat.add_one_le_iff, -getElem?_pos, -getElem?_neg, List.getElem?_cons_zero, List.getElem?_cons_succ, bC, hashM, hz, e0, e1, e2, e3, u64C])
    | fail)
theorem hashes_take (a b : List UInt8) (ha : a.length = 32) : (a.map bC8 ++ b.map bC8).take 32 = a.map bC8 := by
  rw [List.take_append_of_le_length (by simp [ha]), List.take_of_length_le (by simp [ha])]
theorem hashes_drop (a b : List UInt8) (ha : a.length = 32) (hb : b.length = 32) : ((a.map bC8 ++ b.map bC8).drop 32).take 32 = b.map bC8 := by
  rw [List.drop_append_of_le_length (by simp [ha]), List.drop_of_length_le (by simp [ha]), List.nil_append, List.take_of_length_le (by simp [hb])]
end Go.Av
