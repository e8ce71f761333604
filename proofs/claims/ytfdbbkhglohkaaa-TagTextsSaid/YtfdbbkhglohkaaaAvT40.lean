import Derived.Test.YtfdbbkhglohkaaaAvT30
import Derived.Test.YtfdbbkhglohkaaaAvTP
set_option linter.unusedVariables false
set_option linter.unusedSimpArgs false
set_option maxRecDepth 100000
set_option maxHeartbeats 4000000
namespace Go.Av
open Go Go.Proofs Go.Proofs.Ytfdbbkhglohkaaa Go.RowKit
theorem text_glue (t : UInt8) (s : ByteArray) : bsS [t] ++ s ++ (⟨#[120]⟩ : ByteArray) ++ s = bsS (t :: joinS [s, ⟨#[120]⟩, s] ⟨#[]⟩) := by
  apply ba_ext
  simp [bsS, joinS, Lib.join, List.intercalate]
theorem tagTexts_den (s : ByteArray) (a b : List UInt8) (n : Nat) (ha : a.length = 32) (hb : b.length = 32) (hn : n < 18446744073709551616) (ob : List Ob) :
    Den Try.prog 14 [.c (.v (.string s)), .agg (up (a.map bC8 ++ b.map bC8)), .c (u64C n)] ob (fun r ob' => r = .c (bC true) ∧ ob' = ob) := by
  refine Den.frame (by simp [ltBs, ltB, ltBs_up]) rfl ?_ ob
  have hl : (a.map bC8 ++ b.map bC8).length = 64 := by simp [ha, hb]
  have k1 := hashes_take a b ha
  have k2 := hashes_drop a b ha hb
  have k3 : (a.map bC8 ++ b.map bC8).take 64 = a.map bC8 ++ b.map bC8 := List.take_of_length_le (by rw [hl]; exact Nat.le_refl _)
  by_cases hs : s.size ≤ 2000
  · obtain ⟨t, ht⟩ : ∃ t : UInt8, IntKind.u8.wrap (n : Int) = (t.toNat : Int) := ⟨UInt8.ofNat n, by simp [IntKind.wrap, IntKind.bits, IntKind.signed]⟩
    have d1 := leafText_den s (by omega)
    have d2 := nodeText_den a b ha hb
    have d3 := rootText_den n a hn ha
    have d4 := headerText_den s (by omega)
    have r1 := leafText03_den s (by omega)
    have r2 := nodeText03_den a b ha hb
    have r3 := rootText03_den n a hn ha
    have r4 := headerText03_den s (by omega)
    have hjl : (joinS [s, ⟨#[120]⟩, s] ⟨#[]⟩).length = s.size + (1 + s.size) := by rw [size_list]; simp [joinS, Lib.join, List.intercalate]; omega
    have d5 := text_den t [s, ⟨#[120]⟩, s] 3 true rfl (by omega) (by rw [hjl]; omega)
    have hg := text_glue t s
    have hone : (⟨#[t]⟩ : ByteArray) = bsS [t] := rfl
    have h4 : UInt8.ofNat t.toNat = t := by simp
    generalize bsS (t :: joinS [s, ⟨#[120]⟩, s] ⟨#[]⟩) = y5 at *
    generalize bsS (leafT s) = y1 at *
    generalize bsS (nodeT a b) = y2 at *
    generalize bsS (rootT n a) = y3 at *
    generalize bsS (headT s) = y4 at *
    generalize a.map bC8 ++ b.map bC8 = ab at *
    refine den_of Try.func14 rfl rfl (by simp [Try.ntmps14]) (fun X hX hO => ?_)
    rw [Try.ntmps14] at hX
    simp only [Try.results14]
    have c1 : ¬ (2000 : Int) < s.size := by omega
    have hz : (⟨#[120]⟩ : ByteArray).size = 1 := rfl
    have z1 : 1 + s.size ≤ 9223372036854775807 := by omega
    have z2 : 1 + s.size + 1 ≤ 9223372036854775807 := by omega
    have z3 : 1 + s.size + 1 + s.size ≤ 9223372036854775807 := by omega
    repeat' (first 
      | with_reducible refine awp_scope ?_
      | with_reducible refine awp_seq ?_
      | with_reducible refine awp_block ?_
      | (with_reducible refine awp_label ?_; try simp only [thenA, inBlockA, noGotoA])
      | (with_reducible refine awp_skip ?_; try simp only [thenA, inBlockA, noGotoA])
      | (with_reducible refine awp_exit ?_; simp only [thenA, inBlockA, noGotoA, if_true, Nat.reduceEqDiff, if_false, ↓reduceIte])
      | (with_reducible refine awp_ret ?_; (try simp only [thenA, inBlockA, noGotoA]); (try simp [-List.reduceReplicate, Nat.add_one_le_iff, -getElem?_pos, -getElem?_neg, List.getElem?_cons_zero, List.getElem?_cons_succ, c1, hl, k1, k2, k3, hashM, bC, u64C, ht, h4, hone, hg, bs_size, hz, z1, z2, z3]))
      | (with_reducible refine awp_reg 68 hX [0, 2, 4, 6, 9] ?_; simp [-List.reduceReplicate, Nat.add_one_le_iff, -getElem?_pos, -getElem?_neg, List.getElem?_cons_zero, List.getElem?_cons_succ, c1, hl, k1, k2, k3, hashM, bC, u64C, ht, h4, hone, hg, bs_size, hz, z1, z2, z3])
      | (with_reducible refine awp_drw 68 hX [0, 2, 4, 6, 9] Tab.mixed (by kernel_rfl) ?_; simp [-List.reduceReplicate, Nat.add_one_le_iff, -getElem?_pos, -getElem?_neg, List.getElem?_cons_zero, List.getElem?_cons_succ, c1, hl, k1, k2, k3, hashM, bC, u64C, ht, h4, hone, hg, bs_size, hz, z1, z2, z3])
      | (refine (d1 _).det ?_; try simp [-List.reduceReplicate, Nat.add_one_le_iff, -getElem?_pos, -getElem?_neg, List.getElem?_cons_zero, List.getElem?_cons_succ, c1, hl, k1, k2, k3, hashM, bC, u64C, ht, h4, hone, hg, bs_size, hz, z1, z2, z3])
      | (refine ⟨_, _, d1 _, fun _ => rfl, ?_⟩; try simp [-List.reduceReplicate, Nat.add_one_le_iff, -getElem?_pos, -getElem?_neg, List.getElem?_cons_zero, List.getElem?_cons_succ, c1, hl, k1, k2, k3, hashM, bC, u64C, ht, h4, hone, hg, bs_size, hz, z1, z2, z3])
      | (refine (d2 _).det ?_; try simp [-List.reduceReplicate, Nat.add_one_le_iff, -getElem?_pos, -getElem?_neg, List.getElem?_cons_zero, List.getElem?_cons_succ, c1, hl, k1, k2, k3, hashM, bC, u64C, ht, h4, hone, hg, bs_size, hz, z1, z2, z3])
      | (refine ⟨_, _, d2 _, fun _ => rfl, ?_⟩; try simp [-List.reduceReplicate, Nat.add_one_le_iff, -getElem?_pos, -getElem?_neg, List.getElem?_cons_zero, List.getElem?_cons_succ, c1, hl, k1, k2, k3, hashM, bC, u64C, ht, h4, hone, hg, bs_size, hz, z1, z2, z3])
      | (refine (d3 _).det ?_; try simp [-List.reduceReplicate, Nat.add_one_le_iff, -getElem?_pos, -getElem?_neg, List.getElem?_cons_zero, List.getElem?_cons_succ, c1, hl, k1, k2, k3, hashM, bC, u64C, ht, h4, hone, hg, bs_size, hz, z1, z2, z3])
      | (refine ⟨_, _, d3 _, fun _ => rfl, ?_⟩; try simp [-List.reduceReplicate, Nat.add_one_le_iff, -getElem?_pos, -getElem?_neg, List.getElem?_cons_zero, List.getElem?_cons_succ, c1, hl, k1, k2, k3, hashM, bC, u64C, ht, h4, hone, hg, bs_size, hz, z1, z2, z3])
      | (refine (d4 _).det ?_; try simp [-List.reduceReplicate, Nat.add_one_le_iff, -getElem?_pos, -getElem?_neg, List.getElem?_cons_zero, List.getElem?_cons_succ, c1, hl, k1, k2, k3, hashM, bC, u64C, ht, h4, hone, hg, bs_size, hz, z1, z2, z3])
      | (refine ⟨_, _, d4 _, fun _ => rfl, ?_⟩; try simp [-List.reduceReplicate, Nat.add_one_le_iff, -getElem?_pos, -getElem?_neg, List.getElem?_cons_zero, List.getElem?_cons_succ, c1, hl, k1, k2, k3, hashM, bC, u64C, ht, h4, hone, hg, bs_size, hz, z1, z2, z3])
      | (refine (r1 _).det ?_; try simp [-List.reduceReplicate, Nat.add_one_le_iff, -getElem?_pos, -getElem?_neg, List.getElem?_cons_zero, List.getElem?_cons_succ, c1, hl, k1, k2, k3, hashM, bC, u64C, ht, h4, hone, hg, bs_size, hz, z1, z2, z3])
      | (refine ⟨_, _, r1 _, fun _ => rfl, ?_⟩; try simp [-List.reduceReplicate, Nat.add_one_le_iff, -getElem?_pos, -getElem?_neg, List.getElem?_cons_zero, List.getElem?_cons_succ, c1, hl, k1, k2, k3, hashM, bC, u64C, ht, h4, hone, hg, bs_size, hz, z1, z2, z3])
      | (refine (r2 _).det ?_; try simp [-List.reduceReplicate, Nat.add_one_le_iff, -getElem?_pos, -getElem?_neg, List.getElem?_cons_zero, List.getElem?_cons_succ, c1, hl, k1, k2, k3, hashM, bC, u64C, ht, h4, hone, hg, bs_size, hz, z1, z2, z3])
      | (refine ⟨_, _, r2 _, fun _ => rfl, ?_⟩; try simp [-List.reduceReplicate, Nat.add_one_le_iff, -getElem?_pos, -getElem?_neg, List.getElem?_cons_zero, List.getElem?_cons_succ, c1, hl, k1, k2, k3, hashM, bC, u64C, ht, h4, hone, hg, bs_size, hz, z1, z2, z3])
      | (refine (r3 _).det ?_; try simp [-List.reduceReplicate, Nat.add_one_le_iff, -getElem?_pos, -getElem?_neg, List.getElem?_cons_zero, List.getElem?_cons_succ, c1, hl, k1, k2, k3, hashM, bC, u64C, ht, h4, hone, hg, bs_size, hz, z1, z2, z3])
      | (refine ⟨_, _, r3 _, fun _ => rfl, ?_⟩; try simp [-List.reduceReplicate, Nat.add_one_le_iff, -getElem?_pos, -getElem?_neg, List.getElem?_cons_zero, List.getElem?_cons_succ, c1, hl, k1, k2, k3, hashM, bC, u64C, ht, h4, hone, hg, bs_size, hz, z1, z2, z3])
      | (refine (r4 _).det ?_; try simp [-List.reduceReplicate, Nat.add_one_le_iff, -getElem?_pos, -getElem?_neg, List.getElem?_cons_zero, List.getElem?_cons_succ, c1, hl, k1, k2, k3, hashM, bC, u64C, ht, h4, hone, hg, bs_size, hz, z1, z2, z3])
      | (refine ⟨_, _, r4 _, fun _ => rfl, ?_⟩; try simp [-List.reduceReplicate, Nat.add_one_le_iff, -getElem?_pos, -getElem?_neg, List.getElem?_cons_zero, List.getElem?_cons_succ, c1, hl, k1, k2, k3, hashM, bC, u64C, ht, h4, hone, hg, bs_size, hz, z1, z2, z3])
      | (refine (d5 _).det ?_; try simp [-List.reduceReplicate, Nat.add_one_le_iff, -getElem?_pos, -getElem?_neg, List.getElem?_cons_zero, List.getElem?_cons_succ, c1, hl, k1, k2, k3, hashM, bC, u64C, ht, h4, hone, hg, bs_size, hz, z1, z2, z3])
      | (refine ⟨_, _, d5 _, fun _ => rfl, ?_⟩; try simp [-List.reduceReplicate, Nat.add_one_le_iff, -getElem?_pos, -getElem?_neg, List.getElem?_cons_zero, List.getElem?_cons_succ, c1, hl, k1, k2, k3, hashM, bC, u64C, ht, h4, hone, hg, bs_size, hz, z1, z2, z3])
      | ((with_reducible refine Den.at_ (f := 43) ?_); refine (awake03_den _).det ?_; try simp [-List.reduceReplicate, Nat.add_one_le_iff, -getElem?_pos, -getElem?_neg, List.getElem?_cons_zero, List.getElem?_cons_succ, c1, hl, k1, k2, k3, hashM, bC, u64C, ht, h4, hone, hg, bs_size, hz, z1, z2, z3])
      | ((with_reducible refine drawn_at (f := 43) ?_); refine ⟨_, _, awake03_den _, fun _ => rfl, ?_⟩; try simp [-List.reduceReplicate, Nat.add_one_le_iff, -getElem?_pos, -getElem?_neg, List.getElem?_cons_zero, List.getElem?_cons_succ, c1, hl, k1, k2, k3, hashM, bC, u64C, ht, h4, hone, hg, bs_size, hz, z1, z2, z3])
      | (with_reducible refine awp_if_b rfl (fun hc => ?_) (fun hc => ?_) <;> (try simp [-getElem?_pos, -getElem?_neg] at hc) <;> (try (exfalso; omega)))
      | (with_reducible refine GuardK_b (fun hc => ?_) (fun hc => ?_) <;> (try simp only [Bool.not_eq_true', Bool.not_eq_false', decide_eq_true_eq, decide_eq_false_iff_not] at hc) <;> (first | (exfalso; omega) | skip) <;> simp [-List.reduceReplicate, Nat.add_one_le_iff, -getElem?_pos, -getElem?_neg, List.getElem?_cons_zero, List.getElem?_cons_succ, c1, hl, k1, k2, k3, hashM, bC, u64C, ht, h4, hone, hg, bs_size, hz, z1, z2, z3, hc])
      | (with_reducible refine DGuard_b _ _ _ _ _ _ _ _ _ _ (fun hc => ?_) (fun hc => ?_) <;> (try simp only [Bool.not_eq_true', Bool.not_eq_false', decide_eq_true_eq, decide_eq_false_iff_not] at hc) <;> (first | (exfalso; omega) | skip) <;> simp [-List.reduceReplicate, Nat.add_one_le_iff, -getElem?_pos, -getElem?_neg, List.getElem?_cons_zero, List.getElem?_cons_succ, c1, hl, k1, k2, k3, hashM, bC, u64C, ht, h4, hone, hg, bs_size, hz, z1, z2, z3, hc])
      | (with_reducible refine DEv_cut _ _ _ _ _ _ _ _ _ _ _ _ (by kernel_rfl) ?_; simp [-List.reduceReplicate, Nat.add_one_le_iff, -getElem?_pos, -getElem?_neg, List.getElem?_cons_zero, List.getElem?_cons_succ, c1, hl, k1, k2, k3, hashM, bC, u64C, ht, h4, hone, hg, bs_size, hz, z1, z2, z3])
      | ((with_reducible refine hother _ _ rfl ?_); simp only [inBlockA, thenA, noGotoA, Nat.reduceEqDiff, if_false, if_true, ↓reduceIte])
      | ((with_reducible refine hother2 _ _ rfl ?_); simp only [inBlockA, thenA, noGotoA, Nat.reduceEqDiff, if_false, if_true, ↓reduceIte])
      | ((with_reducible refine hother3 _ _ rfl ?_); simp only [inBlockA, thenA, noGotoA, Nat.reduceEqDiff, if_false, if_true, ↓reduceIte])
      | (with_reducible refine And.intro (by omega) ?_)
      | (with_reducible change postOf _ _ _ _ _; simp [-List.reduceReplicate, Nat.add_one_le_iff, -getElem?_pos, -getElem?_neg, List.getElem?_cons_zero, List.getElem?_cons_succ, c1, hl, k1, k2, k3, hashM, bC, u64C, ht, h4, hone, hg, bs_size, hz, z1, z2, z3])
      | fail)
  · generalize a.map bC8 ++ b.map bC8 = ab at *
    refine den_of Try.func14 rfl rfl (by simp [Try.ntmps14]) (fun X hX hO => ?_)
    rw [Try.ntmps14] at hX
    simp only [Try.results14]
    have c1 : (2000 : Int) < s.size := by omega
    repeat' (first 
      | with_reducible refine awp_scope ?_
      | with_reducible refine awp_seq ?_
      | with_reducible refine awp_block ?_
      | (with_reducible refine awp_label ?_; try simp only [thenA, inBlockA, noGotoA])
      | (with_reducible refine awp_skip ?_; try simp only [thenA, inBlockA, noGotoA])
      | (with_reducible refine awp_exit ?_; simp only [thenA, inBlockA, noGotoA, if_true, Nat.reduceEqDiff, if_false, ↓reduceIte])
      | (with_reducible refine awp_ret ?_; (try simp only [thenA, inBlockA, noGotoA]); (try simp [-List.reduceReplicate, Nat.add_one_le_iff, -getElem?_pos, -getElem?_neg, List.getElem?_cons_zero, List.getElem?_cons_succ, c1, hl, k3, bC, u64C]))
      | (with_reducible refine awp_reg 68 hX [0, 2, 4, 6, 9] ?_; simp [-List.reduceReplicate, Nat.add_one_le_iff, -getElem?_pos, -getElem?_neg, List.getElem?_cons_zero, List.getElem?_cons_succ, c1, hl, k3, bC, u64C])
      | (with_reducible refine awp_drw 68 hX [0, 2, 4, 6, 9] Tab.mixed (by kernel_rfl) ?_; simp [-List.reduceReplicate, Nat.add_one_le_iff, -getElem?_pos, -getElem?_neg, List.getElem?_cons_zero, List.getElem?_cons_succ, c1, hl, k3, bC, u64C])
      | ((with_reducible refine Den.at_ (f := 43) ?_); refine (awake03_den _).det ?_; try simp [-List.reduceReplicate, Nat.add_one_le_iff, -getElem?_pos, -getElem?_neg, List.getElem?_cons_zero, List.getElem?_cons_succ, c1, hl, k3, bC, u64C])
      | ((with_reducible refine drawn_at (f := 43) ?_); refine ⟨_, _, awake03_den _, fun _ => rfl, ?_⟩; try simp [-List.reduceReplicate, Nat.add_one_le_iff, -getElem?_pos, -getElem?_neg, List.getElem?_cons_zero, List.getElem?_cons_succ, c1, hl, k3, bC, u64C])
      | (with_reducible refine awp_if_b rfl (fun hc => ?_) (fun hc => ?_) <;> (try simp [-getElem?_pos, -getElem?_neg] at hc) <;> (try (exfalso; omega)))
      | (with_reducible refine GuardK_b (fun hc => ?_) (fun hc => ?_) <;> (try simp only [Bool.not_eq_true', Bool.not_eq_false', decide_eq_true_eq, decide_eq_false_iff_not] at hc) <;> (first | (exfalso; omega) | skip) <;> simp [-List.reduceReplicate, Nat.add_one_le_iff, -getElem?_pos, -getElem?_neg, List.getElem?_cons_zero, List.getElem?_cons_succ, c1, hl, k3, bC, u64C, hc])
      | (with_reducible refine DGuard_b _ _ _ _ _ _ _ _ _ _ (fun hc => ?_) (fun hc => ?_) <;> (try simp only [Bool.not_eq_true', Bool.not_eq_false', decide_eq_true_eq, decide_eq_false_iff_not] at hc) <;> (first | (exfalso; omega) | skip) <;> simp [-List.reduceReplicate, Nat.add_one_le_iff, -getElem?_pos, -getElem?_neg, List.getElem?_cons_zero, List.getElem?_cons_succ, c1, hl, k3, bC, u64C, hc])
      | (with_reducible refine DEv_cut _ _ _ _ _ _ _ _ _ _ _ _ (by kernel_rfl) ?_; simp [-List.reduceReplicate, Nat.add_one_le_iff, -getElem?_pos, -getElem?_neg, List.getElem?_cons_zero, List.getElem?_cons_succ, c1, hl, k3, bC, u64C])
      | ((with_reducible refine hother _ _ rfl ?_); simp only [inBlockA, thenA, noGotoA, Nat.reduceEqDiff, if_false, if_true, ↓reduceIte])
      | ((with_reducible refine hother2 _ _ rfl ?_); simp only [inBlockA, thenA, noGotoA, Nat.reduceEqDiff, if_false, if_true, ↓reduceIte])
      | ((with_reducible refine hother3 _ _ rfl ?_); simp only [inBlockA, thenA, noGotoA, Nat.reduceEqDiff, if_false, if_true, ↓reduceIte])
      | (with_reducible refine And.intro (by omega) ?_)
      | (with_reducible change postOf _ _ _ _ _; simp [-List.reduceReplicate, Nat.add_one_le_iff, -getElem?_pos, -getElem?_neg, List.getElem?_cons_zero, List.getElem?_cons_succ, c1, hl, k3, bC, u64C])
      | fail)
end Go.Av
