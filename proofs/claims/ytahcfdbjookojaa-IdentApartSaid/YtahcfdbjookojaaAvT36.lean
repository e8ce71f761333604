import Derived.Test.YtahcfdbjookojaaAvT35
set_option linter.unusedVariables false
set_option linter.unusedSimpArgs false
set_option maxRecDepth 100000
set_option maxHeartbeats 4000000
namespace Go.Av
open Go Go.Proofs Go.Proofs.Ytahcfdbjookojaa Go.RowKit
def Z32 : H32 := ⟨List.replicate 32 0, by simp⟩
def H0 : HD := ⟨0, Z32, Z32, 0⟩
def H1 : HD := ⟨0, Z32, Z32, 1⟩
theorem ok_H0 : HDok H0 := ⟨by decide, by decide⟩
theorem ok_H1 : HDok H1 := ⟨by decide, by decide⟩
theorem ids_apart : ¬ idL H0 = idL H1 := by decide +kernel
theorem awake18_den : DenV Try.prog 42 [] (.c (bC true)) := by
  refine Den.frame rfl rfl ?_
  have p1 := ids_den [H0, H1] (by intro h hm; simp at hm; rcases hm with rfl | rfl; exact ok_H0; exact ok_H1) 2 true rfl (by omega)
  have p2 := identText_den H0 ok_H0
  have p3 := identId_den H1 ok_H1
  have hl : (idL H1).length = 32 := shaL_len _
  have p4 := identFirst_den ([H0, H1].map idH) (idL H1) hl 2 false rfl (by omega)
  have e1 : fstI ([H0, H1].map idH) (idL H1) 0 = 1 := by
    simp only [List.map_cons, List.map_nil, fstI, idH]
    rw [if_neg ids_apart]
    simp
  rw [e1] at p4
  have e2 : (bsS (3 :: hdL H0)).size = 77 := by rw [bs_size, List.length_cons, hdL_len]
  generalize hsC ([H0, H1].map idH) = hs at *
  generalize bsS (3 :: hdL H0) = tx at *
  generalize idL H1 = i1 at *
  have z0 : zeroT Try.prog 69 = some (up (hdC H0)) := by kernel_rfl
  have z1 : (hdC H0).set 65 (.v (.int .u64 1)) = hdC H1 := by rfl
  have l0 := hdC_len H0
  have l1 := hdC_len H1
  have hh : hdsC [H0, H1] = hdC H0 ++ hdC H1 := by simp [hdsC]
  rw [hh] at p1
  unfold hdM at *
  generalize hdC H0 = c0 at *
  generalize hdC H1 = c1 at *
  have y1 : lay (List.replicate 2 (up c0)).flatten 0 (up c0) = up (c0 ++ c0) := by
    have : (List.replicate 2 (up c0)).flatten = up (c0 ++ c0) := by simp [List.replicate]
    rw [this, lay_app _ _ _ (by simp [up, l0])]
    simp only [up, List.length_map, l0, Nat.zero_add, List.take_zero, List.nil_append, ← List.map_drop, List.drop_left' l0, ← List.map_append]
  have y2 : lay (up (c0 ++ c0)) 66 (up c1) = up (c0 ++ c1) := by
    rw [lay_app _ _ _ (by simp [up, l0, l1])]
    simp only [up, List.length_map, l1, ← List.map_drop, ← List.map_take, List.take_left' l0, ← List.map_append]
    rw [List.drop_of_length_le (by simp [l0])]
    simp
  refine den_of Try.func42 rfl rfl (by simp [Try.ntmps42]) (fun X hX hO => ?_)
  rw [Try.ntmps42] at hX
  simp only [Try.results42]
  repeat' (first 
    | with_reducible refine awp_scope ?_
    | with_reducible refine awp_seq ?_
    | with_reducible refine awp_block ?_
    | (with_reducible refine awp_label ?_; try simp only [thenA, inBlockA, noGotoA])
    | (with_reducible refine awp_skip ?_; try simp only [thenA, inBlockA, noGotoA])
    | (with_reducible refine awp_exit ?_; simp only [thenA, inBlockA, noGotoA, if_true, Nat.reduceEqDiff, if_false, ↓reduceIte])
    | (with_reducible refine awp_ret ?_; (try simp only [thenA, inBlockA, noGotoA]); (try simp [-List.reduceReplicate, Nat.add_one_le_iff, -getElem?_pos, -getElem?_neg, List.getElem?_cons_zero, List.getElem?_cons_succ, bC, e2, z0, z1, y1, y2, l0, l1, iC, hashM, -Tab.zero69]))
    | (with_reducible refine awp_reg 22 hX [0, 1] ?_; simp [-List.reduceReplicate, Nat.add_one_le_iff, -getElem?_pos, -getElem?_neg, List.getElem?_cons_zero, List.getElem?_cons_succ, bC, e2, z0, z1, y1, y2, l0, l1, iC, hashM, -Tab.zero69])
    | (with_reducible refine awp_drw 22 hX [0, 1] Tab.mixed (by kernel_rfl) ?_; simp [-List.reduceReplicate, Nat.add_one_le_iff, -getElem?_pos, -getElem?_neg, List.getElem?_cons_zero, List.getElem?_cons_succ, bC, e2, z0, z1, y1, y2, l0, l1, iC, hashM, -Tab.zero69])
    | (refine (p1 _).det ?_; try simp [-List.reduceReplicate, Nat.add_one_le_iff, -getElem?_pos, -getElem?_neg, List.getElem?_cons_zero, List.getElem?_cons_succ, bC, e2, z0, z1, y1, y2, l0, l1, iC, hashM, -Tab.zero69])
    | (refine ⟨_, _, p1 _, fun _ => rfl, ?_⟩; try simp [-List.reduceReplicate, Nat.add_one_le_iff, -getElem?_pos, -getElem?_neg, List.getElem?_cons_zero, List.getElem?_cons_succ, bC, e2, z0, z1, y1, y2, l0, l1, iC, hashM, -Tab.zero69])
    | (refine (p2 _).det ?_; try simp [-List.reduceReplicate, Nat.add_one_le_iff, -getElem?_pos, -getElem?_neg, List.getElem?_cons_zero, List.getElem?_cons_succ, bC, e2, z0, z1, y1, y2, l0, l1, iC, hashM, -Tab.zero69])
    | (refine ⟨_, _, p2 _, fun _ => rfl, ?_⟩; try simp [-List.reduceReplicate, Nat.add_one_le_iff, -getElem?_pos, -getElem?_neg, List.getElem?_cons_zero, List.getElem?_cons_succ, bC, e2, z0, z1, y1, y2, l0, l1, iC, hashM, -Tab.zero69])
    | (refine (p3 _).det ?_; try simp [-List.reduceReplicate, Nat.add_one_le_iff, -getElem?_pos, -getElem?_neg, List.getElem?_cons_zero, List.getElem?_cons_succ, bC, e2, z0, z1, y1, y2, l0, l1, iC, hashM, -Tab.zero69])
    | (refine ⟨_, _, p3 _, fun _ => rfl, ?_⟩; try simp [-List.reduceReplicate, Nat.add_one_le_iff, -getElem?_pos, -getElem?_neg, List.getElem?_cons_zero, List.getElem?_cons_succ, bC, e2, z0, z1, y1, y2, l0, l1, iC, hashM, -Tab.zero69])
    | (refine (p4 _).det ?_; try simp [-List.reduceReplicate, Nat.add_one_le_iff, -getElem?_pos, -getElem?_neg, List.getElem?_cons_zero, List.getElem?_cons_succ, bC, e2, z0, z1, y1, y2, l0, l1, iC, hashM, -Tab.zero69])
    | (refine ⟨_, _, p4 _, fun _ => rfl, ?_⟩; try simp [-List.reduceReplicate, Nat.add_one_le_iff, -getElem?_pos, -getElem?_neg, List.getElem?_cons_zero, List.getElem?_cons_succ, bC, e2, z0, z1, y1, y2, l0, l1, iC, hashM, -Tab.zero69])
    | (with_reducible refine awp_if_b rfl (fun hc => ?_) (fun hc => ?_) <;> (try simp [-getElem?_pos, -getElem?_neg] at hc) <;> (try (exfalso; omega)))
    | (with_reducible refine GuardK_b (fun hc => ?_) (fun hc => ?_) <;> (try simp only [Bool.not_eq_true', Bool.not_eq_false', decide_eq_true_eq, decide_eq_false_iff_not] at hc) <;> (first | (exfalso; omega) | skip) <;> simp [-List.reduceReplicate, Nat.add_one_le_iff, -getElem?_pos, -getElem?_neg, List.getElem?_cons_zero, List.getElem?_cons_succ, bC, e2, z0, z1, y1, y2, l0, l1, iC, hashM, -Tab.zero69, hc])
    | (with_reducible refine DGuard_b _ _ _ _ _ _ _ _ _ _ (fun hc => ?_) (fun hc => ?_) <;> (try simp only [Bool.not_eq_true', Bool.not_eq_false', decide_eq_true_eq, decide_eq_false_iff_not] at hc) <;> (first | (exfalso; omega) | skip) <;> simp [-List.reduceReplicate, Nat.add_one_le_iff, -getElem?_pos, -getElem?_neg, List.getElem?_cons_zero, List.getElem?_cons_succ, bC, e2, z0, z1, y1, y2, l0, l1, iC, hashM, -Tab.zero69, hc])
    | (with_reducible refine DEv_cut _ _ _ _ _ _ _ _ _ _ _ _ (by kernel_rfl) ?_; simp [-List.reduceReplicate, Nat.add_one_le_iff, -getElem?_pos, -getElem?_neg, List.getElem?_cons_zero, List.getElem?_cons_succ, bC, e2, z0, z1, y1, y2, l0, l1, iC, hashM, -Tab.zero69])
    | ((with_reducible refine hother _ _ rfl ?_); simp only [inBlockA, thenA, noGotoA, Nat.reduceEqDiff, if_false, if_true, ↓reduceIte])
    | ((with_reducible refine hother2 _ _ rfl ?_); simp only [inBlockA, thenA, noGotoA, Nat.reduceEqDiff, if_false, if_true, ↓reduceIte])
    | ((with_reducible refine hother3 _ _ rfl ?_); simp only [inBlockA, thenA, noGotoA, Nat.reduceEqDiff, if_false, if_true, ↓reduceIte])
    | (with_reducible refine And.intro (by omega) ?_)
    | (with_reducible change postOf _ _ _ _ _; simp [-List.reduceReplicate, Nat.add_one_le_iff, -getElem?_pos, -getElem?_neg, List.getElem?_cons_zero, List.getElem?_cons_succ, bC, e2, z0, z1, y1, y2, l0, l1, iC, hashM, -Tab.zero69])
    | fail)
end Go.Av
