import Derived.Test.YtahcfdbjookojaaAvT32
set_option linter.unusedVariables false
set_option linter.unusedSimpArgs false
set_option maxRecDepth 100000
set_option maxHeartbeats 4000000
namespace Go.Av
open Go Go.Proofs Go.Proofs.Ytahcfdbjookojaa Go.RowKit
/-! ### headers -/
structure HD where
  v : Nat
  a : H32
  b : H32
  n : Nat
def u32v (n : Nat) : C := .v (.int .u32 (n : Int))
def hdC (h : HD) : List C := u32v h.v :: (h.a.1.map bC8 ++ (h.b.1.map bC8 ++ [u64C h.n]))
def HDok (h : HD) : Prop := h.v < 4294967296 ∧ h.n < 18446744073709551616
def hdL (h : HD) : List UInt8 := putN h.v 4 ++ (h.a.1 ++ (h.b.1 ++ putN h.n 8))
def hdM (h : HD) : M := .agg (up (hdC h))
theorem hdC_len (h : HD) : (hdC h).length = 66 := by simp [hdC, h.a.2, h.b.2]
theorem hdL_len (h : HD) : (hdL h).length = 76 := by simp [hdL, h.a.2, h.b.2, putN_len]
theorem hdC_0 (h : HD) : (hdC h)[0]? = some (u32v h.v) := rfl
theorem hdC_1 (h : HD) : ((hdC h).drop 1).take 32 = h.a.1.map bC8 := by
  simp only [hdC, List.drop_succ_cons, List.drop_zero]
  rw [List.take_append_of_le_length (by simp [h.a.2]), List.take_of_length_le (by simp [h.a.2])]
theorem hdC_33 (h : HD) : ((hdC h).drop 33).take 32 = h.b.1.map bC8 := by
  simp only [hdC, List.drop_succ_cons, List.drop_zero]
  rw [List.drop_append_of_le_length (by simp [h.a.2]), List.drop_of_length_le (by simp [h.a.2]), List.nil_append, List.take_append_of_le_length (by simp [h.b.2]), List.take_of_length_le (by simp [h.b.2])]
theorem hdC_65 (h : HD) : (hdC h)[65]? = some (u64C h.n) := by
  simp only [hdC, List.getElem?_cons_succ]
  rw [List.getElem?_append_right (by simp [h.a.2]), List.getElem?_append_right (by simp [h.a.2, h.b.2])]
  simp [h.a.2, h.b.2]
theorem hdC_66 (h : HD) : (hdC h).take 66 = hdC h := List.take_of_length_le (by rw [hdC_len]; exact Nat.le_refl _)
theorem hdC_up1 (h : HD) : List.take 32 (up (hdC h)).tail = up (h.a.1.map bC8) := by
  have := hdC_1 h
  simp only [List.drop_one] at this
  simp only [up, ← List.map_tail, ← List.map_take]
  rw [this]
theorem headBytes_den (h : HD) (hok : HDok h) : DenV Try.prog 65 [hdM h] (.c (.v (.string (bsS (hdL h))))) := by
  refine Den.frame (by simp [ltBs, ltB, hdM, ltBs_up]) rfl ?_
  have c0 := hdC_0 h
  have c1 := hdC_1 h
  have c1' := hdC_up1 h
  have c2 := hdC_33 h
  have c3 := hdC_65 h
  have c4 := hdC_len h
  have c5 := hdC_66 h
  have l4 := putN_len h.v 4
  have l8 := putN_len h.n 8
  have b1 := bytesM_b8 h.a.1
  have b2 := bytesM_b8 h.b.1
  have la := h.a.2
  have lb := h.b.2
  have p1 := put32_den h.v hok.1
  have p2 := put64_den h.n hok.2
  unfold hdM hdL
  generalize hdC h = hd at *
  refine den_of Try.func65 rfl rfl (by simp [Try.ntmps65]) (fun X hX hO => ?_)
  rw [Try.ntmps65] at hX
  simp only [Try.results65]
  repeat' (first 
    | with_reducible refine awp_scope ?_
    | with_reducible refine awp_seq ?_
    | with_reducible refine awp_block ?_
    | (with_reducible refine awp_label ?_; try simp only [thenA, inBlockA, noGotoA])
    | (with_reducible refine awp_skip ?_; try simp only [thenA, inBlockA, noGotoA])
    | (with_reducible refine awp_exit ?_; simp only [thenA, inBlockA, noGotoA, if_true, Nat.reduceEqDiff, if_false, ↓reduceIte])
    | (with_reducible refine awp_ret ?_; (try simp only [thenA, inBlockA, noGotoA]); (try simp [-List.reduceReplicate, Nat.add_one_le_iff, -getElem?_pos, -getElem?_neg, List.getElem?_cons_zero, List.getElem?_cons_succ, c0, c1, c1', c2, c3, c4, c5, u32v, u64C, b1, b2, la, lb, l4, l8, bs_append, bs_size, of_list]))
    | (with_reducible refine awp_reg 18 hX [1, 2] ?_; simp [-List.reduceReplicate, Nat.add_one_le_iff, -getElem?_pos, -getElem?_neg, List.getElem?_cons_zero, List.getElem?_cons_succ, c0, c1, c1', c2, c3, c4, c5, u32v, u64C, b1, b2, la, lb, l4, l8, bs_append, bs_size, of_list])
    | (with_reducible refine awp_drw 18 hX [1, 2] Tab.mixed (by kernel_rfl) ?_; simp [-List.reduceReplicate, Nat.add_one_le_iff, -getElem?_pos, -getElem?_neg, List.getElem?_cons_zero, List.getElem?_cons_succ, c0, c1, c1', c2, c3, c4, c5, u32v, u64C, b1, b2, la, lb, l4, l8, bs_append, bs_size, of_list])
    | (refine (p1 _).det ?_; try simp [-List.reduceReplicate, Nat.add_one_le_iff, -getElem?_pos, -getElem?_neg, List.getElem?_cons_zero, List.getElem?_cons_succ, c0, c1, c1', c2, c3, c4, c5, u32v, u64C, b1, b2, la, lb, l4, l8, bs_append, bs_size, of_list])
    | (refine ⟨_, _, p1 _, fun _ => rfl, ?_⟩; try simp [-List.reduceReplicate, Nat.add_one_le_iff, -getElem?_pos, -getElem?_neg, List.getElem?_cons_zero, List.getElem?_cons_succ, c0, c1, c1', c2, c3, c4, c5, u32v, u64C, b1, b2, la, lb, l4, l8, bs_append, bs_size, of_list])
    | (refine (p2 _).det ?_; try simp [-List.reduceReplicate, Nat.add_one_le_iff, -getElem?_pos, -getElem?_neg, List.getElem?_cons_zero, List.getElem?_cons_succ, c0, c1, c1', c2, c3, c4, c5, u32v, u64C, b1, b2, la, lb, l4, l8, bs_append, bs_size, of_list])
    | (refine ⟨_, _, p2 _, fun _ => rfl, ?_⟩; try simp [-List.reduceReplicate, Nat.add_one_le_iff, -getElem?_pos, -getElem?_neg, List.getElem?_cons_zero, List.getElem?_cons_succ, c0, c1, c1', c2, c3, c4, c5, u32v, u64C, b1, b2, la, lb, l4, l8, bs_append, bs_size, of_list])
    | (with_reducible refine awp_if_b rfl (fun hc => ?_) (fun hc => ?_) <;> (try simp [-getElem?_pos, -getElem?_neg] at hc) <;> (try (exfalso; omega)))
    | (with_reducible refine GuardK_b (fun hc => ?_) (fun hc => ?_) <;> (try simp only [Bool.not_eq_true', Bool.not_eq_false', decide_eq_true_eq, decide_eq_false_iff_not] at hc) <;> (first | (exfalso; omega) | skip) <;> simp [-List.reduceReplicate, Nat.add_one_le_iff, -getElem?_pos, -getElem?_neg, List.getElem?_cons_zero, List.getElem?_cons_succ, c0, c1, c1', c2, c3, c4, c5, u32v, u64C, b1, b2, la, lb, l4, l8, bs_append, bs_size, of_list, hc])
    | (with_reducible refine DGuard_b _ _ _ _ _ _ _ _ _ _ (fun hc => ?_) (fun hc => ?_) <;> (try simp only [Bool.not_eq_true', Bool.not_eq_false', decide_eq_true_eq, decide_eq_false_iff_not] at hc) <;> (first | (exfalso; omega) | skip) <;> simp [-List.reduceReplicate, Nat.add_one_le_iff, -getElem?_pos, -getElem?_neg, List.getElem?_cons_zero, List.getElem?_cons_succ, c0, c1, c1', c2, c3, c4, c5, u32v, u64C, b1, b2, la, lb, l4, l8, bs_append, bs_size, of_list, hc])
    | (with_reducible refine DEv_cut _ _ _ _ _ _ _ _ _ _ _ _ (by kernel_rfl) ?_; simp [-List.reduceReplicate, Nat.add_one_le_iff, -getElem?_pos, -getElem?_neg, List.getElem?_cons_zero, List.getElem?_cons_succ, c0, c1, c1', c2, c3, c4, c5, u32v, u64C, b1, b2, la, lb, l4, l8, bs_append, bs_size, of_list])
    | ((with_reducible refine hother _ _ rfl ?_); simp only [inBlockA, thenA, noGotoA, Nat.reduceEqDiff, if_false, if_true, ↓reduceIte])
    | ((with_reducible refine hother2 _ _ rfl ?_); simp only [inBlockA, thenA, noGotoA, Nat.reduceEqDiff, if_false, if_true, ↓reduceIte])
    | ((with_reducible refine hother3 _ _ rfl ?_); simp only [inBlockA, thenA, noGotoA, Nat.reduceEqDiff, if_false, if_true, ↓reduceIte])
    | (with_reducible refine And.intro (by omega) ?_)
    | (with_reducible change postOf _ _ _ _ _; simp [-List.reduceReplicate, Nat.add_one_le_iff, -getElem?_pos, -getElem?_neg, List.getElem?_cons_zero, List.getElem?_cons_succ, c0, c1, c1', c2, c3, c4, c5, u32v, u64C, b1, b2, la, lb, l4, l8, bs_append, bs_size, of_list])
    | fail)
theorem bytes17_den (h : HD) (hok : HDok h) : DenV Try.prog 47 [hdM h] (.c (.v (.string (bsS (hdL h))))) := by
  refine Den.frame (by simp [ltBs, ltB, hdM, ltBs_up]) rfl ?_
  have c0 := hdC_0 h
  have c1 := hdC_1 h
  have c1' := hdC_up1 h
  have c2 := hdC_33 h
  have c3 := hdC_65 h
  have c4 := hdC_len h
  have c5 := hdC_66 h
  have l4 := putN_len h.v 4
  have l8 := putN_len h.n 8
  have la := h.a.2
  have lb := h.b.2
  have p1 := put01_den h.v 4 (by have := hok.1; omega) (by omega)
  have p2 := put01_den h.n 8 hok.2 (by omega)
  have q1 := raw_den' h.a.1 h.a.2
  have q2 := raw_den' h.b.1 h.b.2
  unfold hdM hdL
  generalize hdC h = hd at *
  have w1 : IntKind.u64.wrap (h.v : Int) = (h.v : Int) := wrapU64 _ (by have := hok.1; omega)
  refine den_of Try.func47 rfl rfl (by simp [Try.ntmps47]) (fun X hX hO => ?_)
  rw [Try.ntmps47] at hX
  simp only [Try.results47]
  repeat' (first 
    | with_reducible refine awp_scope ?_
    | with_reducible refine awp_seq ?_
    | with_reducible refine awp_block ?_
    | (with_reducible refine awp_label ?_; try simp only [thenA, inBlockA, noGotoA])
    | (with_reducible refine awp_skip ?_; try simp only [thenA, inBlockA, noGotoA])
    | (with_reducible refine awp_exit ?_; simp only [thenA, inBlockA, noGotoA, if_true, Nat.reduceEqDiff, if_false, ↓reduceIte])
    | (with_reducible refine awp_ret ?_; (try simp only [thenA, inBlockA, noGotoA]); (try simp [-List.reduceReplicate, Nat.add_one_le_iff, -getElem?_pos, -getElem?_neg, List.getElem?_cons_zero, List.getElem?_cons_succ, c0, c1, c1', c2, c3, c4, c5, u32v, u64C, la, lb, l4, l8, bs_append, bs_size, hashM, w1, iC]))
    | (with_reducible refine awp_reg 19 hX [1, 2] ?_; simp [-List.reduceReplicate, Nat.add_one_le_iff, -getElem?_pos, -getElem?_neg, List.getElem?_cons_zero, List.getElem?_cons_succ, c0, c1, c1', c2, c3, c4, c5, u32v, u64C, la, lb, l4, l8, bs_append, bs_size, hashM, w1, iC])
    | (with_reducible refine awp_drw 19 hX [1, 2] Tab.mixed (by kernel_rfl) ?_; simp [-List.reduceReplicate, Nat.add_one_le_iff, -getElem?_pos, -getElem?_neg, List.getElem?_cons_zero, List.getElem?_cons_succ, c0, c1, c1', c2, c3, c4, c5, u32v, u64C, la, lb, l4, l8, bs_append, bs_size, hashM, w1, iC])
    | (refine (p1 _).det ?_; try simp [-List.reduceReplicate, Nat.add_one_le_iff, -getElem?_pos, -getElem?_neg, List.getElem?_cons_zero, List.getElem?_cons_succ, c0, c1, c1', c2, c3, c4, c5, u32v, u64C, la, lb, l4, l8, bs_append, bs_size, hashM, w1, iC])
    | (refine ⟨_, _, p1 _, fun _ => rfl, ?_⟩; try simp [-List.reduceReplicate, Nat.add_one_le_iff, -getElem?_pos, -getElem?_neg, List.getElem?_cons_zero, List.getElem?_cons_succ, c0, c1, c1', c2, c3, c4, c5, u32v, u64C, la, lb, l4, l8, bs_append, bs_size, hashM, w1, iC])
    | (refine (q1 _).det ?_; try simp [-List.reduceReplicate, Nat.add_one_le_iff, -getElem?_pos, -getElem?_neg, List.getElem?_cons_zero, List.getElem?_cons_succ, c0, c1, c1', c2, c3, c4, c5, u32v, u64C, la, lb, l4, l8, bs_append, bs_size, hashM, w1, iC])
    | (refine ⟨_, _, q1 _, fun _ => rfl, ?_⟩; try simp [-List.reduceReplicate, Nat.add_one_le_iff, -getElem?_pos, -getElem?_neg, List.getElem?_cons_zero, List.getElem?_cons_succ, c0, c1, c1', c2, c3, c4, c5, u32v, u64C, la, lb, l4, l8, bs_append, bs_size, hashM, w1, iC])
    | (refine (q2 _).det ?_; try simp [-List.reduceReplicate, Nat.add_one_le_iff, -getElem?_pos, -getElem?_neg, List.getElem?_cons_zero, List.getElem?_cons_succ, c0, c1, c1', c2, c3, c4, c5, u32v, u64C, la, lb, l4, l8, bs_append, bs_size, hashM, w1, iC])
    | (refine ⟨_, _, q2 _, fun _ => rfl, ?_⟩; try simp [-List.reduceReplicate, Nat.add_one_le_iff, -getElem?_pos, -getElem?_neg, List.getElem?_cons_zero, List.getElem?_cons_succ, c0, c1, c1', c2, c3, c4, c5, u32v, u64C, la, lb, l4, l8, bs_append, bs_size, hashM, w1, iC])
    | (refine (p2 _).det ?_; try simp [-List.reduceReplicate, Nat.add_one_le_iff, -getElem?_pos, -getElem?_neg, List.getElem?_cons_zero, List.getElem?_cons_succ, c0, c1, c1', c2, c3, c4, c5, u32v, u64C, la, lb, l4, l8, bs_append, bs_size, hashM, w1, iC])
    | (refine ⟨_, _, p2 _, fun _ => rfl, ?_⟩; try simp [-List.reduceReplicate, Nat.add_one_le_iff, -getElem?_pos, -getElem?_neg, List.getElem?_cons_zero, List.getElem?_cons_succ, c0, c1, c1', c2, c3, c4, c5, u32v, u64C, la, lb, l4, l8, bs_append, bs_size, hashM, w1, iC])
    | (with_reducible refine awp_if_b rfl (fun hc => ?_) (fun hc => ?_) <;> (try simp [-getElem?_pos, -getElem?_neg] at hc) <;> (try (exfalso; omega)))
    | (with_reducible refine GuardK_b (fun hc => ?_) (fun hc => ?_) <;> (try simp only [Bool.not_eq_true', Bool.not_eq_false', decide_eq_true_eq, decide_eq_false_iff_not] at hc) <;> (first | (exfalso; omega) | skip) <;> simp [-List.reduceReplicate, Nat.add_one_le_iff, -getElem?_pos, -getElem?_neg, List.getElem?_cons_zero, List.getElem?_cons_succ, c0, c1, c1', c2, c3, c4, c5, u32v, u64C, la, lb, l4, l8, bs_append, bs_size, hashM, w1, iC, hc])
    | (with_reducible refine DGuard_b _ _ _ _ _ _ _ _ _ _ (fun hc => ?_) (fun hc => ?_) <;> (try simp only [Bool.not_eq_true', Bool.not_eq_false', decide_eq_true_eq, decide_eq_false_iff_not] at hc) <;> (first | (exfalso; omega) | skip) <;> simp [-List.reduceReplicate, Nat.add_one_le_iff, -getElem?_pos, -getElem?_neg, List.getElem?_cons_zero, List.getElem?_cons_succ, c0, c1, c1', c2, c3, c4, c5, u32v, u64C, la, lb, l4, l8, bs_append, bs_size, hashM, w1, iC, hc])
    | (with_reducible refine DEv_cut _ _ _ _ _ _ _ _ _ _ _ _ (by kernel_rfl) ?_; simp [-List.reduceReplicate, Nat.add_one_le_iff, -getElem?_pos, -getElem?_neg, List.getElem?_cons_zero, List.getElem?_cons_succ, c0, c1, c1', c2, c3, c4, c5, u32v, u64C, la, lb, l4, l8, bs_append, bs_size, hashM, w1, iC])
    | ((with_reducible refine hother _ _ rfl ?_); simp only [inBlockA, thenA, noGotoA, Nat.reduceEqDiff, if_false, if_true, ↓reduceIte])
    | ((with_reducible refine hother2 _ _ rfl ?_); simp only [inBlockA, thenA, noGotoA, Nat.reduceEqDiff, if_false, if_true, ↓reduceIte])
    | ((with_reducible refine hother3 _ _ rfl ?_); simp only [inBlockA, thenA, noGotoA, Nat.reduceEqDiff, if_false, if_true, ↓reduceIte])
    | (with_reducible refine And.intro (by omega) ?_)
    | (with_reducible change postOf _ _ _ _ _; simp [-List.reduceReplicate, Nat.add_one_le_iff, -getElem?_pos, -getElem?_neg, List.getElem?_cons_zero, List.getElem?_cons_succ, c0, c1, c1', c2, c3, c4, c5, u32v, u64C, la, lb, l4, l8, bs_append, bs_size, hashM, w1, iC])
    | fail)
end Go.Av
