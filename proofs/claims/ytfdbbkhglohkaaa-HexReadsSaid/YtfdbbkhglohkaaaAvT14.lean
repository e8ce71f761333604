import Derived.Test.YtfdbbkhglohkaaaAvT13
set_option linter.unusedVariables false
set_option linter.unusedSimpArgs false
namespace Go.Av
open Go Go.Proofs Go.Proofs.Ytfdbbkhglohkaaa
attribute [local simp] Try.underlying62 Try.underlying64 Try.underlying58 Try.underlying5 Try.underlying88 Try.underlying3 Try.underlying9 Try.underlying4
theorem wrap_u8 (x : Int) (h : 0 ≤ x ∧ x < 256) : IntKind.u8.wrap x = x := by
  simp [IntKind.wrap, IntKind.signed, IntKind.bits]
  omega
set_option maxRecDepth 100000 in
set_option maxHeartbeats 2000000 in
theorem figure10_den (n : Nat) (h : n < 16) (ob : List Ob) : Den Try.prog 57 [.c (iC n)] ob (fun r ob' => r = .c (u8C (fig n)) ∧ ob' = ob) := by
  refine den_of Try.func57 rfl rfl (by simp [Try.ntmps57]) (fun X hX hO => ?_)
  rw [Try.ntmps57] at hX
  simp only [Try.results57]
  have w1 := wrap_in (48 + (n : Int)) (by omega)
  have w2 := wrap_u8 (48 + (n : Int)) (by omega)
  have w3 := wrap_in (97 + (n : Int)) (by omega)
  have w4 := wrap_in (97 + (n : Int) - 10) (by omega)
  have w5 := wrap_u8 (97 + (n : Int) - 10) (by omega)
  by_cases hn : n < 10
  · repeat' (first 
      | with_reducible refine awp_scope ?_
      | with_reducible refine awp_seq ?_
      | with_reducible refine awp_block ?_
      | (with_reducible refine awp_label ?_; try simp only [thenA, inBlockA, noGotoA])
      | (with_reducible refine awp_skip ?_; try simp only [thenA, inBlockA, noGotoA])
      | (with_reducible refine awp_exit ?_; simp only [thenA, inBlockA, noGotoA, if_true, Nat.reduceEqDiff, if_false, ↓reduceIte])
      | (with_reducible refine awp_ret ?_; (try simp only [thenA, inBlockA, noGotoA]); (try simp [-List.reduceReplicate, Nat.add_one_le_iff, -getElem?_pos, -getElem?_neg, List.getElem?_cons_zero, List.getElem?_cons_succ, iC, u8C, fig, hn, w1, w2]))
      | (with_reducible refine awp_reg 12 hX [0, 2, 4] ?_; simp [-List.reduceReplicate, Nat.add_one_le_iff, -getElem?_pos, -getElem?_neg, List.getElem?_cons_zero, List.getElem?_cons_succ, iC, u8C, fig, hn, w1, w2])
      | (with_reducible refine awp_drw 12 hX [0, 2, 4] Tab.mixed (by kernel_rfl) ?_; simp [-List.reduceReplicate, Nat.add_one_le_iff, -getElem?_pos, -getElem?_neg, List.getElem?_cons_zero, List.getElem?_cons_succ, iC, u8C, fig, hn, w1, w2])
      | (with_reducible refine awp_if_b rfl (fun hc => ?_) (fun hc => ?_) <;> (try simp [-getElem?_pos, -getElem?_neg] at hc) <;> (try (exfalso; omega)))
      | (with_reducible refine GuardK_b (fun hc => ?_) (fun hc => ?_) <;> (try simp only [Bool.not_eq_true', Bool.not_eq_false', decide_eq_true_eq, decide_eq_false_iff_not] at hc) <;> (first | (exfalso; omega) | skip) <;> simp [-List.reduceReplicate, Nat.add_one_le_iff, -getElem?_pos, -getElem?_neg, List.getElem?_cons_zero, List.getElem?_cons_succ, iC, u8C, fig, hn, w1, w2, hc])
      | (with_reducible refine DGuard_b _ _ _ _ _ _ _ _ _ _ (fun hc => ?_) (fun hc => ?_) <;> (try simp only [Bool.not_eq_true', Bool.not_eq_false', decide_eq_true_eq, decide_eq_false_iff_not] at hc) <;> (first | (exfalso; omega) | skip) <;> simp [-List.reduceReplicate, Nat.add_one_le_iff, -getElem?_pos, -getElem?_neg, List.getElem?_cons_zero, List.getElem?_cons_succ, iC, u8C, fig, hn, w1, w2, hc])
      | (with_reducible refine DEv_cut _ _ _ _ _ _ _ _ _ _ _ _ (by kernel_rfl) ?_; simp [-List.reduceReplicate, Nat.add_one_le_iff, -getElem?_pos, -getElem?_neg, List.getElem?_cons_zero, List.getElem?_cons_succ, iC, u8C, fig, hn, w1, w2])
      | (refine hother _ _ rfl ?_; simp only [inBlockA, thenA, noGotoA, Nat.reduceEqDiff, if_false, if_true, ↓reduceIte])
      | (refine hother2 _ _ rfl ?_; simp only [inBlockA, thenA, noGotoA, Nat.reduceEqDiff, if_false, if_true, ↓reduceIte])
      | (refine hother3 _ _ rfl ?_; simp only [inBlockA, thenA, noGotoA, Nat.reduceEqDiff, if_false, if_true, ↓reduceIte])
      | (refine And.intro (by omega) ?_)
      | (with_reducible change postOf _ _ _ _ _; simp [-List.reduceReplicate, Nat.add_one_le_iff, -getElem?_pos, -getElem?_neg, List.getElem?_cons_zero, List.getElem?_cons_succ, iC, u8C, fig, hn, w1, w2])
      | fail)
  · repeat' (first 
      | with_reducible refine awp_scope ?_
      | with_reducible refine awp_seq ?_
      | with_reducible refine awp_block ?_
      | (with_reducible refine awp_label ?_; try simp only [thenA, inBlockA, noGotoA])
      | (with_reducible refine awp_skip ?_; try simp only [thenA, inBlockA, noGotoA])
      | (with_reducible refine awp_exit ?_; simp only [thenA, inBlockA, noGotoA, if_true, Nat.reduceEqDiff, if_false, ↓reduceIte])
      | (with_reducible refine awp_ret ?_; (try simp only [thenA, inBlockA, noGotoA]); (try simp [-List.reduceReplicate, Nat.add_one_le_iff, -getElem?_pos, -getElem?_neg, List.getElem?_cons_zero, List.getElem?_cons_succ, iC, u8C, fig, hn, w3, w4, w5]))
      | (with_reducible refine awp_reg 12 hX [0, 2, 4] ?_; simp [-List.reduceReplicate, Nat.add_one_le_iff, -getElem?_pos, -getElem?_neg, List.getElem?_cons_zero, List.getElem?_cons_succ, iC, u8C, fig, hn, w3, w4, w5])
      | (with_reducible refine awp_drw 12 hX [0, 2, 4] Tab.mixed (by kernel_rfl) ?_; simp [-List.reduceReplicate, Nat.add_one_le_iff, -getElem?_pos, -getElem?_neg, List.getElem?_cons_zero, List.getElem?_cons_succ, iC, u8C, fig, hn, w3, w4, w5])
      | (with_reducible refine awp_if_b rfl (fun hc => ?_) (fun hc => ?_) <;> (try simp [-getElem?_pos, -getElem?_neg] at hc) <;> (try (exfalso; omega)))
      | (with_reducible refine GuardK_b (fun hc => ?_) (fun hc => ?_) <;> (try simp only [Bool.not_eq_true', Bool.not_eq_false', decide_eq_true_eq, decide_eq_false_iff_not] at hc) <;> (first | (exfalso; omega) | skip) <;> simp [-List.reduceReplicate, Nat.add_one_le_iff, -getElem?_pos, -getElem?_neg, List.getElem?_cons_zero, List.getElem?_cons_succ, iC, u8C, fig, hn, w3, w4, w5, hc])
      | (with_reducible refine DGuard_b _ _ _ _ _ _ _ _ _ _ (fun hc => ?_) (fun hc => ?_) <;> (try simp only [Bool.not_eq_true', Bool.not_eq_false', decide_eq_true_eq, decide_eq_false_iff_not] at hc) <;> (first | (exfalso; omega) | skip) <;> simp [-List.reduceReplicate, Nat.add_one_le_iff, -getElem?_pos, -getElem?_neg, List.getElem?_cons_zero, List.getElem?_cons_succ, iC, u8C, fig, hn, w3, w4, w5, hc])
      | (with_reducible refine DEv_cut _ _ _ _ _ _ _ _ _ _ _ _ (by kernel_rfl) ?_; simp [-List.reduceReplicate, Nat.add_one_le_iff, -getElem?_pos, -getElem?_neg, List.getElem?_cons_zero, List.getElem?_cons_succ, iC, u8C, fig, hn, w3, w4, w5])
      | (refine hother _ _ rfl ?_; simp only [inBlockA, thenA, noGotoA, Nat.reduceEqDiff, if_false, if_true, ↓reduceIte])
      | (refine hother2 _ _ rfl ?_; simp only [inBlockA, thenA, noGotoA, Nat.reduceEqDiff, if_false, if_true, ↓reduceIte])
      | (refine hother3 _ _ rfl ?_; simp only [inBlockA, thenA, noGotoA, Nat.reduceEqDiff, if_false, if_true, ↓reduceIte])
      | (refine And.intro (by omega) ?_)
      | (with_reducible change postOf _ _ _ _ _; simp [-List.reduceReplicate, Nat.add_one_le_iff, -getElem?_pos, -getElem?_neg, List.getElem?_cons_zero, List.getElem?_cons_succ, iC, u8C, fig, hn, w3, w4, w5])
      | fail)
    omega
def hexB (l : List UInt8) (i : Nat) : List Int := hexTo l i ++ List.replicate (2 * l.length - 2 * i) 0
theorem hexB_set (l : List UInt8) (i : Nat) (h : i < l.length) (a b : Int) : ((hexB l i).set (2 * i) a).set (2 * i + 1) b = hexTo l i ++ [a, b] ++ List.replicate (2 * l.length - 2 * (i + 1)) 0 := by
  have hl := hexTo_len l i (by omega)
  have hr : List.replicate (2 * l.length - 2 * i) (0 : Int) = 0 :: 0 :: List.replicate (2 * l.length - 2 * (i + 1)) 0 := by
    rw [show 2 * l.length - 2 * i = (2 * l.length - 2 * (i + 1)) + 1 + 1 by omega]
    rfl
  unfold hexB
  rw [hr, List.set_append_right _ _ (by omega), List.set_append_right _ _ (by omega), hl]
  simp
theorem hexB_len (l : List UInt8) (i : Nat) (h : i ≤ l.length) : (hexB l i).length = 2 * l.length := by
  unfold hexB
  rw [List.length_append, hexTo_len l i h, List.length_replicate]
  omega
theorem flat_zeros (n : Nat) (c : C) : (List.replicate n [M.c c]).flatten = up (List.replicate n c) := by
  induction n with
  | zero => rfl
  | succ n ih => rw [List.replicate_succ, List.flatten_cons, ih]; rfl
set_option maxRecDepth 100000 in
set_option maxHeartbeats 4000000 in
theorem hexText10_den (s : ByteArray) (ob : List Ob) (hn : s.size ≤ 1000000) : Den Try.prog 33 [.c (.v (.string s))] ob (fun r ob' => r = .c (.v (.string (hexS s))) ∧ ob' = ob) := by
  refine Den.dropC ?_
  refine den_of Try.func33 rfl rfl (by simp [Try.ntmps33]) (fun X hX hO => ?_)
  rw [Try.ntmps33] at hX
  simp only [Try.results33]
  have hsz : s.data.toList.length = s.size := by simp
  by_cases h0 : s.data.toList = []
  · have hx : s.toList = [] := by rw [toList_data]; exact h0
    repeat' (first 
      | with_reducible refine awp_scope ?_
      | with_reducible refine awp_seq ?_
      | with_reducible refine awp_block ?_
      | (with_reducible refine awp_label ?_; try simp only [thenA, inBlockA, noGotoA])
      | (with_reducible refine awp_skip ?_; try simp only [thenA, inBlockA, noGotoA])
      | (with_reducible refine awp_exit ?_; simp only [thenA, inBlockA, noGotoA, if_true, Nat.reduceEqDiff, if_false, ↓reduceIte])
      | (with_reducible refine awp_ret ?_; (try simp only [thenA, inBlockA, noGotoA]); (try simp [-List.reduceReplicate, Nat.add_one_le_iff, -getElem?_pos, -getElem?_neg, List.getElem?_cons_zero, List.getElem?_cons_succ, hexS, h0, hx]))
      | (with_reducible refine awp_reg 40 hX [0, 2, 3, 4, 6, 14] ?_; simp [-List.reduceReplicate, Nat.add_one_le_iff, -getElem?_pos, -getElem?_neg, List.getElem?_cons_zero, List.getElem?_cons_succ, hexS, h0, hx])
      | (with_reducible refine awp_drw 40 hX [0, 2, 3, 4, 6, 14] Tab.mixed (by kernel_rfl) ?_; simp [-List.reduceReplicate, Nat.add_one_le_iff, -getElem?_pos, -getElem?_neg, List.getElem?_cons_zero, List.getElem?_cons_succ, hexS, h0, hx])
      | (with_reducible refine awp_if_b rfl (fun hc => ?_) (fun hc => ?_) <;> (try simp [-getElem?_pos, -getElem?_neg] at hc) <;> (try (exfalso; omega)))
      | (with_reducible refine GuardK_b (fun hc => ?_) (fun hc => ?_) <;> (try simp only [Bool.not_eq_true', Bool.not_eq_false', decide_eq_true_eq, decide_eq_false_iff_not] at hc) <;> (first | (exfalso; omega) | skip) <;> simp [-List.reduceReplicate, Nat.add_one_le_iff, -getElem?_pos, -getElem?_neg, List.getElem?_cons_zero, List.getElem?_cons_succ, hexS, h0, hx, hc])
      | (with_reducible refine DGuard_b _ _ _ _ _ _ _ _ _ _ (fun hc => ?_) (fun hc => ?_) <;> (try simp only [Bool.not_eq_true', Bool.not_eq_false', decide_eq_true_eq, decide_eq_false_iff_not] at hc) <;> (first | (exfalso; omega) | skip) <;> simp [-List.reduceReplicate, Nat.add_one_le_iff, -getElem?_pos, -getElem?_neg, List.getElem?_cons_zero, List.getElem?_cons_succ, hexS, h0, hx, hc])
      | (with_reducible refine DEv_cut _ _ _ _ _ _ _ _ _ _ _ _ (by kernel_rfl) ?_; simp [-List.reduceReplicate, Nat.add_one_le_iff, -getElem?_pos, -getElem?_neg, List.getElem?_cons_zero, List.getElem?_cons_succ, hexS, h0, hx])
      | (refine hother _ _ rfl ?_; simp only [inBlockA, thenA, noGotoA, Nat.reduceEqDiff, if_false, if_true, ↓reduceIte])
      | (refine hother2 _ _ rfl ?_; simp only [inBlockA, thenA, noGotoA, Nat.reduceEqDiff, if_false, if_true, ↓reduceIte])
      | (refine hother3 _ _ rfl ?_; simp only [inBlockA, thenA, noGotoA, Nat.reduceEqDiff, if_false, if_true, ↓reduceIte])
      | (refine And.intro (by omega) ?_)
      | (with_reducible change postOf _ _ _ _ _; simp [-List.reduceReplicate, Nat.add_one_le_iff, -getElem?_pos, -getElem?_neg, List.getElem?_cons_zero, List.getElem?_cons_succ, hexS, h0, hx])
      | fail)
  · have hx : ¬ s.toList = [] := by rw [toList_data]; exact h0
    have w2 := wrap_in (2 * (s.size : Int)) (by omega)
    have hnat : (2 * (s.size : Int)).toNat = 2 * s.size := by omega
    repeat' (first 
      | with_reducible refine awp_scope ?_
      | with_reducible refine awp_seq ?_
      | with_reducible refine awp_block ?_
      | (with_reducible refine awp_label ?_; try simp only [thenA, inBlockA, noGotoA])
      | (with_reducible refine awp_skip ?_; try simp only [thenA, inBlockA, noGotoA])
      | (with_reducible refine awp_exit ?_; simp only [thenA, inBlockA, noGotoA, if_true, Nat.reduceEqDiff, if_false, ↓reduceIte])
      | (with_reducible refine awp_ret ?_; (try simp only [thenA, inBlockA, noGotoA]); (try simp [-List.reduceReplicate, Nat.add_one_le_iff, -getElem?_pos, -getElem?_neg, List.getElem?_cons_zero, List.getElem?_cons_succ, hexS, h0, hx, w2, flat_zeros, hnat]))
      | (with_reducible refine awp_reg 40 hX [0, 2, 3, 4, 6, 14] ?_; simp [-List.reduceReplicate, Nat.add_one_le_iff, -getElem?_pos, -getElem?_neg, List.getElem?_cons_zero, List.getElem?_cons_succ, hexS, h0, hx, w2, flat_zeros, hnat])
      | (with_reducible refine awp_drw 40 hX [0, 2, 3, 4, 6, 14] Tab.mixed (by kernel_rfl) ?_; simp [-List.reduceReplicate, Nat.add_one_le_iff, -getElem?_pos, -getElem?_neg, List.getElem?_cons_zero, List.getElem?_cons_succ, hexS, h0, hx, w2, flat_zeros, hnat])
      | (with_reducible refine awp_if_b rfl (fun hc => ?_) (fun hc => ?_) <;> (try simp [-getElem?_pos, -getElem?_neg] at hc) <;> (try (exfalso; omega)))
      | (with_reducible refine GuardK_b (fun hc => ?_) (fun hc => ?_) <;> (try simp only [Bool.not_eq_true', Bool.not_eq_false', decide_eq_true_eq, decide_eq_false_iff_not] at hc) <;> (first | (exfalso; omega) | skip) <;> simp [-List.reduceReplicate, Nat.add_one_le_iff, -getElem?_pos, -getElem?_neg, List.getElem?_cons_zero, List.getElem?_cons_succ, hexS, h0, hx, w2, flat_zeros, hnat, hc])
      | (with_reducible refine DGuard_b _ _ _ _ _ _ _ _ _ _ (fun hc => ?_) (fun hc => ?_) <;> (try simp only [Bool.not_eq_true', Bool.not_eq_false', decide_eq_true_eq, decide_eq_false_iff_not] at hc) <;> (first | (exfalso; omega) | skip) <;> simp [-List.reduceReplicate, Nat.add_one_le_iff, -getElem?_pos, -getElem?_neg, List.getElem?_cons_zero, List.getElem?_cons_succ, hexS, h0, hx, w2, flat_zeros, hnat, hc])
      | (with_reducible refine DEv_cut _ _ _ _ _ _ _ _ _ _ _ _ (by kernel_rfl) ?_; simp [-List.reduceReplicate, Nat.add_one_le_iff, -getElem?_pos, -getElem?_neg, List.getElem?_cons_zero, List.getElem?_cons_succ, hexS, h0, hx, w2, flat_zeros, hnat])
      | (refine hother _ _ rfl ?_; simp only [inBlockA, thenA, noGotoA, Nat.reduceEqDiff, if_false, if_true, ↓reduceIte])
      | (refine hother2 _ _ rfl ?_; simp only [inBlockA, thenA, noGotoA, Nat.reduceEqDiff, if_false, if_true, ↓reduceIte])
      | (refine hother3 _ _ rfl ?_; simp only [inBlockA, thenA, noGotoA, Nat.reduceEqDiff, if_false, if_true, ↓reduceIte])
      | (refine And.intro (by omega) ?_)
      | (with_reducible change postOf _ _ _ _ _; simp [-List.reduceReplicate, Nat.add_one_le_iff, -getElem?_pos, -getElem?_neg, List.getElem?_cons_zero, List.getElem?_cons_succ, hexS, h0, hx, w2, flat_zeros, hnat])
      | fail)
    refine awp_for [0, 3, 4] (fun i (_ : Unit) => ⟨[(0, .c (.v (.string s))), (3, .ms ob.length 0 0 (2 * s.size)), (4, .c (iC i))], ob ++ [⟨5, 1, false, 0, up ((hexB s.data.toList i).map u8C), none⟩]⟩) (fun _ _ => True) s.size () trivial (by simp [iC, hexB, hexTo, u8C, hsz]; simp [up]) ?_
    rintro i - Q1 hi - next hother
    have hwi := wrap_in ((i : Int) + 1) (by omega)
    have hw2 := wrap_in (2 * (i : Int)) (by omega)
    have hw3 := wrap_in (2 * (i : Int) + 1) (by omega)
    have hlen : (hexB s.data.toList i).length = 2 * s.size := by rw [hexB_len s.data.toList i (by omega), hsz]
    by_cases hlt : i < s.size
    · obtain ⟨c, hc⟩ := getI s.data.toList (i : Nat) (by omega) (by omega)
      simp only [Int.toNat_natCast] at hc
      have hby : byteAt s i = (c.toNat : Int) := by unfold byteAt; rw [toList_data, List.getD_eq_getElem?_getD, hc]; rfl
      have hsucc := hexTo_succ s.data.toList i c hc
      have hset := hexB_set s.data.toList i (by omega) (fig (c.toNat / 16)) (fig (c.toNat % 16))
      have g1 : c.toNat / 16 < 16 := by have := c.toNat_lt; omega
      have g2 : c.toNat % 16 < 16 := by omega
      have d1 : ((c.toNat : Int)).tdiv 16 = ((c.toNat / 16 : Nat) : Int) := by rfl
      have d2 : ((c.toNat : Int)).tmod 16 = ((c.toNat % 16 : Nat) : Int) := by rfl
      have v1 := wrap_in (c.toNat : Int) (by have := c.toNat_lt; omega)
      have v2 := wrap_in ((c.toNat / 16 : Nat) : Int) (by omega)
      generalize c.toNat / 16 = q1 at *
      generalize c.toNat % 16 = q2 at *
      have t1 : (2 * (i : Int)).toNat = 2 * i := by omega
      have t2 : (2 * (i : Int) + 1).toNat = 2 * i + 1 := by omega
      have c1 : 2 * i < 2 * s.size := by omega
      have c2 : 2 * i + 1 < 2 * s.size := by omega
      have c3 : 2 * i + 1 ≤ 2 * s.size := by omega
      have c4 : 2 * i + 1 + 1 ≤ 2 * s.size := by omega
      repeat' (first 
        | with_reducible refine awp_scope ?_
        | with_reducible refine awp_seq ?_
        | with_reducible refine awp_block ?_
        | (with_reducible refine awp_label ?_; try simp only [thenA, inBlockA, noGotoA])
        | (with_reducible refine awp_skip ?_; try simp only [thenA, inBlockA, noGotoA])
        | (with_reducible refine awp_exit ?_; simp only [thenA, inBlockA, noGotoA, if_true, Nat.reduceEqDiff, if_false, ↓reduceIte])
        | (with_reducible refine awp_ret ?_; (try simp only [thenA, inBlockA, noGotoA]); (try simp [-List.reduceReplicate, Nat.add_one_le_iff, -getElem?_pos, -getElem?_neg, List.getElem?_cons_zero, List.getElem?_cons_succ, iC, u8C, hlt, c1, c2, c3, c4, hby, d1, d2, v1, v2, hwi, hw2, hw3, t1, t2, hlen, hsz]))
        | (with_reducible refine awp_reg 40 hX [0, 2, 3, 4, 6, 14] ?_; simp [-List.reduceReplicate, Nat.add_one_le_iff, -getElem?_pos, -getElem?_neg, List.getElem?_cons_zero, List.getElem?_cons_succ, iC, u8C, hlt, c1, c2, c3, c4, hby, d1, d2, v1, v2, hwi, hw2, hw3, t1, t2, hlen, hsz])
        | (with_reducible refine awp_drw 40 hX [0, 2, 3, 4, 6, 14] Tab.mixed (by kernel_rfl) ?_; simp [-List.reduceReplicate, Nat.add_one_le_iff, -getElem?_pos, -getElem?_neg, List.getElem?_cons_zero, List.getElem?_cons_succ, iC, u8C, hlt, c1, c2, c3, c4, hby, d1, d2, v1, v2, hwi, hw2, hw3, t1, t2, hlen, hsz])
        | (refine (figure10_den _ g1 _).det ?_; try simp [-List.reduceReplicate, Nat.add_one_le_iff, -getElem?_pos, -getElem?_neg, List.getElem?_cons_zero, List.getElem?_cons_succ, iC, u8C, hlt, c1, c2, c3, c4, hby, d1, d2, v1, v2, hwi, hw2, hw3, t1, t2, hlen, hsz])
        | (refine ⟨_, _, figure10_den _ g1 _, fun _ => rfl, ?_⟩; try simp [-List.reduceReplicate, Nat.add_one_le_iff, -getElem?_pos, -getElem?_neg, List.getElem?_cons_zero, List.getElem?_cons_succ, iC, u8C, hlt, c1, c2, c3, c4, hby, d1, d2, v1, v2, hwi, hw2, hw3, t1, t2, hlen, hsz])
        | (refine (figure10_den _ g2 _).det ?_; try simp [-List.reduceReplicate, Nat.add_one_le_iff, -getElem?_pos, -getElem?_neg, List.getElem?_cons_zero, List.getElem?_cons_succ, iC, u8C, hlt, c1, c2, c3, c4, hby, d1, d2, v1, v2, hwi, hw2, hw3, t1, t2, hlen, hsz])
        | (refine ⟨_, _, figure10_den _ g2 _, fun _ => rfl, ?_⟩; try simp [-List.reduceReplicate, Nat.add_one_le_iff, -getElem?_pos, -getElem?_neg, List.getElem?_cons_zero, List.getElem?_cons_succ, iC, u8C, hlt, c1, c2, c3, c4, hby, d1, d2, v1, v2, hwi, hw2, hw3, t1, t2, hlen, hsz])
        | (with_reducible refine awp_if_b rfl (fun hc => ?_) (fun hc => ?_) <;> (try simp [-getElem?_pos, -getElem?_neg] at hc) <;> (try (exfalso; omega)))
        | (with_reducible refine GuardK_b (fun hc => ?_) (fun hc => ?_) <;> (try simp only [Bool.not_eq_true', Bool.not_eq_false', decide_eq_true_eq, decide_eq_false_iff_not] at hc) <;> (first | (exfalso; omega) | skip) <;> simp [-List.reduceReplicate, Nat.add_one_le_iff, -getElem?_pos, -getElem?_neg, List.getElem?_cons_zero, List.getElem?_cons_succ, iC, u8C, hlt, c1, c2, c3, c4, hby, d1, d2, v1, v2, hwi, hw2, hw3, t1, t2, hlen, hsz, hc])
        | (with_reducible refine DGuard_b _ _ _ _ _ _ _ _ _ _ (fun hc => ?_) (fun hc => ?_) <;> (try simp only [Bool.not_eq_true', Bool.not_eq_false', decide_eq_true_eq, decide_eq_false_iff_not] at hc) <;> (first | (exfalso; omega) | skip) <;> simp [-List.reduceReplicate, Nat.add_one_le_iff, -getElem?_pos, -getElem?_neg, List.getElem?_cons_zero, List.getElem?_cons_succ, iC, u8C, hlt, c1, c2, c3, c4, hby, d1, d2, v1, v2, hwi, hw2, hw3, t1, t2, hlen, hsz, hc])
        | (with_reducible refine DEv_cut _ _ _ _ _ _ _ _ _ _ _ _ (by kernel_rfl) ?_; simp [-List.reduceReplicate, Nat.add_one_le_iff, -getElem?_pos, -getElem?_neg, List.getElem?_cons_zero, List.getElem?_cons_succ, iC, u8C, hlt, c1, c2, c3, c4, hby, d1, d2, v1, v2, hwi, hw2, hw3, t1, t2, hlen, hsz])
        | (refine hother _ _ rfl ?_; simp only [inBlockA, thenA, noGotoA, Nat.reduceEqDiff, if_false, if_true, ↓reduceIte])
        | (refine hother2 _ _ rfl ?_; simp only [inBlockA, thenA, noGotoA, Nat.reduceEqDiff, if_false, if_true, ↓reduceIte])
        | (refine hother3 _ _ rfl ?_; simp only [inBlockA, thenA, noGotoA, Nat.reduceEqDiff, if_false, if_true, ↓reduceIte])
        | (refine And.intro (by omega) ?_)
        | (with_reducible change postOf _ _ _ _ _; simp [-List.reduceReplicate, Nat.add_one_le_iff, -getElem?_pos, -getElem?_neg, List.getElem?_cons_zero, List.getElem?_cons_succ, iC, u8C, hlt, c1, c2, c3, c4, hby, d1, d2, v1, v2, hwi, hw2, hw3, t1, t2, hlen, hsz])
        | fail)
      have hB : hexB s.data.toList (i + 1) = ((hexB s.data.toList i).set (2 * i) (fig q1)).set (2 * i + 1) (fig q2) := by rw [hset, ← hsucc]; rfl
      refine next _ () hlt trivial ?_
      rw [hB]
      simp [iC, u8C, List.map_set]
    · have his : i = s.size := by omega
      subst his
      have hfin : hexB s.data.toList s.size = hexTo s.data.toList s.size := by unfold hexB; rw [hsz]; simp
      have hfl : (hexTo s.data.toList s.size).length = 2 * s.size := by rw [← hfin]; exact hlen
      have htk : (List.map u8C (hexTo s.data.toList s.size)).take (2 * s.size) = List.map u8C (hexTo s.data.toList s.size) := by rw [List.take_of_length_le (by simp [hfl])]
      have hbm := bytesM_u8 (hexTo s.data.toList s.size)
      repeat' (first 
        | with_reducible refine awp_scope ?_
        | with_reducible refine awp_seq ?_
        | with_reducible refine awp_block ?_
        | (with_reducible refine awp_label ?_; try simp only [thenA, inBlockA, noGotoA])
        | (with_reducible refine awp_skip ?_; try simp only [thenA, inBlockA, noGotoA])
        | (with_reducible refine awp_exit ?_; simp only [thenA, inBlockA, noGotoA, if_true, Nat.reduceEqDiff, if_false, ↓reduceIte])
        | (with_reducible refine awp_ret ?_; (try simp only [thenA, inBlockA, noGotoA]); (try simp [-List.reduceReplicate, Nat.add_one_le_iff, -getElem?_pos, -getElem?_neg, List.getElem?_cons_zero, List.getElem?_cons_succ, iC, hlt, hfin, hfl, htk, hbm, strI]))
        | (with_reducible refine awp_reg 40 hX [0, 2, 3, 4, 6, 14] ?_; simp [-List.reduceReplicate, Nat.add_one_le_iff, -getElem?_pos, -getElem?_neg, List.getElem?_cons_zero, List.getElem?_cons_succ, iC, hlt, hfin, hfl, htk, hbm, strI])
        | (with_reducible refine awp_drw 40 hX [0, 2, 3, 4, 6, 14] Tab.mixed (by kernel_rfl) ?_; simp [-List.reduceReplicate, Nat.add_one_le_iff, -getElem?_pos, -getElem?_neg, List.getElem?_cons_zero, List.getElem?_cons_succ, iC, hlt, hfin, hfl, htk, hbm, strI])
        | (with_reducible refine awp_if_b rfl (fun hc => ?_) (fun hc => ?_) <;> (try simp [-getElem?_pos, -getElem?_neg] at hc) <;> (try (exfalso; omega)))
        | (with_reducible refine GuardK_b (fun hc => ?_) (fun hc => ?_) <;> (try simp only [Bool.not_eq_true', Bool.not_eq_false', decide_eq_true_eq, decide_eq_false_iff_not] at hc) <;> (first | (exfalso; omega) | skip) <;> simp [-List.reduceReplicate, Nat.add_one_le_iff, -getElem?_pos, -getElem?_neg, List.getElem?_cons_zero, List.getElem?_cons_succ, iC, hlt, hfin, hfl, htk, hbm, strI, hc])
        | (with_reducible refine DGuard_b _ _ _ _ _ _ _ _ _ _ (fun hc => ?_) (fun hc => ?_) <;> (try simp only [Bool.not_eq_true', Bool.not_eq_false', decide_eq_true_eq, decide_eq_false_iff_not] at hc) <;> (first | (exfalso; omega) | skip) <;> simp [-List.reduceReplicate, Nat.add_one_le_iff, -getElem?_pos, -getElem?_neg, List.getElem?_cons_zero, List.getElem?_cons_succ, iC, hlt, hfin, hfl, htk, hbm, strI, hc])
        | (with_reducible refine DEv_cut _ _ _ _ _ _ _ _ _ _ _ _ (by kernel_rfl) ?_; simp [-List.reduceReplicate, Nat.add_one_le_iff, -getElem?_pos, -getElem?_neg, List.getElem?_cons_zero, List.getElem?_cons_succ, iC, hlt, hfin, hfl, htk, hbm, strI])
        | (refine hother _ _ rfl ?_; simp only [inBlockA, thenA, noGotoA, Nat.reduceEqDiff, if_false, if_true, ↓reduceIte])
        | (refine hother2 _ _ rfl ?_; simp only [inBlockA, thenA, noGotoA, Nat.reduceEqDiff, if_false, if_true, ↓reduceIte])
        | (refine hother3 _ _ rfl ?_; simp only [inBlockA, thenA, noGotoA, Nat.reduceEqDiff, if_false, if_true, ↓reduceIte])
        | (refine And.intro (by omega) ?_)
        | (with_reducible change postOf _ _ _ _ _; simp [-List.reduceReplicate, Nat.add_one_le_iff, -getElem?_pos, -getElem?_neg, List.getElem?_cons_zero, List.getElem?_cons_succ, iC, hlt, hfin, hfl, htk, hbm, strI])
        | fail)
end Go.Av
