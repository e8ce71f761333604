import Derived.Test.YtahcfdbjookojaaAvT36
import Derived.Test.YtahcfdbjookojaaAvTS
set_option linter.unusedVariables false
set_option linter.unusedSimpArgs false
set_option maxRecDepth 100000
set_option maxHeartbeats 4000000
namespace Go.Av
open Go Go.Proofs Go.Proofs.Ytahcfdbjookojaa Go.RowKit
/-! ### ident: the laws -/
set_option maxHeartbeats 4000000 in
theorem identFirstLaw_den (l : List H32) (id : List UInt8) (hid : id.length = 32) (ob : List Ob) :
    Den Try.prog 12 [.c (.sl (hsC l) l.length false), hashM id] ob (fun r ob' => r = .c (bC true) ∧ ob' = ob) := by
  refine Den.frame (by simp [ltBs, ltB, lt_hash]) rfl ?_ ob
  have hlen := hsC_len l
  have hat := hsC_at l
  have hst := fstI_step l id
  have t1 := hash_take id hid
  by_cases hN : l.length ≤ 200
  · have p1 := identFirst_den l id hid l.length false rfl (by omega)
    have hfull : fstI (l.drop (l.length - l.length)) id (l.length - l.length) = fstI l id 0 := by simp
    have hzero : fstI (l.drop (l.length - 0)) id (l.length - 0) = -1 := by rw [Nat.sub_zero, List.drop_length]; rfl
    have hsuc : ∀ (j : Nat) (h : H32), j < l.length → l[j]? = some h → fstI (l.drop (l.length - (l.length - j))) id (l.length - (l.length - j)) = if h.1 = id then (j : Int) else fstI (l.drop (l.length - (l.length - j - 1))) id (l.length - (l.length - j - 1)) := by
      intro j h hj hh
      rw [show l.length - (l.length - j) = j by omega, show l.length - (l.length - j - 1) = j + 1 by omega]
      exact hst j h hh
    obtain ⟨W, hW⟩ : ∃ W : Nat → Int, W = fun i => fstI (l.drop (l.length - i)) id (l.length - i) := ⟨_, rfl⟩
    have hfull' : W l.length = fstI l id 0 := by rw [hW]; exact hfull
    have hzero' : W 0 = -1 := by rw [hW]; exact hzero
    have hsuc' : ∀ (j : Nat) (h : H32), j < l.length → l[j]? = some h → W (l.length - j) = if h.1 = id then (j : Int) else W (l.length - j - 1) := by
      intro j h hj hh
      rw [hW]
      exact hsuc j h hj hh
    clear hfull hzero hsuc hst hW
    generalize hsC l = cs at *
    generalize fstI l id 0 = res at *
    refine den_of Try.func12 rfl rfl (by simp [Try.ntmps12]) (fun X hX hO => ?_)
    rw [Try.ntmps12] at hX
    simp only [Try.results12]
    have c1 : ¬ (200 : Int) < l.length := by omega
    have hw0 := wrap_in ((l.length : Int) - 1) (by omega)
    repeat' (first 
      | with_reducible refine awp_scope ?_
      | with_reducible refine awp_seq ?_
      | with_reducible refine awp_block ?_
      | (with_reducible refine awp_label ?_; try simp only [thenA, inBlockA, noGotoA])
      | (with_reducible refine awp_skip ?_; try simp only [thenA, inBlockA, noGotoA])
      | (with_reducible refine awp_exit ?_; simp only [thenA, inBlockA, noGotoA, if_true, Nat.reduceEqDiff, if_false, ↓reduceIte])
      | (with_reducible refine awp_ret ?_; (try simp only [thenA, inBlockA, noGotoA]); (try simp [-List.reduceReplicate, Nat.add_one_le_iff, -getElem?_pos, -getElem?_neg, List.getElem?_cons_zero, List.getElem?_cons_succ, c1, hw0, hashM, hid, t1]))
      | (with_reducible refine awp_reg 33 hX [0, 3, 4, 5, 6, 9, 15, 23] ?_; simp [-List.reduceReplicate, Nat.add_one_le_iff, -getElem?_pos, -getElem?_neg, List.getElem?_cons_zero, List.getElem?_cons_succ, c1, hw0, hashM, hid, t1])
      | (with_reducible refine awp_drw 33 hX [0, 3, 4, 5, 6, 9, 15, 23] Tab.mixed (by kernel_rfl) ?_; simp [-List.reduceReplicate, Nat.add_one_le_iff, -getElem?_pos, -getElem?_neg, List.getElem?_cons_zero, List.getElem?_cons_succ, c1, hw0, hashM, hid, t1])
      | (with_reducible refine awp_if_b rfl (fun hc => ?_) (fun hc => ?_) <;> (try simp [-getElem?_pos, -getElem?_neg] at hc) <;> (try (exfalso; omega)))
      | (with_reducible refine GuardK_b (fun hc => ?_) (fun hc => ?_) <;> (try simp only [Bool.not_eq_true', Bool.not_eq_false', decide_eq_true_eq, decide_eq_false_iff_not] at hc) <;> (first | (exfalso; omega) | skip) <;> simp [-List.reduceReplicate, Nat.add_one_le_iff, -getElem?_pos, -getElem?_neg, List.getElem?_cons_zero, List.getElem?_cons_succ, c1, hw0, hashM, hid, t1, hc])
      | (with_reducible refine DGuard_b _ _ _ _ _ _ _ _ _ _ (fun hc => ?_) (fun hc => ?_) <;> (try simp only [Bool.not_eq_true', Bool.not_eq_false', decide_eq_true_eq, decide_eq_false_iff_not] at hc) <;> (first | (exfalso; omega) | skip) <;> simp [-List.reduceReplicate, Nat.add_one_le_iff, -getElem?_pos, -getElem?_neg, List.getElem?_cons_zero, List.getElem?_cons_succ, c1, hw0, hashM, hid, t1, hc])
      | (with_reducible refine DEv_cut _ _ _ _ _ _ _ _ _ _ _ _ (by kernel_rfl) ?_; simp [-List.reduceReplicate, Nat.add_one_le_iff, -getElem?_pos, -getElem?_neg, List.getElem?_cons_zero, List.getElem?_cons_succ, c1, hw0, hashM, hid, t1])
      | ((with_reducible refine hother _ _ rfl ?_); simp only [inBlockA, thenA, noGotoA, Nat.reduceEqDiff, if_false, if_true, ↓reduceIte])
      | ((with_reducible refine hother2 _ _ rfl ?_); simp only [inBlockA, thenA, noGotoA, Nat.reduceEqDiff, if_false, if_true, ↓reduceIte])
      | ((with_reducible refine hother3 _ _ rfl ?_); simp only [inBlockA, thenA, noGotoA, Nat.reduceEqDiff, if_false, if_true, ↓reduceIte])
      | (with_reducible refine And.intro (by omega) ?_)
      | (with_reducible change postOf _ _ _ _ _; simp [-List.reduceReplicate, Nat.add_one_le_iff, -getElem?_pos, -getElem?_neg, List.getElem?_cons_zero, List.getElem?_cons_succ, c1, hw0, hashM, hid, t1])
      | fail)
    refine awp_forU [0, 3, 5, 6] (fun i (_u : Unit) => [(5, .c (iC (W i))), (6, .c (iC ((l.length : Int) - 1 - i)))]) (fun i (_u : Unit) => [⟨24, 1, false, 0, up (id.map bC8), none⟩]) (fun i (_u : Unit) => True) (l.length) (()) (by first | trivial | (simp; done) | omega | (intros; simp at *; done)) (by simp [-List.reduceReplicate, keep, iC, bC8, hzero']) (by simp [-List.reduceReplicate, iC, bC8, hzero']) ?_
    rintro i _u Q1 hi hH next hother
    conv => arg 5; arg 1; simp only [List.cons_append, List.nil_append, keep, get, Nat.reduceEqDiff, if_true, if_false, ↓reduceIte]
    by_cases hlt : i < l.length
    · obtain ⟨j, hj⟩ : ∃ j : Nat, j = l.length - 1 - i := ⟨_, rfl⟩
      have hj1 : (l.length : Int) - 1 - (i : Int) = (j : Int) := by omega
      have hj2 : (l.length : Int) - 1 - ((i : Int) + 1) = (j : Int) - 1 := by omega
      have hwj := wrap_in ((j : Int) - 1) (by omega)
      have hjl : j < l.length := by omega
      obtain ⟨h, hh⟩ : ∃ h, l[j]? = some h := ⟨_, List.getElem?_eq_getElem hjl⟩
      have ha := hat j h hh
      have hs := hsuc' j h hjl hh
      rw [show l.length - j = i + 1 by omega, show i + 1 - 1 = i by omega] at hs
      have hl2 := h.2
      have he := eq_hash h.1 id hl2 hid
      have he1 := eq_hash1 id hid
      have t2 := hash_take h.1 hl2
      have hb : 32 ≤ cs.length - j * 32 := by omega
      have hb2 : j * 32 + 32 ≤ cs.length := by omega
      have hge : (0 : Int) ≤ (j : Int) := by omega
      rw [hj1]
      by_cases heq : h.1 = id
      · rw [if_pos heq] at hs
        repeat' (first 
          | with_reducible refine awp_scope ?_
          | with_reducible refine awp_seq ?_
          | with_reducible refine awp_block ?_
          | (with_reducible refine awp_label ?_; try simp only [thenA, inBlockA, noGotoA])
          | (with_reducible refine awp_skip ?_; try simp only [thenA, inBlockA, noGotoA])
          | (with_reducible refine awp_exit ?_; simp only [thenA, inBlockA, noGotoA, if_true, Nat.reduceEqDiff, if_false, ↓reduceIte])
          | (with_reducible refine awp_ret ?_; (try simp only [thenA, inBlockA, noGotoA]); (try simp [-List.reduceReplicate, Nat.add_one_le_iff, -getElem?_pos, -getElem?_neg, List.getElem?_cons_zero, List.getElem?_cons_succ, iC, hge, hjl, hwj, ha, hl2, he, he1, heq, t2, hb, hb2, hid, t1]))
          | (with_reducible refine awp_reg 33 hX [0, 3, 4, 5, 6, 9, 15, 23] ?_; simp [-List.reduceReplicate, Nat.add_one_le_iff, -getElem?_pos, -getElem?_neg, List.getElem?_cons_zero, List.getElem?_cons_succ, iC, hge, hjl, hwj, ha, hl2, he, he1, heq, t2, hb, hb2, hid, t1])
          | (with_reducible refine awp_drw 33 hX [0, 3, 4, 5, 6, 9, 15, 23] Tab.mixed (by kernel_rfl) ?_; simp [-List.reduceReplicate, Nat.add_one_le_iff, -getElem?_pos, -getElem?_neg, List.getElem?_cons_zero, List.getElem?_cons_succ, iC, hge, hjl, hwj, ha, hl2, he, he1, heq, t2, hb, hb2, hid, t1])
          | (with_reducible refine awp_if_b rfl (fun hc => ?_) (fun hc => ?_) <;> (try simp [-getElem?_pos, -getElem?_neg] at hc) <;> (try (exfalso; omega)))
          | (with_reducible refine GuardK_b (fun hc => ?_) (fun hc => ?_) <;> (try simp only [Bool.not_eq_true', Bool.not_eq_false', decide_eq_true_eq, decide_eq_false_iff_not] at hc) <;> (first | (exfalso; omega) | skip) <;> simp [-List.reduceReplicate, Nat.add_one_le_iff, -getElem?_pos, -getElem?_neg, List.getElem?_cons_zero, List.getElem?_cons_succ, iC, hge, hjl, hwj, ha, hl2, he, he1, heq, t2, hb, hb2, hid, t1, hc])
          | (with_reducible refine DGuard_b _ _ _ _ _ _ _ _ _ _ (fun hc => ?_) (fun hc => ?_) <;> (try simp only [Bool.not_eq_true', Bool.not_eq_false', decide_eq_true_eq, decide_eq_false_iff_not] at hc) <;> (first | (exfalso; omega) | skip) <;> simp [-List.reduceReplicate, Nat.add_one_le_iff, -getElem?_pos, -getElem?_neg, List.getElem?_cons_zero, List.getElem?_cons_succ, iC, hge, hjl, hwj, ha, hl2, he, he1, heq, t2, hb, hb2, hid, t1, hc])
          | (with_reducible refine DEv_cut _ _ _ _ _ _ _ _ _ _ _ _ (by kernel_rfl) ?_; simp [-List.reduceReplicate, Nat.add_one_le_iff, -getElem?_pos, -getElem?_neg, List.getElem?_cons_zero, List.getElem?_cons_succ, iC, hge, hjl, hwj, ha, hl2, he, he1, heq, t2, hb, hb2, hid, t1])
          | ((with_reducible refine hother _ _ rfl ?_); simp only [inBlockA, thenA, noGotoA, Nat.reduceEqDiff, if_false, if_true, ↓reduceIte])
          | ((with_reducible refine hother2 _ _ rfl ?_); simp only [inBlockA, thenA, noGotoA, Nat.reduceEqDiff, if_false, if_true, ↓reduceIte])
          | ((with_reducible refine hother3 _ _ rfl ?_); simp only [inBlockA, thenA, noGotoA, Nat.reduceEqDiff, if_false, if_true, ↓reduceIte])
          | (with_reducible refine And.intro (by omega) ?_)
          | (with_reducible change postOf _ _ _ _ _; simp [-List.reduceReplicate, Nat.add_one_le_iff, -getElem?_pos, -getElem?_neg, List.getElem?_cons_zero, List.getElem?_cons_succ, iC, hge, hjl, hwj, ha, hl2, he, he1, heq, t2, hb, hb2, hid, t1])
          | fail)
        refine next _ _ (()) (by omega) (by first | trivial | omega | assumption) (by simp [-List.reduceReplicate, keep, iC, hs, hj2]) (by simp [-List.reduceReplicate, iC, hs, hj2])
      · rw [if_neg heq] at hs
        repeat' (first 
          | with_reducible refine awp_scope ?_
          | with_reducible refine awp_seq ?_
          | with_reducible refine awp_block ?_
          | (with_reducible refine awp_label ?_; try simp only [thenA, inBlockA, noGotoA])
          | (with_reducible refine awp_skip ?_; try simp only [thenA, inBlockA, noGotoA])
          | (with_reducible refine awp_exit ?_; simp only [thenA, inBlockA, noGotoA, if_true, Nat.reduceEqDiff, if_false, ↓reduceIte])
          | (with_reducible refine awp_ret ?_; (try simp only [thenA, inBlockA, noGotoA]); (try simp [-List.reduceReplicate, Nat.add_one_le_iff, -getElem?_pos, -getElem?_neg, List.getElem?_cons_zero, List.getElem?_cons_succ, iC, hge, hjl, hwj, ha, hl2, he, heq, t2, hb, hb2, hid, t1]))
          | (with_reducible refine awp_reg 33 hX [0, 3, 4, 5, 6, 9, 15, 23] ?_; simp [-List.reduceReplicate, Nat.add_one_le_iff, -getElem?_pos, -getElem?_neg, List.getElem?_cons_zero, List.getElem?_cons_succ, iC, hge, hjl, hwj, ha, hl2, he, heq, t2, hb, hb2, hid, t1])
          | (with_reducible refine awp_drw 33 hX [0, 3, 4, 5, 6, 9, 15, 23] Tab.mixed (by kernel_rfl) ?_; simp [-List.reduceReplicate, Nat.add_one_le_iff, -getElem?_pos, -getElem?_neg, List.getElem?_cons_zero, List.getElem?_cons_succ, iC, hge, hjl, hwj, ha, hl2, he, heq, t2, hb, hb2, hid, t1])
          | (with_reducible refine awp_if_b rfl (fun hc => ?_) (fun hc => ?_) <;> (try simp [-getElem?_pos, -getElem?_neg] at hc) <;> (try (exfalso; omega)))
          | (with_reducible refine GuardK_b (fun hc => ?_) (fun hc => ?_) <;> (try simp only [Bool.not_eq_true', Bool.not_eq_false', decide_eq_true_eq, decide_eq_false_iff_not] at hc) <;> (first | (exfalso; omega) | skip) <;> simp [-List.reduceReplicate, Nat.add_one_le_iff, -getElem?_pos, -getElem?_neg, List.getElem?_cons_zero, List.getElem?_cons_succ, iC, hge, hjl, hwj, ha, hl2, he, heq, t2, hb, hb2, hid, t1, hc])
          | (with_reducible refine DGuard_b _ _ _ _ _ _ _ _ _ _ (fun hc => ?_) (fun hc => ?_) <;> (try simp only [Bool.not_eq_true', Bool.not_eq_false', decide_eq_true_eq, decide_eq_false_iff_not] at hc) <;> (first | (exfalso; omega) | skip) <;> simp [-List.reduceReplicate, Nat.add_one_le_iff, -getElem?_pos, -getElem?_neg, List.getElem?_cons_zero, List.getElem?_cons_succ, iC, hge, hjl, hwj, ha, hl2, he, heq, t2, hb, hb2, hid, t1, hc])
          | (with_reducible refine DEv_cut _ _ _ _ _ _ _ _ _ _ _ _ (by kernel_rfl) ?_; simp [-List.reduceReplicate, Nat.add_one_le_iff, -getElem?_pos, -getElem?_neg, List.getElem?_cons_zero, List.getElem?_cons_succ, iC, hge, hjl, hwj, ha, hl2, he, heq, t2, hb, hb2, hid, t1])
          | ((with_reducible refine hother _ _ rfl ?_); simp only [inBlockA, thenA, noGotoA, Nat.reduceEqDiff, if_false, if_true, ↓reduceIte])
          | ((with_reducible refine hother2 _ _ rfl ?_); simp only [inBlockA, thenA, noGotoA, Nat.reduceEqDiff, if_false, if_true, ↓reduceIte])
          | ((with_reducible refine hother3 _ _ rfl ?_); simp only [inBlockA, thenA, noGotoA, Nat.reduceEqDiff, if_false, if_true, ↓reduceIte])
          | (with_reducible refine And.intro (by omega) ?_)
          | (with_reducible change postOf _ _ _ _ _; simp [-List.reduceReplicate, Nat.add_one_le_iff, -getElem?_pos, -getElem?_neg, List.getElem?_cons_zero, List.getElem?_cons_succ, iC, hge, hjl, hwj, ha, hl2, he, heq, t2, hb, hb2, hid, t1])
          | fail)
        refine next _ _ (()) (by omega) (by first | trivial | omega | assumption) (by simp [-List.reduceReplicate, keep, iC, hs, hj2]) (by simp [-List.reduceReplicate, iC, hs, hj2])
    · have hi2 : i = l.length := by omega
      subst hi2
      have hneg : (l.length : Int) - 1 - (l.length : Int) = -1 := by omega
      rw [hneg]
      repeat' (first 
        | with_reducible refine awp_scope ?_
        | with_reducible refine awp_seq ?_
        | with_reducible refine awp_block ?_
        | (with_reducible refine awp_label ?_; try simp only [thenA, inBlockA, noGotoA])
        | (with_reducible refine awp_skip ?_; try simp only [thenA, inBlockA, noGotoA])
        | (with_reducible refine awp_exit ?_; simp only [thenA, inBlockA, noGotoA, if_true, Nat.reduceEqDiff, if_false, ↓reduceIte])
        | (with_reducible refine awp_ret ?_; (try simp only [thenA, inBlockA, noGotoA]); (try simp [-List.reduceReplicate, Nat.add_one_le_iff, -getElem?_pos, -getElem?_neg, List.getElem?_cons_zero, List.getElem?_cons_succ, iC, bC, hashM, hid, t1, hfull']))
        | (with_reducible refine awp_reg 33 hX [0, 3, 4, 5, 6, 9, 15, 23] ?_; simp [-List.reduceReplicate, Nat.add_one_le_iff, -getElem?_pos, -getElem?_neg, List.getElem?_cons_zero, List.getElem?_cons_succ, iC, bC, hashM, hid, t1, hfull'])
        | (with_reducible refine awp_drw 33 hX [0, 3, 4, 5, 6, 9, 15, 23] Tab.mixed (by kernel_rfl) ?_; simp [-List.reduceReplicate, Nat.add_one_le_iff, -getElem?_pos, -getElem?_neg, List.getElem?_cons_zero, List.getElem?_cons_succ, iC, bC, hashM, hid, t1, hfull'])
        | (refine (p1 _).det ?_; try simp [-List.reduceReplicate, Nat.add_one_le_iff, -getElem?_pos, -getElem?_neg, List.getElem?_cons_zero, List.getElem?_cons_succ, iC, bC, hashM, hid, t1, hfull'])
        | (refine ⟨_, _, p1 _, fun _ => rfl, ?_⟩; try simp [-List.reduceReplicate, Nat.add_one_le_iff, -getElem?_pos, -getElem?_neg, List.getElem?_cons_zero, List.getElem?_cons_succ, iC, bC, hashM, hid, t1, hfull'])
        | ((with_reducible refine Den.at_ (f := 42) ?_); refine (awake18_den _).det ?_; try simp [-List.reduceReplicate, Nat.add_one_le_iff, -getElem?_pos, -getElem?_neg, List.getElem?_cons_zero, List.getElem?_cons_succ, iC, bC, hashM, hid, t1, hfull'])
        | ((with_reducible refine drawn_at (f := 42) ?_); refine ⟨_, _, awake18_den _, fun _ => rfl, ?_⟩; try simp [-List.reduceReplicate, Nat.add_one_le_iff, -getElem?_pos, -getElem?_neg, List.getElem?_cons_zero, List.getElem?_cons_succ, iC, bC, hashM, hid, t1, hfull'])
        | (with_reducible refine awp_if_b rfl (fun hc => ?_) (fun hc => ?_) <;> (try simp [-getElem?_pos, -getElem?_neg] at hc) <;> (try (exfalso; omega)))
        | (with_reducible refine GuardK_b (fun hc => ?_) (fun hc => ?_) <;> (try simp only [Bool.not_eq_true', Bool.not_eq_false', decide_eq_true_eq, decide_eq_false_iff_not] at hc) <;> (first | (exfalso; omega) | skip) <;> simp [-List.reduceReplicate, Nat.add_one_le_iff, -getElem?_pos, -getElem?_neg, List.getElem?_cons_zero, List.getElem?_cons_succ, iC, bC, hashM, hid, t1, hfull', hc])
        | (with_reducible refine DGuard_b _ _ _ _ _ _ _ _ _ _ (fun hc => ?_) (fun hc => ?_) <;> (try simp only [Bool.not_eq_true', Bool.not_eq_false', decide_eq_true_eq, decide_eq_false_iff_not] at hc) <;> (first | (exfalso; omega) | skip) <;> simp [-List.reduceReplicate, Nat.add_one_le_iff, -getElem?_pos, -getElem?_neg, List.getElem?_cons_zero, List.getElem?_cons_succ, iC, bC, hashM, hid, t1, hfull', hc])
        | (with_reducible refine DEv_cut _ _ _ _ _ _ _ _ _ _ _ _ (by kernel_rfl) ?_; simp [-List.reduceReplicate, Nat.add_one_le_iff, -getElem?_pos, -getElem?_neg, List.getElem?_cons_zero, List.getElem?_cons_succ, iC, bC, hashM, hid, t1, hfull'])
        | ((with_reducible refine hother _ _ rfl ?_); simp only [inBlockA, thenA, noGotoA, Nat.reduceEqDiff, if_false, if_true, ↓reduceIte])
        | ((with_reducible refine hother2 _ _ rfl ?_); simp only [inBlockA, thenA, noGotoA, Nat.reduceEqDiff, if_false, if_true, ↓reduceIte])
        | ((with_reducible refine hother3 _ _ rfl ?_); simp only [inBlockA, thenA, noGotoA, Nat.reduceEqDiff, if_false, if_true, ↓reduceIte])
        | (with_reducible refine And.intro (by omega) ?_)
        | (with_reducible change postOf _ _ _ _ _; simp [-List.reduceReplicate, Nat.add_one_le_iff, -getElem?_pos, -getElem?_neg, List.getElem?_cons_zero, List.getElem?_cons_succ, iC, bC, hashM, hid, t1, hfull'])
        | fail)
  · generalize hsC l = cs at *
    refine den_of Try.func12 rfl rfl (by simp [Try.ntmps12]) (fun X hX hO => ?_)
    rw [Try.ntmps12] at hX
    simp only [Try.results12]
    have c1 : (200 : Int) < l.length := by omega
    repeat' (first 
      | with_reducible refine awp_scope ?_
      | with_reducible refine awp_seq ?_
      | with_reducible refine awp_block ?_
      | (with_reducible refine awp_label ?_; try simp only [thenA, inBlockA, noGotoA])
      | (with_reducible refine awp_skip ?_; try simp only [thenA, inBlockA, noGotoA])
      | (with_reducible refine awp_exit ?_; simp only [thenA, inBlockA, noGotoA, if_true, Nat.reduceEqDiff, if_false, ↓reduceIte])
      | (with_reducible refine awp_ret ?_; (try simp only [thenA, inBlockA, noGotoA]); (try simp [-List.reduceReplicate, Nat.add_one_le_iff, -getElem?_pos, -getElem?_neg, List.getElem?_cons_zero, List.getElem?_cons_succ, c1, bC, hashM, hid, t1]))
      | (with_reducible refine awp_reg 33 hX [0, 3, 4, 5, 6, 9, 15, 23] ?_; simp [-List.reduceReplicate, Nat.add_one_le_iff, -getElem?_pos, -getElem?_neg, List.getElem?_cons_zero, List.getElem?_cons_succ, c1, bC, hashM, hid, t1])
      | (with_reducible refine awp_drw 33 hX [0, 3, 4, 5, 6, 9, 15, 23] Tab.mixed (by kernel_rfl) ?_; simp [-List.reduceReplicate, Nat.add_one_le_iff, -getElem?_pos, -getElem?_neg, List.getElem?_cons_zero, List.getElem?_cons_succ, c1, bC, hashM, hid, t1])
      | ((with_reducible refine Den.at_ (f := 42) ?_); refine (awake18_den _).det ?_; try simp [-List.reduceReplicate, Nat.add_one_le_iff, -getElem?_pos, -getElem?_neg, List.getElem?_cons_zero, List.getElem?_cons_succ, c1, bC, hashM, hid, t1])
      | ((with_reducible refine drawn_at (f := 42) ?_); refine ⟨_, _, awake18_den _, fun _ => rfl, ?_⟩; try simp [-List.reduceReplicate, Nat.add_one_le_iff, -getElem?_pos, -getElem?_neg, List.getElem?_cons_zero, List.getElem?_cons_succ, c1, bC, hashM, hid, t1])
      | (with_reducible refine awp_if_b rfl (fun hc => ?_) (fun hc => ?_) <;> (try simp [-getElem?_pos, -getElem?_neg] at hc) <;> (try (exfalso; omega)))
      | (with_reducible refine GuardK_b (fun hc => ?_) (fun hc => ?_) <;> (try simp only [Bool.not_eq_true', Bool.not_eq_false', decide_eq_true_eq, decide_eq_false_iff_not] at hc) <;> (first | (exfalso; omega) | skip) <;> simp [-List.reduceReplicate, Nat.add_one_le_iff, -getElem?_pos, -getElem?_neg, List.getElem?_cons_zero, List.getElem?_cons_succ, c1, bC, hashM, hid, t1, hc])
      | (with_reducible refine DGuard_b _ _ _ _ _ _ _ _ _ _ (fun hc => ?_) (fun hc => ?_) <;> (try simp only [Bool.not_eq_true', Bool.not_eq_false', decide_eq_true_eq, decide_eq_false_iff_not] at hc) <;> (first | (exfalso; omega) | skip) <;> simp [-List.reduceReplicate, Nat.add_one_le_iff, -getElem?_pos, -getElem?_neg, List.getElem?_cons_zero, List.getElem?_cons_succ, c1, bC, hashM, hid, t1, hc])
      | (with_reducible refine DEv_cut _ _ _ _ _ _ _ _ _ _ _ _ (by kernel_rfl) ?_; simp [-List.reduceReplicate, Nat.add_one_le_iff, -getElem?_pos, -getElem?_neg, List.getElem?_cons_zero, List.getElem?_cons_succ, c1, bC, hashM, hid, t1])
      | ((with_reducible refine hother _ _ rfl ?_); simp only [inBlockA, thenA, noGotoA, Nat.reduceEqDiff, if_false, if_true, ↓reduceIte])
      | ((with_reducible refine hother2 _ _ rfl ?_); simp only [inBlockA, thenA, noGotoA, Nat.reduceEqDiff, if_false, if_true, ↓reduceIte])
      | ((with_reducible refine hother3 _ _ rfl ?_); simp only [inBlockA, thenA, noGotoA, Nat.reduceEqDiff, if_false, if_true, ↓reduceIte])
      | (with_reducible refine And.intro (by omega) ?_)
      | (with_reducible change postOf _ _ _ _ _; simp [-List.reduceReplicate, Nat.add_one_le_iff, -getElem?_pos, -getElem?_neg, List.getElem?_cons_zero, List.getElem?_cons_succ, c1, bC, hashM, hid, t1])
      | fail)
end Go.Av
