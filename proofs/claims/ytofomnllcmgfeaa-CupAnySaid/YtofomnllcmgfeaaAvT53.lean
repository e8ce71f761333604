import Derived.Test.YtofomnllcmgfeaaAvT52
set_option linter.unusedVariables false
set_option linter.unusedSimpArgs false
set_option maxRecDepth 100000
set_option maxHeartbeats 4000000
namespace Go.Av
open Go Go.Proofs Go.Proofs.Ytofomnllcmgfeaa Go.RowKit
/-! ### cup: CupAny -/
open Go.Hp
theorem mod_lt (x : Int) (n : Nat) (h : 0 < n) (hn : n < 1000000) : ∃ b : Nat, b < n ∧ IntKind.i64.wrap ((IntKind.u64.wrap x).tmod (n : Int)) = (b : Int) := by
  have h0 : 0 ≤ IntKind.u64.wrap x := by
    simp [IntKind.wrap, IntKind.signed, IntKind.bits]
    omega
  rw [Int.tmod_eq_emod_of_nonneg h0]
  have h1 := Int.emod_nonneg (IntKind.u64.wrap x) (show (n : Int) ≠ 0 by omega)
  have h2 := Int.emod_lt_of_pos (IntKind.u64.wrap x) (show (0 : Int) < n by omega)
  exact ⟨((IntKind.u64.wrap x) % (n : Int)).toNat, by omega, by rw [wrap_in _ (by omega)]; omega⟩
theorem swp_int (l : List Nat) (i j : Nat) (hi : i < l.length) (hj : j < l.length) (x y : Nat) (h1 : l[i]? = some x) (h2 : l[j]? = some y) : swp l i j = (l.set i y).set j x := by
  unfold swp at'
  simp [List.getD, h1, h2]
theorem pre {α : Type} (f : α → C) (l : List α) (n : Nat) (h : l.length = n) : ∃ K : Nat → List C, K 0 = [] ∧ K n = l.map f ∧ (∀ i, i ≤ n → (K i).length = i) ∧ ∀ i x, l[i]? = some x → K i ++ [f x] = K (i + 1) :=
  ⟨fun i => (l.map f).take i, by simp, by simp only; rw [← h, List.take_of_length_le (by simp)], fun i hi => by simp; omega, fun i x hx => by simp only; rw [List.take_add_one]; simp [hx]⟩
def natsC (l : List Nat) : List C := l.map fun x : Nat => iC x
set_option maxHeartbeats 8000000 in
theorem cupAny_den (keys : List ByteArray) (v : List (List Int)) (sw : List Int) (ob : List Ob) : Den Try.prog 7 [.c (strsC keys), .c (rowsC v), .c (intsC sw)] ob (fun r ob' => r = .c (bC true) ∧ ob' = ob) := by
  refine Den.frame rfl rfl ?_ ob
  have f1 := few_den keys
  by_cases hfw : few keys = true
  · rw [hfw] at f1
    have hkl := few_len hfw
    by_cases hg : great v = true
    · skip
      refine den_of Try.func7 rfl rfl (by simp [Try.ntmps7]) (fun X hX hO => ?_)
      rw [Try.ntmps7] at hX
      simp only [Try.results7]
      repeat' (first 
        | with_reducible refine awp_scope ?_
        | with_reducible refine awp_seq ?_
        | with_reducible refine awp_block ?_
        | (with_reducible refine awp_label ?_; try simp only [thenA, inBlockA, noGotoA])
        | (with_reducible refine awp_skip ?_; try simp only [thenA, inBlockA, noGotoA])
        | (with_reducible refine awp_exit ?_; simp only [thenA, inBlockA, noGotoA, if_true, Nat.reduceEqDiff, if_false, ↓reduceIte])
        | (with_reducible refine awp_ret ?_; (try simp only [thenA, inBlockA, noGotoA]); (try simp [-List.reduceReplicate, Nat.add_one_le_iff, -getElem?_pos, -getElem?_neg, List.getElem?_cons_zero, List.getElem?_cons_succ, bC, hg]))
        | (with_reducible refine awp_reg 203 hX [0, 1, 2, 6, 7, 8, 9, 10, 11, 12, 13, 14, 15, 16, 17, 18, 19, 20, 44, 49, 54, 65, 74, 82, 92, 126, 142] ?_; simp [-List.reduceReplicate, Nat.add_one_le_iff, -getElem?_pos, -getElem?_neg, List.getElem?_cons_zero, List.getElem?_cons_succ, bC, hg])
        | (with_reducible refine awp_drw (id := 9) 203 hX [0, 1, 2, 6, 7, 8, 9, 10, 11, 12, 13, 14, 15, 16, 17, 18, 19, 20, 44, 49, 54, 65, 74, 82, 92, 126, 142] Tab.mixed (by kernel_rfl) ?_; simp [-List.reduceReplicate, Nat.add_one_le_iff, -getElem?_pos, -getElem?_neg, List.getElem?_cons_zero, List.getElem?_cons_succ, bC, hg])
        | (with_reducible refine awp_drw (id := 21) 203 hX [0, 1, 2, 6, 7, 8, 9, 10, 11, 12, 13, 14, 15, 16, 17, 18, 19, 20, 44, 49, 54, 65, 74, 82, 92, 126, 142] Tab.mixed (by kernel_rfl) ?_; simp [-List.reduceReplicate, Nat.add_one_le_iff, -getElem?_pos, -getElem?_neg, List.getElem?_cons_zero, List.getElem?_cons_succ, bC, hg])
        | (with_reducible refine awp_drw (id := 33) 203 hX [0, 1, 2, 6, 7, 8, 9, 10, 11, 12, 13, 14, 15, 16, 17, 18, 19, 20, 44, 49, 54, 65, 74, 82, 92, 126, 142] Tab.mixed (by kernel_rfl) ?_; simp [-List.reduceReplicate, Nat.add_one_le_iff, -getElem?_pos, -getElem?_neg, List.getElem?_cons_zero, List.getElem?_cons_succ, bC, hg])
        | (with_reducible refine awp_drw (id := 36) 203 hX [0, 1, 2, 6, 7, 8, 9, 10, 11, 12, 13, 14, 15, 16, 17, 18, 19, 20, 44, 49, 54, 65, 74, 82, 92, 126, 142] Tab.mixed (by kernel_rfl) ?_; simp [-List.reduceReplicate, Nat.add_one_le_iff, -getElem?_pos, -getElem?_neg, List.getElem?_cons_zero, List.getElem?_cons_succ, bC, hg])
        | (refine (f1 _).det ?_; try simp [-List.reduceReplicate, Nat.add_one_le_iff, -getElem?_pos, -getElem?_neg, List.getElem?_cons_zero, List.getElem?_cons_succ, bC, hg])
        | (refine ⟨_, _, f1 _, fun _ => rfl, ?_⟩; try simp [-List.reduceReplicate, Nat.add_one_le_iff, -getElem?_pos, -getElem?_neg, List.getElem?_cons_zero, List.getElem?_cons_succ, bC, hg])
        | ((with_reducible refine Den.at_ (f := 21) ?_); refine (great_den _ _).det ?_; try simp [-List.reduceReplicate, Nat.add_one_le_iff, -getElem?_pos, -getElem?_neg, List.getElem?_cons_zero, List.getElem?_cons_succ, bC, hg])
        | ((with_reducible refine drawn_at (f := 21) ?_); refine ⟨_, _, great_den _ _, fun _ => rfl, ?_⟩; try simp [-List.reduceReplicate, Nat.add_one_le_iff, -getElem?_pos, -getElem?_neg, List.getElem?_cons_zero, List.getElem?_cons_succ, bC, hg])
        | ((with_reducible refine Den.at_ (f := 27) ?_); refine (awake45_den _).det ?_; try simp [-List.reduceReplicate, Nat.add_one_le_iff, -getElem?_pos, -getElem?_neg, List.getElem?_cons_zero, List.getElem?_cons_succ, bC, hg])
        | ((with_reducible refine drawn_at (f := 27) ?_); refine ⟨_, _, awake45_den _, fun _ => rfl, ?_⟩; try simp [-List.reduceReplicate, Nat.add_one_le_iff, -getElem?_pos, -getElem?_neg, List.getElem?_cons_zero, List.getElem?_cons_succ, bC, hg])
        | (with_reducible refine awp_if_b rfl (fun hc => ?_) (fun hc => ?_) <;> (try simp [-getElem?_pos, -getElem?_neg] at hc) <;> (try (exfalso; omega)))
        | (with_reducible refine GuardK_b (fun hc => ?_) (fun hc => ?_) <;> (try simp only [Bool.not_eq_true', Bool.not_eq_false', decide_eq_true_eq, decide_eq_false_iff_not] at hc) <;> (first | (exfalso; omega) | skip) <;> simp [-List.reduceReplicate, Nat.add_one_le_iff, -getElem?_pos, -getElem?_neg, List.getElem?_cons_zero, List.getElem?_cons_succ, bC, hg, hc])
        | (with_reducible refine DGuard_b _ _ _ _ _ _ _ _ _ _ (fun hc => ?_) (fun hc => ?_) <;> (try simp only [Bool.not_eq_true', Bool.not_eq_false', decide_eq_true_eq, decide_eq_false_iff_not] at hc) <;> (first | (exfalso; omega) | skip) <;> simp [-List.reduceReplicate, Nat.add_one_le_iff, -getElem?_pos, -getElem?_neg, List.getElem?_cons_zero, List.getElem?_cons_succ, bC, hg, hc])
        | (with_reducible refine DEv_cut _ _ _ _ _ _ _ _ _ _ _ _ (by kernel_rfl) ?_; simp [-List.reduceReplicate, Nat.add_one_le_iff, -getElem?_pos, -getElem?_neg, List.getElem?_cons_zero, List.getElem?_cons_succ, bC, hg])
        | ((with_reducible refine hother _ _ rfl ?_); simp only [inBlockA, thenA, noGotoA, Nat.reduceEqDiff, if_false, if_true, ↓reduceIte])
        | ((with_reducible refine hother2 _ _ rfl ?_); simp only [inBlockA, thenA, noGotoA, Nat.reduceEqDiff, if_false, if_true, ↓reduceIte])
        | ((with_reducible refine hother3 _ _ rfl ?_); simp only [inBlockA, thenA, noGotoA, Nat.reduceEqDiff, if_false, if_true, ↓reduceIte])
        | (with_reducible refine And.intro (by omega) ?_)
        | (with_reducible change postOf _ _ _ _ _; simp [-List.reduceReplicate, Nat.add_one_le_iff, -getElem?_pos, -getElem?_neg, List.getElem?_cons_zero, List.getElem?_cons_succ, bC, hg])
        | fail)
    · obtain ⟨hv, _⟩ := great_no v (by simpa using hg)
      have hg2 : great v = false := by simpa using hg
      have gd := great_den v []
      rw [hg2] at gd
      by_cases hlen : v.length = keys.length
      · by_cases h0 : keys.length = 0
        · obtain rfl : keys = [] := List.length_eq_zero_iff.1 h0
          obtain rfl : v = [] := List.length_eq_zero_iff.1 hlen
          refine den_of Try.func7 rfl rfl (by simp [Try.ntmps7]) (fun X hX hO => ?_)
          rw [Try.ntmps7] at hX
          simp only [Try.results7]
          unfold strsC rowsC at *
          repeat' (first 
            | with_reducible refine awp_scope ?_
            | with_reducible refine awp_seq ?_
            | with_reducible refine awp_block ?_
            | (with_reducible refine awp_label ?_; try simp only [thenA, inBlockA, noGotoA])
            | (with_reducible refine awp_skip ?_; try simp only [thenA, inBlockA, noGotoA])
            | (with_reducible refine awp_exit ?_; simp only [thenA, inBlockA, noGotoA, if_true, Nat.reduceEqDiff, if_false, ↓reduceIte])
            | (with_reducible refine awp_ret ?_; (try simp only [thenA, inBlockA, noGotoA]); (try simp [-List.reduceReplicate, Nat.add_one_le_iff, -getElem?_pos, -getElem?_neg, List.getElem?_cons_zero, List.getElem?_cons_succ, bC]))
            | (with_reducible refine awp_reg 203 hX [0, 1, 2, 6, 7, 8, 9, 10, 11, 12, 13, 14, 15, 16, 17, 18, 19, 20, 44, 49, 54, 65, 74, 82, 92, 126, 142] ?_; simp [-List.reduceReplicate, Nat.add_one_le_iff, -getElem?_pos, -getElem?_neg, List.getElem?_cons_zero, List.getElem?_cons_succ, bC])
            | (with_reducible refine awp_drw (id := 9) 203 hX [0, 1, 2, 6, 7, 8, 9, 10, 11, 12, 13, 14, 15, 16, 17, 18, 19, 20, 44, 49, 54, 65, 74, 82, 92, 126, 142] Tab.mixed (by kernel_rfl) ?_; simp [-List.reduceReplicate, Nat.add_one_le_iff, -getElem?_pos, -getElem?_neg, List.getElem?_cons_zero, List.getElem?_cons_succ, bC])
            | (with_reducible refine awp_drw (id := 21) 203 hX [0, 1, 2, 6, 7, 8, 9, 10, 11, 12, 13, 14, 15, 16, 17, 18, 19, 20, 44, 49, 54, 65, 74, 82, 92, 126, 142] Tab.mixed (by kernel_rfl) ?_; simp [-List.reduceReplicate, Nat.add_one_le_iff, -getElem?_pos, -getElem?_neg, List.getElem?_cons_zero, List.getElem?_cons_succ, bC])
            | (with_reducible refine awp_drw (id := 33) 203 hX [0, 1, 2, 6, 7, 8, 9, 10, 11, 12, 13, 14, 15, 16, 17, 18, 19, 20, 44, 49, 54, 65, 74, 82, 92, 126, 142] Tab.mixed (by kernel_rfl) ?_; simp [-List.reduceReplicate, Nat.add_one_le_iff, -getElem?_pos, -getElem?_neg, List.getElem?_cons_zero, List.getElem?_cons_succ, bC])
            | (with_reducible refine awp_drw (id := 36) 203 hX [0, 1, 2, 6, 7, 8, 9, 10, 11, 12, 13, 14, 15, 16, 17, 18, 19, 20, 44, 49, 54, 65, 74, 82, 92, 126, 142] Tab.mixed (by kernel_rfl) ?_; simp [-List.reduceReplicate, Nat.add_one_le_iff, -getElem?_pos, -getElem?_neg, List.getElem?_cons_zero, List.getElem?_cons_succ, bC])
            | (refine (f1 _).det ?_; try simp [-List.reduceReplicate, Nat.add_one_le_iff, -getElem?_pos, -getElem?_neg, List.getElem?_cons_zero, List.getElem?_cons_succ, bC])
            | (refine ⟨_, _, f1 _, fun _ => rfl, ?_⟩; try simp [-List.reduceReplicate, Nat.add_one_le_iff, -getElem?_pos, -getElem?_neg, List.getElem?_cons_zero, List.getElem?_cons_succ, bC])
            | (refine (gd).det ?_; try simp [-List.reduceReplicate, Nat.add_one_le_iff, -getElem?_pos, -getElem?_neg, List.getElem?_cons_zero, List.getElem?_cons_succ, bC])
            | (refine ⟨_, _, gd, fun _ => rfl, ?_⟩; try simp [-List.reduceReplicate, Nat.add_one_le_iff, -getElem?_pos, -getElem?_neg, List.getElem?_cons_zero, List.getElem?_cons_succ, bC])
            | ((with_reducible refine Den.at_ (f := 27) ?_); refine (awake45_den _).det ?_; try simp [-List.reduceReplicate, Nat.add_one_le_iff, -getElem?_pos, -getElem?_neg, List.getElem?_cons_zero, List.getElem?_cons_succ, bC])
            | ((with_reducible refine drawn_at (f := 27) ?_); refine ⟨_, _, awake45_den _, fun _ => rfl, ?_⟩; try simp [-List.reduceReplicate, Nat.add_one_le_iff, -getElem?_pos, -getElem?_neg, List.getElem?_cons_zero, List.getElem?_cons_succ, bC])
            | (with_reducible refine awp_if_b rfl (fun hc => ?_) (fun hc => ?_) <;> (try simp [-getElem?_pos, -getElem?_neg] at hc) <;> (try (exfalso; omega)))
            | (with_reducible refine GuardK_b (fun hc => ?_) (fun hc => ?_) <;> (try simp only [Bool.not_eq_true', Bool.not_eq_false', decide_eq_true_eq, decide_eq_false_iff_not] at hc) <;> (first | (exfalso; omega) | skip) <;> simp [-List.reduceReplicate, Nat.add_one_le_iff, -getElem?_pos, -getElem?_neg, List.getElem?_cons_zero, List.getElem?_cons_succ, bC, hc])
            | (with_reducible refine DGuard_b _ _ _ _ _ _ _ _ _ _ (fun hc => ?_) (fun hc => ?_) <;> (try simp only [Bool.not_eq_true', Bool.not_eq_false', decide_eq_true_eq, decide_eq_false_iff_not] at hc) <;> (first | (exfalso; omega) | skip) <;> simp [-List.reduceReplicate, Nat.add_one_le_iff, -getElem?_pos, -getElem?_neg, List.getElem?_cons_zero, List.getElem?_cons_succ, bC, hc])
            | (with_reducible refine DEv_cut _ _ _ _ _ _ _ _ _ _ _ _ (by kernel_rfl) ?_; simp [-List.reduceReplicate, Nat.add_one_le_iff, -getElem?_pos, -getElem?_neg, List.getElem?_cons_zero, List.getElem?_cons_succ, bC])
            | ((with_reducible refine hother _ _ rfl ?_); simp only [inBlockA, thenA, noGotoA, Nat.reduceEqDiff, if_false, if_true, ↓reduceIte])
            | ((with_reducible refine hother2 _ _ rfl ?_); simp only [inBlockA, thenA, noGotoA, Nat.reduceEqDiff, if_false, if_true, ↓reduceIte])
            | ((with_reducible refine hother3 _ _ rfl ?_); simp only [inBlockA, thenA, noGotoA, Nat.reduceEqDiff, if_false, if_true, ↓reduceIte])
            | (with_reducible refine And.intro (by omega) ?_)
            | (with_reducible change postOf _ _ _ _ _; simp [-List.reduceReplicate, Nat.add_one_le_iff, -getElem?_pos, -getElem?_neg, List.getElem?_cons_zero, List.getElem?_cons_succ, bC])
            | fail)
        · by_cases hsw : 60 < sw.length
          · have hsw2 : (60 : Int) < sw.length := by omega
            refine den_of Try.func7 rfl rfl (by simp [Try.ntmps7]) (fun X hX hO => ?_)
            rw [Try.ntmps7] at hX
            simp only [Try.results7]
            unfold strsC rowsC intsC at *
            rw [hlen] at gd ⊢
            repeat' (first 
              | with_reducible refine awp_scope ?_
              | with_reducible refine awp_seq ?_
              | with_reducible refine awp_block ?_
              | (with_reducible refine awp_label ?_; try simp only [thenA, inBlockA, noGotoA])
              | (with_reducible refine awp_skip ?_; try simp only [thenA, inBlockA, noGotoA])
              | (with_reducible refine awp_exit ?_; simp only [thenA, inBlockA, noGotoA, if_true, Nat.reduceEqDiff, if_false, ↓reduceIte])
              | (with_reducible refine awp_ret ?_; (try simp only [thenA, inBlockA, noGotoA]); (try simp [-List.reduceReplicate, Nat.add_one_le_iff, -getElem?_pos, -getElem?_neg, List.getElem?_cons_zero, List.getElem?_cons_succ, bC, h0, hsw, hsw2]))
              | (with_reducible refine awp_reg 203 hX [0, 1, 2, 6, 7, 8, 9, 10, 11, 12, 13, 14, 15, 16, 17, 18, 19, 20, 44, 49, 54, 65, 74, 82, 92, 126, 142] ?_; simp [-List.reduceReplicate, Nat.add_one_le_iff, -getElem?_pos, -getElem?_neg, List.getElem?_cons_zero, List.getElem?_cons_succ, bC, h0, hsw, hsw2])
              | (with_reducible refine awp_drw (id := 9) 203 hX [0, 1, 2, 6, 7, 8, 9, 10, 11, 12, 13, 14, 15, 16, 17, 18, 19, 20, 44, 49, 54, 65, 74, 82, 92, 126, 142] Tab.mixed (by kernel_rfl) ?_; simp [-List.reduceReplicate, Nat.add_one_le_iff, -getElem?_pos, -getElem?_neg, List.getElem?_cons_zero, List.getElem?_cons_succ, bC, h0, hsw, hsw2])
              | (with_reducible refine awp_drw (id := 21) 203 hX [0, 1, 2, 6, 7, 8, 9, 10, 11, 12, 13, 14, 15, 16, 17, 18, 19, 20, 44, 49, 54, 65, 74, 82, 92, 126, 142] Tab.mixed (by kernel_rfl) ?_; simp [-List.reduceReplicate, Nat.add_one_le_iff, -getElem?_pos, -getElem?_neg, List.getElem?_cons_zero, List.getElem?_cons_succ, bC, h0, hsw, hsw2])
              | (with_reducible refine awp_drw (id := 33) 203 hX [0, 1, 2, 6, 7, 8, 9, 10, 11, 12, 13, 14, 15, 16, 17, 18, 19, 20, 44, 49, 54, 65, 74, 82, 92, 126, 142] Tab.mixed (by kernel_rfl) ?_; simp [-List.reduceReplicate, Nat.add_one_le_iff, -getElem?_pos, -getElem?_neg, List.getElem?_cons_zero, List.getElem?_cons_succ, bC, h0, hsw, hsw2])
              | (with_reducible refine awp_drw (id := 36) 203 hX [0, 1, 2, 6, 7, 8, 9, 10, 11, 12, 13, 14, 15, 16, 17, 18, 19, 20, 44, 49, 54, 65, 74, 82, 92, 126, 142] Tab.mixed (by kernel_rfl) ?_; simp [-List.reduceReplicate, Nat.add_one_le_iff, -getElem?_pos, -getElem?_neg, List.getElem?_cons_zero, List.getElem?_cons_succ, bC, h0, hsw, hsw2])
              | (refine (f1 _).det ?_; try simp [-List.reduceReplicate, Nat.add_one_le_iff, -getElem?_pos, -getElem?_neg, List.getElem?_cons_zero, List.getElem?_cons_succ, bC, h0, hsw, hsw2])
              | (refine ⟨_, _, f1 _, fun _ => rfl, ?_⟩; try simp [-List.reduceReplicate, Nat.add_one_le_iff, -getElem?_pos, -getElem?_neg, List.getElem?_cons_zero, List.getElem?_cons_succ, bC, h0, hsw, hsw2])
              | (refine (gd).det ?_; try simp [-List.reduceReplicate, Nat.add_one_le_iff, -getElem?_pos, -getElem?_neg, List.getElem?_cons_zero, List.getElem?_cons_succ, bC, h0, hsw, hsw2])
              | (refine ⟨_, _, gd, fun _ => rfl, ?_⟩; try simp [-List.reduceReplicate, Nat.add_one_le_iff, -getElem?_pos, -getElem?_neg, List.getElem?_cons_zero, List.getElem?_cons_succ, bC, h0, hsw, hsw2])
              | ((with_reducible refine Den.at_ (f := 27) ?_); refine (awake45_den _).det ?_; try simp [-List.reduceReplicate, Nat.add_one_le_iff, -getElem?_pos, -getElem?_neg, List.getElem?_cons_zero, List.getElem?_cons_succ, bC, h0, hsw, hsw2])
              | ((with_reducible refine drawn_at (f := 27) ?_); refine ⟨_, _, awake45_den _, fun _ => rfl, ?_⟩; try simp [-List.reduceReplicate, Nat.add_one_le_iff, -getElem?_pos, -getElem?_neg, List.getElem?_cons_zero, List.getElem?_cons_succ, bC, h0, hsw, hsw2])
              | (with_reducible refine awp_if_b rfl (fun hc => ?_) (fun hc => ?_) <;> (try simp [-getElem?_pos, -getElem?_neg] at hc) <;> (try (exfalso; omega)))
              | (with_reducible refine GuardK_b (fun hc => ?_) (fun hc => ?_) <;> (try simp only [Bool.not_eq_true', Bool.not_eq_false', decide_eq_true_eq, decide_eq_false_iff_not] at hc) <;> (first | (exfalso; omega) | skip) <;> simp [-List.reduceReplicate, Nat.add_one_le_iff, -getElem?_pos, -getElem?_neg, List.getElem?_cons_zero, List.getElem?_cons_succ, bC, h0, hsw, hsw2, hc])
              | (with_reducible refine DGuard_b _ _ _ _ _ _ _ _ _ _ (fun hc => ?_) (fun hc => ?_) <;> (try simp only [Bool.not_eq_true', Bool.not_eq_false', decide_eq_true_eq, decide_eq_false_iff_not] at hc) <;> (first | (exfalso; omega) | skip) <;> simp [-List.reduceReplicate, Nat.add_one_le_iff, -getElem?_pos, -getElem?_neg, List.getElem?_cons_zero, List.getElem?_cons_succ, bC, h0, hsw, hsw2, hc])
              | (with_reducible refine DEv_cut _ _ _ _ _ _ _ _ _ _ _ _ (by kernel_rfl) ?_; simp [-List.reduceReplicate, Nat.add_one_le_iff, -getElem?_pos, -getElem?_neg, List.getElem?_cons_zero, List.getElem?_cons_succ, bC, h0, hsw, hsw2])
              | ((with_reducible refine hother _ _ rfl ?_); simp only [inBlockA, thenA, noGotoA, Nat.reduceEqDiff, if_false, if_true, ↓reduceIte])
              | ((with_reducible refine hother2 _ _ rfl ?_); simp only [inBlockA, thenA, noGotoA, Nat.reduceEqDiff, if_false, if_true, ↓reduceIte])
              | ((with_reducible refine hother3 _ _ rfl ?_); simp only [inBlockA, thenA, noGotoA, Nat.reduceEqDiff, if_false, if_true, ↓reduceIte])
              | (with_reducible refine And.intro (by omega) ?_)
              | (with_reducible change postOf _ _ _ _ _; simp [-List.reduceReplicate, Nat.add_one_le_iff, -getElem?_pos, -getElem?_neg, List.getElem?_cons_zero, List.getElem?_cons_succ, bC, h0, hsw, hsw2])
              | fail)
          · have p4 := winner_den keys v (by omega) (by omega)
            have wp := winner_perm keys v
            have hsw2 : ¬ (60 : Int) < sw.length := by omega
            unfold strsC rowsC at *
            refine den_of Try.func7 rfl rfl (by simp [Try.ntmps7]) (fun X hX hO => ?_)
            rw [Try.ntmps7] at hX
            simp only [Try.results7]
            rw [hlen] at gd p4 ⊢
            have hvl := hlen
            obtain ⟨n, hn⟩ : ∃ n, n = keys.length := ⟨_, rfl⟩
            rw [← hn] at hvl p4
            have aw := awake45_den
            repeat' (first 
              | with_reducible refine awp_scope ?_
              | with_reducible refine awp_seq ?_
              | with_reducible refine awp_block ?_
              | (with_reducible refine awp_label ?_; try simp only [thenA, inBlockA, noGotoA])
              | (with_reducible refine awp_skip ?_; try simp only [thenA, inBlockA, noGotoA])
              | (with_reducible refine awp_exit ?_; simp only [thenA, inBlockA, noGotoA, if_true, Nat.reduceEqDiff, if_false, ↓reduceIte])
              | (with_reducible refine awp_ret ?_; (try simp only [thenA, inBlockA, noGotoA]); (try simp [-List.reduceReplicate, Nat.add_one_le_iff, -getElem?_pos, -getElem?_neg, List.getElem?_cons_zero, List.getElem?_cons_succ, bC, intsC, h0, hsw, hsw2]))
              | (with_reducible refine awp_reg 203 hX [0, 1, 2, 6, 7, 8, 9, 10, 11, 12, 13, 14, 15, 16, 17, 18, 19, 20, 44, 49, 54, 65, 74, 82, 92, 126, 142] ?_; simp [-List.reduceReplicate, Nat.add_one_le_iff, -getElem?_pos, -getElem?_neg, List.getElem?_cons_zero, List.getElem?_cons_succ, bC, intsC, h0, hsw, hsw2])
              | (with_reducible refine awp_drw (id := 9) 203 hX [0, 1, 2, 6, 7, 8, 9, 10, 11, 12, 13, 14, 15, 16, 17, 18, 19, 20, 44, 49, 54, 65, 74, 82, 92, 126, 142] Tab.mixed (by kernel_rfl) ?_; simp [-List.reduceReplicate, Nat.add_one_le_iff, -getElem?_pos, -getElem?_neg, List.getElem?_cons_zero, List.getElem?_cons_succ, bC, intsC, h0, hsw, hsw2])
              | (with_reducible refine awp_drw (id := 21) 203 hX [0, 1, 2, 6, 7, 8, 9, 10, 11, 12, 13, 14, 15, 16, 17, 18, 19, 20, 44, 49, 54, 65, 74, 82, 92, 126, 142] Tab.mixed (by kernel_rfl) ?_; simp [-List.reduceReplicate, Nat.add_one_le_iff, -getElem?_pos, -getElem?_neg, List.getElem?_cons_zero, List.getElem?_cons_succ, bC, intsC, h0, hsw, hsw2])
              | (with_reducible refine awp_drw (id := 33) 203 hX [0, 1, 2, 6, 7, 8, 9, 10, 11, 12, 13, 14, 15, 16, 17, 18, 19, 20, 44, 49, 54, 65, 74, 82, 92, 126, 142] Tab.mixed (by kernel_rfl) ?_; simp [-List.reduceReplicate, Nat.add_one_le_iff, -getElem?_pos, -getElem?_neg, List.getElem?_cons_zero, List.getElem?_cons_succ, bC, intsC, h0, hsw, hsw2])
              | (with_reducible refine awp_drw (id := 36) 203 hX [0, 1, 2, 6, 7, 8, 9, 10, 11, 12, 13, 14, 15, 16, 17, 18, 19, 20, 44, 49, 54, 65, 74, 82, 92, 126, 142] Tab.mixed (by kernel_rfl) ?_; simp [-List.reduceReplicate, Nat.add_one_le_iff, -getElem?_pos, -getElem?_neg, List.getElem?_cons_zero, List.getElem?_cons_succ, bC, intsC, h0, hsw, hsw2])
              | (refine (f1 _).det ?_; try simp [-List.reduceReplicate, Nat.add_one_le_iff, -getElem?_pos, -getElem?_neg, List.getElem?_cons_zero, List.getElem?_cons_succ, bC, intsC, h0, hsw, hsw2])
              | (refine ⟨_, _, f1 _, fun _ => rfl, ?_⟩; try simp [-List.reduceReplicate, Nat.add_one_le_iff, -getElem?_pos, -getElem?_neg, List.getElem?_cons_zero, List.getElem?_cons_succ, bC, intsC, h0, hsw, hsw2])
              | (refine (gd).det ?_; try simp [-List.reduceReplicate, Nat.add_one_le_iff, -getElem?_pos, -getElem?_neg, List.getElem?_cons_zero, List.getElem?_cons_succ, bC, intsC, h0, hsw, hsw2])
              | (refine ⟨_, _, gd, fun _ => rfl, ?_⟩; try simp [-List.reduceReplicate, Nat.add_one_le_iff, -getElem?_pos, -getElem?_neg, List.getElem?_cons_zero, List.getElem?_cons_succ, bC, intsC, h0, hsw, hsw2])
              | (with_reducible refine awp_if_b rfl (fun hc => ?_) (fun hc => ?_) <;> (try simp [-getElem?_pos, -getElem?_neg] at hc) <;> (try (exfalso; omega)))
              | (with_reducible refine GuardK_b (fun hc => ?_) (fun hc => ?_) <;> (try simp only [Bool.not_eq_true', Bool.not_eq_false', decide_eq_true_eq, decide_eq_false_iff_not] at hc) <;> (first | (exfalso; omega) | skip) <;> simp [-List.reduceReplicate, Nat.add_one_le_iff, -getElem?_pos, -getElem?_neg, List.getElem?_cons_zero, List.getElem?_cons_succ, bC, intsC, h0, hsw, hsw2, hc])
              | (with_reducible refine DGuard_b _ _ _ _ _ _ _ _ _ _ (fun hc => ?_) (fun hc => ?_) <;> (try simp only [Bool.not_eq_true', Bool.not_eq_false', decide_eq_true_eq, decide_eq_false_iff_not] at hc) <;> (first | (exfalso; omega) | skip) <;> simp [-List.reduceReplicate, Nat.add_one_le_iff, -getElem?_pos, -getElem?_neg, List.getElem?_cons_zero, List.getElem?_cons_succ, bC, intsC, h0, hsw, hsw2, hc])
              | (with_reducible refine DEv_cut _ _ _ _ _ _ _ _ _ _ _ _ (by kernel_rfl) ?_; simp [-List.reduceReplicate, Nat.add_one_le_iff, -getElem?_pos, -getElem?_neg, List.getElem?_cons_zero, List.getElem?_cons_succ, bC, intsC, h0, hsw, hsw2])
              | ((with_reducible refine hother _ _ rfl ?_); simp only [inBlockA, thenA, noGotoA, Nat.reduceEqDiff, if_false, if_true, ↓reduceIte])
              | ((with_reducible refine hother2 _ _ rfl ?_); simp only [inBlockA, thenA, noGotoA, Nat.reduceEqDiff, if_false, if_true, ↓reduceIte])
              | ((with_reducible refine hother3 _ _ rfl ?_); simp only [inBlockA, thenA, noGotoA, Nat.reduceEqDiff, if_false, if_true, ↓reduceIte])
              | (with_reducible refine And.intro (by omega) ?_)
              | (with_reducible change postOf _ _ _ _ _; simp [-List.reduceReplicate, Nat.add_one_le_iff, -getElem?_pos, -getElem?_neg, List.getElem?_cons_zero, List.getElem?_cons_succ, bC, intsC, h0, hsw, hsw2])
              | fail)
            rw [← hn]
            refine awp_forU [0, 1, 2, 7] (fun i (_u : Unit) => [(7, .c (iC i))]) (fun i (_u : Unit) => []) (fun i (_u : Unit) => (∀ a b, b < a → a < i → keyN keys a ≠ keyN keys b) ∧ (∀ a r, a < i → v[a]? = some r → r.length = n)) (n) (()) (⟨fun a b _ h => by omega, fun a r h => by omega⟩) (by simp [-List.reduceReplicate, keep, iC]) (by simp [-List.reduceReplicate, iC]) ?_
            rintro i _u Q1 hi hH next hother
            conv => arg 5; arg 1; simp only [List.cons_append, List.nil_append, keep, get, Nat.reduceEqDiff, if_true, if_false, ↓reduceIte]
            have hwi := wrap_in ((i : Int) + 1) (by omega)
            obtain ⟨hd1, hd2⟩ := hH
            by_cases hlt : i < n
            · obtain ⟨ki, hki⟩ := getI keys (i : Nat) (by omega) (by omega)
              obtain ⟨r, hr⟩ := getI v (i : Nat) (by omega) (by omega)
              simp only [Int.toNat_natCast] at hki hr
              have e1 : keyN keys i = ki := by simp [keyN, hki]
              repeat' (first 
                | with_reducible refine awp_scope ?_
                | with_reducible refine awp_seq ?_
                | with_reducible refine awp_block ?_
                | (with_reducible refine awp_label ?_; try simp only [thenA, inBlockA, noGotoA])
                | (with_reducible refine awp_skip ?_; try simp only [thenA, inBlockA, noGotoA])
                | (with_reducible refine awp_exit ?_; simp only [thenA, inBlockA, noGotoA, if_true, Nat.reduceEqDiff, if_false, ↓reduceIte])
                | (with_reducible refine awp_ret ?_; (try simp only [thenA, inBlockA, noGotoA]); (try simp [-List.reduceReplicate, Nat.add_one_le_iff, -getElem?_pos, -getElem?_neg, List.getElem?_cons_zero, List.getElem?_cons_succ, iC, bC, hlt]))
                | (with_reducible refine awp_reg 203 hX [0, 1, 2, 6, 7, 8, 9, 10, 11, 12, 13, 14, 15, 16, 17, 18, 19, 20, 44, 49, 54, 65, 74, 82, 92, 126, 142] ?_; simp [-List.reduceReplicate, Nat.add_one_le_iff, -getElem?_pos, -getElem?_neg, List.getElem?_cons_zero, List.getElem?_cons_succ, iC, bC, hlt])
                | (with_reducible refine awp_drw (id := 9) 203 hX [0, 1, 2, 6, 7, 8, 9, 10, 11, 12, 13, 14, 15, 16, 17, 18, 19, 20, 44, 49, 54, 65, 74, 82, 92, 126, 142] Tab.mixed (by kernel_rfl) ?_; simp [-List.reduceReplicate, Nat.add_one_le_iff, -getElem?_pos, -getElem?_neg, List.getElem?_cons_zero, List.getElem?_cons_succ, iC, bC, hlt])
                | (with_reducible refine awp_drw (id := 21) 203 hX [0, 1, 2, 6, 7, 8, 9, 10, 11, 12, 13, 14, 15, 16, 17, 18, 19, 20, 44, 49, 54, 65, 74, 82, 92, 126, 142] Tab.mixed (by kernel_rfl) ?_; simp [-List.reduceReplicate, Nat.add_one_le_iff, -getElem?_pos, -getElem?_neg, List.getElem?_cons_zero, List.getElem?_cons_succ, iC, bC, hlt])
                | (with_reducible refine awp_drw (id := 33) 203 hX [0, 1, 2, 6, 7, 8, 9, 10, 11, 12, 13, 14, 15, 16, 17, 18, 19, 20, 44, 49, 54, 65, 74, 82, 92, 126, 142] Tab.mixed (by kernel_rfl) ?_; simp [-List.reduceReplicate, Nat.add_one_le_iff, -getElem?_pos, -getElem?_neg, List.getElem?_cons_zero, List.getElem?_cons_succ, iC, bC, hlt])
                | (with_reducible refine awp_drw (id := 36) 203 hX [0, 1, 2, 6, 7, 8, 9, 10, 11, 12, 13, 14, 15, 16, 17, 18, 19, 20, 44, 49, 54, 65, 74, 82, 92, 126, 142] Tab.mixed (by kernel_rfl) ?_; simp [-List.reduceReplicate, Nat.add_one_le_iff, -getElem?_pos, -getElem?_neg, List.getElem?_cons_zero, List.getElem?_cons_succ, iC, bC, hlt])
                | (with_reducible refine awp_if_b rfl (fun hc => ?_) (fun hc => ?_) <;> (try simp [-getElem?_pos, -getElem?_neg] at hc) <;> (try (exfalso; omega)))
                | (with_reducible refine GuardK_b (fun hc => ?_) (fun hc => ?_) <;> (try simp only [Bool.not_eq_true', Bool.not_eq_false', decide_eq_true_eq, decide_eq_false_iff_not] at hc) <;> (first | (exfalso; omega) | skip) <;> simp [-List.reduceReplicate, Nat.add_one_le_iff, -getElem?_pos, -getElem?_neg, List.getElem?_cons_zero, List.getElem?_cons_succ, iC, bC, hlt, hc])
                | (with_reducible refine DGuard_b _ _ _ _ _ _ _ _ _ _ (fun hc => ?_) (fun hc => ?_) <;> (try simp only [Bool.not_eq_true', Bool.not_eq_false', decide_eq_true_eq, decide_eq_false_iff_not] at hc) <;> (first | (exfalso; omega) | skip) <;> simp [-List.reduceReplicate, Nat.add_one_le_iff, -getElem?_pos, -getElem?_neg, List.getElem?_cons_zero, List.getElem?_cons_succ, iC, bC, hlt, hc])
                | (with_reducible refine DEv_cut _ _ _ _ _ _ _ _ _ _ _ _ (by kernel_rfl) ?_; simp [-List.reduceReplicate, Nat.add_one_le_iff, -getElem?_pos, -getElem?_neg, List.getElem?_cons_zero, List.getElem?_cons_succ, iC, bC, hlt])
                | ((with_reducible refine hother _ _ rfl ?_); simp only [inBlockA, thenA, noGotoA, Nat.reduceEqDiff, if_false, if_true, ↓reduceIte])
                | ((with_reducible refine hother2 _ _ rfl ?_); simp only [inBlockA, thenA, noGotoA, Nat.reduceEqDiff, if_false, if_true, ↓reduceIte])
                | ((with_reducible refine hother3 _ _ rfl ?_); simp only [inBlockA, thenA, noGotoA, Nat.reduceEqDiff, if_false, if_true, ↓reduceIte])
                | (with_reducible refine And.intro (by omega) ?_)
                | (with_reducible change postOf _ _ _ _ _; simp [-List.reduceReplicate, Nat.add_one_le_iff, -getElem?_pos, -getElem?_neg, List.getElem?_cons_zero, List.getElem?_cons_succ, iC, bC, hlt])
                | fail)
              have next1 := next; have hother2 := hother; clear next hother
              refine awp_forU [0, 1, 2, 7, 8] (fun k (_u : Unit) => [(8, .c (iC k))]) (fun k (_u : Unit) => []) (fun k (_u : Unit) => (∀ b, b < k → keyN keys i ≠ keyN keys b)) (i) (()) (by first | trivial | (simp; done) | omega | (intros; simp at *; done)) (by simp [-List.reduceReplicate, keep, iC]) (by simp [-List.reduceReplicate, iC]) ?_
              rintro k _u Q1 hi hH next hother
              conv => arg 5; arg 1; simp only [List.cons_append, List.nil_append, keep, get, Nat.reduceEqDiff, if_true, if_false, ↓reduceIte]
              have hwk := wrap_in ((k : Int) + 1) (by omega)
              by_cases hkl : k < i
              · obtain ⟨kk, hkk⟩ := getI keys (k : Nat) (by omega) (by omega)
                simp only [Int.toNat_natCast] at hkk
                have e2 : keyN keys k = kk := by simp [keyN, hkk]
                have hkn : k < n := by omega
                by_cases c1 : ki.toList = kk.toList
                · repeat' (first 
                    | with_reducible refine awp_scope ?_
                    | with_reducible refine awp_seq ?_
                    | with_reducible refine awp_block ?_
                    | (with_reducible refine awp_label ?_; try simp only [thenA, inBlockA, noGotoA])
                    | (with_reducible refine awp_skip ?_; try simp only [thenA, inBlockA, noGotoA])
                    | (with_reducible refine awp_exit ?_; simp only [thenA, inBlockA, noGotoA, if_true, Nat.reduceEqDiff, if_false, ↓reduceIte])
                    | (with_reducible refine awp_ret ?_; (try simp only [thenA, inBlockA, noGotoA]); (try simp [-List.reduceReplicate, Nat.add_one_le_iff, -getElem?_pos, -getElem?_neg, List.getElem?_cons_zero, List.getElem?_cons_succ, iC, bC, sC, hkl, hkn, hlt, hki, hkk, c1]))
                    | (with_reducible refine awp_reg 203 hX [0, 1, 2, 6, 7, 8, 9, 10, 11, 12, 13, 14, 15, 16, 17, 18, 19, 20, 44, 49, 54, 65, 74, 82, 92, 126, 142] ?_; simp [-List.reduceReplicate, Nat.add_one_le_iff, -getElem?_pos, -getElem?_neg, List.getElem?_cons_zero, List.getElem?_cons_succ, iC, bC, sC, hkl, hkn, hlt, hki, hkk, c1])
                    | (with_reducible refine awp_drw (id := 9) 203 hX [0, 1, 2, 6, 7, 8, 9, 10, 11, 12, 13, 14, 15, 16, 17, 18, 19, 20, 44, 49, 54, 65, 74, 82, 92, 126, 142] Tab.mixed (by kernel_rfl) ?_; simp [-List.reduceReplicate, Nat.add_one_le_iff, -getElem?_pos, -getElem?_neg, List.getElem?_cons_zero, List.getElem?_cons_succ, iC, bC, sC, hkl, hkn, hlt, hki, hkk, c1])
                    | (with_reducible refine awp_drw (id := 21) 203 hX [0, 1, 2, 6, 7, 8, 9, 10, 11, 12, 13, 14, 15, 16, 17, 18, 19, 20, 44, 49, 54, 65, 74, 82, 92, 126, 142] Tab.mixed (by kernel_rfl) ?_; simp [-List.reduceReplicate, Nat.add_one_le_iff, -getElem?_pos, -getElem?_neg, List.getElem?_cons_zero, List.getElem?_cons_succ, iC, bC, sC, hkl, hkn, hlt, hki, hkk, c1])
                    | (with_reducible refine awp_drw (id := 33) 203 hX [0, 1, 2, 6, 7, 8, 9, 10, 11, 12, 13, 14, 15, 16, 17, 18, 19, 20, 44, 49, 54, 65, 74, 82, 92, 126, 142] Tab.mixed (by kernel_rfl) ?_; simp [-List.reduceReplicate, Nat.add_one_le_iff, -getElem?_pos, -getElem?_neg, List.getElem?_cons_zero, List.getElem?_cons_succ, iC, bC, sC, hkl, hkn, hlt, hki, hkk, c1])
                    | (with_reducible refine awp_drw (id := 36) 203 hX [0, 1, 2, 6, 7, 8, 9, 10, 11, 12, 13, 14, 15, 16, 17, 18, 19, 20, 44, 49, 54, 65, 74, 82, 92, 126, 142] Tab.mixed (by kernel_rfl) ?_; simp [-List.reduceReplicate, Nat.add_one_le_iff, -getElem?_pos, -getElem?_neg, List.getElem?_cons_zero, List.getElem?_cons_succ, iC, bC, sC, hkl, hkn, hlt, hki, hkk, c1])
                    | (refine (aw _).det ?_; try simp [-List.reduceReplicate, Nat.add_one_le_iff, -getElem?_pos, -getElem?_neg, List.getElem?_cons_zero, List.getElem?_cons_succ, iC, bC, sC, hkl, hkn, hlt, hki, hkk, c1])
                    | (refine ⟨_, _, aw _, fun _ => rfl, ?_⟩; try simp [-List.reduceReplicate, Nat.add_one_le_iff, -getElem?_pos, -getElem?_neg, List.getElem?_cons_zero, List.getElem?_cons_succ, iC, bC, sC, hkl, hkn, hlt, hki, hkk, c1])
                    | (with_reducible refine awp_if_b rfl (fun hc => ?_) (fun hc => ?_) <;> (try simp [-getElem?_pos, -getElem?_neg] at hc) <;> (try (exfalso; omega)))
                    | (with_reducible refine GuardK_b (fun hc => ?_) (fun hc => ?_) <;> (try simp only [Bool.not_eq_true', Bool.not_eq_false', decide_eq_true_eq, decide_eq_false_iff_not] at hc) <;> (first | (exfalso; omega) | skip) <;> simp [-List.reduceReplicate, Nat.add_one_le_iff, -getElem?_pos, -getElem?_neg, List.getElem?_cons_zero, List.getElem?_cons_succ, iC, bC, sC, hkl, hkn, hlt, hki, hkk, c1, hc])
                    | (with_reducible refine DGuard_b _ _ _ _ _ _ _ _ _ _ (fun hc => ?_) (fun hc => ?_) <;> (try simp only [Bool.not_eq_true', Bool.not_eq_false', decide_eq_true_eq, decide_eq_false_iff_not] at hc) <;> (first | (exfalso; omega) | skip) <;> simp [-List.reduceReplicate, Nat.add_one_le_iff, -getElem?_pos, -getElem?_neg, List.getElem?_cons_zero, List.getElem?_cons_succ, iC, bC, sC, hkl, hkn, hlt, hki, hkk, c1, hc])
                    | (with_reducible refine DEv_cut _ _ _ _ _ _ _ _ _ _ _ _ (by kernel_rfl) ?_; simp [-List.reduceReplicate, Nat.add_one_le_iff, -getElem?_pos, -getElem?_neg, List.getElem?_cons_zero, List.getElem?_cons_succ, iC, bC, sC, hkl, hkn, hlt, hki, hkk, c1])
                    | ((with_reducible refine hother _ _ rfl ?_); simp only [inBlockA, thenA, noGotoA, Nat.reduceEqDiff, if_false, if_true, ↓reduceIte])
                    | ((with_reducible refine hother2 _ _ rfl ?_); simp only [inBlockA, thenA, noGotoA, Nat.reduceEqDiff, if_false, if_true, ↓reduceIte])
                    | ((with_reducible refine hother3 _ _ rfl ?_); simp only [inBlockA, thenA, noGotoA, Nat.reduceEqDiff, if_false, if_true, ↓reduceIte])
                    | (with_reducible refine And.intro (by omega) ?_)
                    | (with_reducible change postOf _ _ _ _ _; simp [-List.reduceReplicate, Nat.add_one_le_iff, -getElem?_pos, -getElem?_neg, List.getElem?_cons_zero, List.getElem?_cons_succ, iC, bC, sC, hkl, hkn, hlt, hki, hkk, c1])
                    | fail)
                · repeat' (first 
                    | with_reducible refine awp_scope ?_
                    | with_reducible refine awp_seq ?_
                    | with_reducible refine awp_block ?_
                    | (with_reducible refine awp_label ?_; try simp only [thenA, inBlockA, noGotoA])
                    | (with_reducible refine awp_skip ?_; try simp only [thenA, inBlockA, noGotoA])
                    | (with_reducible refine awp_exit ?_; simp only [thenA, inBlockA, noGotoA, if_true, Nat.reduceEqDiff, if_false, ↓reduceIte])
                    | (with_reducible refine awp_ret ?_; (try simp only [thenA, inBlockA, noGotoA]); (try simp [-List.reduceReplicate, Nat.add_one_le_iff, -getElem?_pos, -getElem?_neg, List.getElem?_cons_zero, List.getElem?_cons_succ, iC, bC, sC, hkl, hkn, hlt, hki, hkk, c1, hwk]))
                    | (with_reducible refine awp_reg 203 hX [0, 1, 2, 6, 7, 8, 9, 10, 11, 12, 13, 14, 15, 16, 17, 18, 19, 20, 44, 49, 54, 65, 74, 82, 92, 126, 142] ?_; simp [-List.reduceReplicate, Nat.add_one_le_iff, -getElem?_pos, -getElem?_neg, List.getElem?_cons_zero, List.getElem?_cons_succ, iC, bC, sC, hkl, hkn, hlt, hki, hkk, c1, hwk])
                    | (with_reducible refine awp_drw (id := 9) 203 hX [0, 1, 2, 6, 7, 8, 9, 10, 11, 12, 13, 14, 15, 16, 17, 18, 19, 20, 44, 49, 54, 65, 74, 82, 92, 126, 142] Tab.mixed (by kernel_rfl) ?_; simp [-List.reduceReplicate, Nat.add_one_le_iff, -getElem?_pos, -getElem?_neg, List.getElem?_cons_zero, List.getElem?_cons_succ, iC, bC, sC, hkl, hkn, hlt, hki, hkk, c1, hwk])
                    | (with_reducible refine awp_drw (id := 21) 203 hX [0, 1, 2, 6, 7, 8, 9, 10, 11, 12, 13, 14, 15, 16, 17, 18, 19, 20, 44, 49, 54, 65, 74, 82, 92, 126, 142] Tab.mixed (by kernel_rfl) ?_; simp [-List.reduceReplicate, Nat.add_one_le_iff, -getElem?_pos, -getElem?_neg, List.getElem?_cons_zero, List.getElem?_cons_succ, iC, bC, sC, hkl, hkn, hlt, hki, hkk, c1, hwk])
                    | (with_reducible refine awp_drw (id := 33) 203 hX [0, 1, 2, 6, 7, 8, 9, 10, 11, 12, 13, 14, 15, 16, 17, 18, 19, 20, 44, 49, 54, 65, 74, 82, 92, 126, 142] Tab.mixed (by kernel_rfl) ?_; simp [-List.reduceReplicate, Nat.add_one_le_iff, -getElem?_pos, -getElem?_neg, List.getElem?_cons_zero, List.getElem?_cons_succ, iC, bC, sC, hkl, hkn, hlt, hki, hkk, c1, hwk])
                    | (with_reducible refine awp_drw (id := 36) 203 hX [0, 1, 2, 6, 7, 8, 9, 10, 11, 12, 13, 14, 15, 16, 17, 18, 19, 20, 44, 49, 54, 65, 74, 82, 92, 126, 142] Tab.mixed (by kernel_rfl) ?_; simp [-List.reduceReplicate, Nat.add_one_le_iff, -getElem?_pos, -getElem?_neg, List.getElem?_cons_zero, List.getElem?_cons_succ, iC, bC, sC, hkl, hkn, hlt, hki, hkk, c1, hwk])
                    | (with_reducible refine awp_if_b rfl (fun hc => ?_) (fun hc => ?_) <;> (try simp [-getElem?_pos, -getElem?_neg] at hc) <;> (try (exfalso; omega)))
                    | (with_reducible refine GuardK_b (fun hc => ?_) (fun hc => ?_) <;> (try simp only [Bool.not_eq_true', Bool.not_eq_false', decide_eq_true_eq, decide_eq_false_iff_not] at hc) <;> (first | (exfalso; omega) | skip) <;> simp [-List.reduceReplicate, Nat.add_one_le_iff, -getElem?_pos, -getElem?_neg, List.getElem?_cons_zero, List.getElem?_cons_succ, iC, bC, sC, hkl, hkn, hlt, hki, hkk, c1, hwk, hc])
                    | (with_reducible refine DGuard_b _ _ _ _ _ _ _ _ _ _ (fun hc => ?_) (fun hc => ?_) <;> (try simp only [Bool.not_eq_true', Bool.not_eq_false', decide_eq_true_eq, decide_eq_false_iff_not] at hc) <;> (first | (exfalso; omega) | skip) <;> simp [-List.reduceReplicate, Nat.add_one_le_iff, -getElem?_pos, -getElem?_neg, List.getElem?_cons_zero, List.getElem?_cons_succ, iC, bC, sC, hkl, hkn, hlt, hki, hkk, c1, hwk, hc])
                    | (with_reducible refine DEv_cut _ _ _ _ _ _ _ _ _ _ _ _ (by kernel_rfl) ?_; simp [-List.reduceReplicate, Nat.add_one_le_iff, -getElem?_pos, -getElem?_neg, List.getElem?_cons_zero, List.getElem?_cons_succ, iC, bC, sC, hkl, hkn, hlt, hki, hkk, c1, hwk])
                    | ((with_reducible refine hother _ _ rfl ?_); simp only [inBlockA, thenA, noGotoA, Nat.reduceEqDiff, if_false, if_true, ↓reduceIte])
                    | ((with_reducible refine hother2 _ _ rfl ?_); simp only [inBlockA, thenA, noGotoA, Nat.reduceEqDiff, if_false, if_true, ↓reduceIte])
                    | ((with_reducible refine hother3 _ _ rfl ?_); simp only [inBlockA, thenA, noGotoA, Nat.reduceEqDiff, if_false, if_true, ↓reduceIte])
                    | (with_reducible refine And.intro (by omega) ?_)
                    | (with_reducible change postOf _ _ _ _ _; simp [-List.reduceReplicate, Nat.add_one_le_iff, -getElem?_pos, -getElem?_neg, List.getElem?_cons_zero, List.getElem?_cons_succ, iC, bC, sC, hkl, hkn, hlt, hki, hkk, c1, hwk])
                    | fail)
                  have nx : ∀ b, b < k + 1 → keyN keys i ≠ keyN keys b := fun b hb => by
                    by_cases e : b = k
                    · subst e; rw [e1, e2]; exact fun h => c1 (by rw [h])
                    · exact hH b (by omega)
                  refine next _ _ (()) (by omega) (by first | trivial | omega | assumption) (by simp [-List.reduceReplicate, keep, iC]) (by simp [-List.reduceReplicate, iC])
              · have hk2 : k = i := by omega
                subst hk2
                by_cases c1 : r.length = n
                · have nx : (∀ a b, b < a → a < k + 1 → keyN keys a ≠ keyN keys b) ∧ (∀ a r, a < k + 1 → v[a]? = some r → r.length = n) := by
                    refine ⟨fun a b h1 h2 => ?_, fun a r' h1 h2 => ?_⟩
                    · by_cases e : a = k
                      · subst e; exact hH b h1
                      · exact hd1 a b h1 (by omega)
                    · by_cases e : a = k
                      · subst e; rw [hr] at h2; cases h2; exact c1
                      · exact hd2 a r' (by omega) h2
                  repeat' (first 
                    | with_reducible refine awp_scope ?_
                    | with_reducible refine awp_seq ?_
                    | with_reducible refine awp_block ?_
                    | (with_reducible refine awp_label ?_; try simp only [thenA, inBlockA, noGotoA])
                    | (with_reducible refine awp_skip ?_; try simp only [thenA, inBlockA, noGotoA])
                    | (with_reducible refine awp_exit ?_; simp only [thenA, inBlockA, noGotoA, if_true, Nat.reduceEqDiff, if_false, ↓reduceIte])
                    | (with_reducible refine awp_ret ?_; (try simp only [thenA, inBlockA, noGotoA]); (try simp [-List.reduceReplicate, Nat.add_one_le_iff, -getElem?_pos, -getElem?_neg, List.getElem?_cons_zero, List.getElem?_cons_succ, intsC, iC, bC, hkl, hlt, hr, c1, hwi]))
                    | (with_reducible refine awp_reg 203 hX [0, 1, 2, 6, 7, 8, 9, 10, 11, 12, 13, 14, 15, 16, 17, 18, 19, 20, 44, 49, 54, 65, 74, 82, 92, 126, 142] ?_; simp [-List.reduceReplicate, Nat.add_one_le_iff, -getElem?_pos, -getElem?_neg, List.getElem?_cons_zero, List.getElem?_cons_succ, intsC, iC, bC, hkl, hlt, hr, c1, hwi])
                    | (with_reducible refine awp_drw (id := 9) 203 hX [0, 1, 2, 6, 7, 8, 9, 10, 11, 12, 13, 14, 15, 16, 17, 18, 19, 20, 44, 49, 54, 65, 74, 82, 92, 126, 142] Tab.mixed (by kernel_rfl) ?_; simp [-List.reduceReplicate, Nat.add_one_le_iff, -getElem?_pos, -getElem?_neg, List.getElem?_cons_zero, List.getElem?_cons_succ, intsC, iC, bC, hkl, hlt, hr, c1, hwi])
                    | (with_reducible refine awp_drw (id := 21) 203 hX [0, 1, 2, 6, 7, 8, 9, 10, 11, 12, 13, 14, 15, 16, 17, 18, 19, 20, 44, 49, 54, 65, 74, 82, 92, 126, 142] Tab.mixed (by kernel_rfl) ?_; simp [-List.reduceReplicate, Nat.add_one_le_iff, -getElem?_pos, -getElem?_neg, List.getElem?_cons_zero, List.getElem?_cons_succ, intsC, iC, bC, hkl, hlt, hr, c1, hwi])
                    | (with_reducible refine awp_drw (id := 33) 203 hX [0, 1, 2, 6, 7, 8, 9, 10, 11, 12, 13, 14, 15, 16, 17, 18, 19, 20, 44, 49, 54, 65, 74, 82, 92, 126, 142] Tab.mixed (by kernel_rfl) ?_; simp [-List.reduceReplicate, Nat.add_one_le_iff, -getElem?_pos, -getElem?_neg, List.getElem?_cons_zero, List.getElem?_cons_succ, intsC, iC, bC, hkl, hlt, hr, c1, hwi])
                    | (with_reducible refine awp_drw (id := 36) 203 hX [0, 1, 2, 6, 7, 8, 9, 10, 11, 12, 13, 14, 15, 16, 17, 18, 19, 20, 44, 49, 54, 65, 74, 82, 92, 126, 142] Tab.mixed (by kernel_rfl) ?_; simp [-List.reduceReplicate, Nat.add_one_le_iff, -getElem?_pos, -getElem?_neg, List.getElem?_cons_zero, List.getElem?_cons_succ, intsC, iC, bC, hkl, hlt, hr, c1, hwi])
                    | (with_reducible refine awp_if_b rfl (fun hc => ?_) (fun hc => ?_) <;> (try simp [-getElem?_pos, -getElem?_neg] at hc) <;> (try (exfalso; omega)))
                    | (with_reducible refine GuardK_b (fun hc => ?_) (fun hc => ?_) <;> (try simp only [Bool.not_eq_true', Bool.not_eq_false', decide_eq_true_eq, decide_eq_false_iff_not] at hc) <;> (first | (exfalso; omega) | skip) <;> simp [-List.reduceReplicate, Nat.add_one_le_iff, -getElem?_pos, -getElem?_neg, List.getElem?_cons_zero, List.getElem?_cons_succ, intsC, iC, bC, hkl, hlt, hr, c1, hwi, hc])
                    | (with_reducible refine DGuard_b _ _ _ _ _ _ _ _ _ _ (fun hc => ?_) (fun hc => ?_) <;> (try simp only [Bool.not_eq_true', Bool.not_eq_false', decide_eq_true_eq, decide_eq_false_iff_not] at hc) <;> (first | (exfalso; omega) | skip) <;> simp [-List.reduceReplicate, Nat.add_one_le_iff, -getElem?_pos, -getElem?_neg, List.getElem?_cons_zero, List.getElem?_cons_succ, intsC, iC, bC, hkl, hlt, hr, c1, hwi, hc])
                    | (with_reducible refine DEv_cut _ _ _ _ _ _ _ _ _ _ _ _ (by kernel_rfl) ?_; simp [-List.reduceReplicate, Nat.add_one_le_iff, -getElem?_pos, -getElem?_neg, List.getElem?_cons_zero, List.getElem?_cons_succ, intsC, iC, bC, hkl, hlt, hr, c1, hwi])
                    | ((with_reducible refine hother _ _ rfl ?_); simp only [inBlockA, thenA, noGotoA, Nat.reduceEqDiff, if_false, if_true, ↓reduceIte])
                    | ((with_reducible refine hother2 _ _ rfl ?_); simp only [inBlockA, thenA, noGotoA, Nat.reduceEqDiff, if_false, if_true, ↓reduceIte])
                    | ((with_reducible refine hother3 _ _ rfl ?_); simp only [inBlockA, thenA, noGotoA, Nat.reduceEqDiff, if_false, if_true, ↓reduceIte])
                    | (with_reducible refine And.intro (by omega) ?_)
                    | (with_reducible change postOf _ _ _ _ _; simp [-List.reduceReplicate, Nat.add_one_le_iff, -getElem?_pos, -getElem?_neg, List.getElem?_cons_zero, List.getElem?_cons_succ, intsC, iC, bC, hkl, hlt, hr, c1, hwi])
                    | fail)
                  refine next1 _ _ (()) (by omega) (by first | trivial | omega | assumption) (by simp [-List.reduceReplicate, keep, iC]) (by simp [-List.reduceReplicate, iC])
                · have c1' : ¬ (r.length : Int) = n := by omega
                  repeat' (first 
                    | with_reducible refine awp_scope ?_
                    | with_reducible refine awp_seq ?_
                    | with_reducible refine awp_block ?_
                    | (with_reducible refine awp_label ?_; try simp only [thenA, inBlockA, noGotoA])
                    | (with_reducible refine awp_skip ?_; try simp only [thenA, inBlockA, noGotoA])
                    | (with_reducible refine awp_exit ?_; simp only [thenA, inBlockA, noGotoA, if_true, Nat.reduceEqDiff, if_false, ↓reduceIte])
                    | (with_reducible refine awp_ret ?_; (try simp only [thenA, inBlockA, noGotoA]); (try simp [-List.reduceReplicate, Nat.add_one_le_iff, -getElem?_pos, -getElem?_neg, List.getElem?_cons_zero, List.getElem?_cons_succ, intsC, iC, bC, hkl, hlt, hr, c1, c1']))
                    | (with_reducible refine awp_reg 203 hX [0, 1, 2, 6, 7, 8, 9, 10, 11, 12, 13, 14, 15, 16, 17, 18, 19, 20, 44, 49, 54, 65, 74, 82, 92, 126, 142] ?_; simp [-List.reduceReplicate, Nat.add_one_le_iff, -getElem?_pos, -getElem?_neg, List.getElem?_cons_zero, List.getElem?_cons_succ, intsC, iC, bC, hkl, hlt, hr, c1, c1'])
                    | (with_reducible refine awp_drw (id := 9) 203 hX [0, 1, 2, 6, 7, 8, 9, 10, 11, 12, 13, 14, 15, 16, 17, 18, 19, 20, 44, 49, 54, 65, 74, 82, 92, 126, 142] Tab.mixed (by kernel_rfl) ?_; simp [-List.reduceReplicate, Nat.add_one_le_iff, -getElem?_pos, -getElem?_neg, List.getElem?_cons_zero, List.getElem?_cons_succ, intsC, iC, bC, hkl, hlt, hr, c1, c1'])
                    | (with_reducible refine awp_drw (id := 21) 203 hX [0, 1, 2, 6, 7, 8, 9, 10, 11, 12, 13, 14, 15, 16, 17, 18, 19, 20, 44, 49, 54, 65, 74, 82, 92, 126, 142] Tab.mixed (by kernel_rfl) ?_; simp [-List.reduceReplicate, Nat.add_one_le_iff, -getElem?_pos, -getElem?_neg, List.getElem?_cons_zero, List.getElem?_cons_succ, intsC, iC, bC, hkl, hlt, hr, c1, c1'])
                    | (with_reducible refine awp_drw (id := 33) 203 hX [0, 1, 2, 6, 7, 8, 9, 10, 11, 12, 13, 14, 15, 16, 17, 18, 19, 20, 44, 49, 54, 65, 74, 82, 92, 126, 142] Tab.mixed (by kernel_rfl) ?_; simp [-List.reduceReplicate, Nat.add_one_le_iff, -getElem?_pos, -getElem?_neg, List.getElem?_cons_zero, List.getElem?_cons_succ, intsC, iC, bC, hkl, hlt, hr, c1, c1'])
                    | (with_reducible refine awp_drw (id := 36) 203 hX [0, 1, 2, 6, 7, 8, 9, 10, 11, 12, 13, 14, 15, 16, 17, 18, 19, 20, 44, 49, 54, 65, 74, 82, 92, 126, 142] Tab.mixed (by kernel_rfl) ?_; simp [-List.reduceReplicate, Nat.add_one_le_iff, -getElem?_pos, -getElem?_neg, List.getElem?_cons_zero, List.getElem?_cons_succ, intsC, iC, bC, hkl, hlt, hr, c1, c1'])
                    | (refine (aw _).det ?_; try simp [-List.reduceReplicate, Nat.add_one_le_iff, -getElem?_pos, -getElem?_neg, List.getElem?_cons_zero, List.getElem?_cons_succ, intsC, iC, bC, hkl, hlt, hr, c1, c1'])
                    | (refine ⟨_, _, aw _, fun _ => rfl, ?_⟩; try simp [-List.reduceReplicate, Nat.add_one_le_iff, -getElem?_pos, -getElem?_neg, List.getElem?_cons_zero, List.getElem?_cons_succ, intsC, iC, bC, hkl, hlt, hr, c1, c1'])
                    | (with_reducible refine awp_if_b rfl (fun hc => ?_) (fun hc => ?_) <;> (try simp [-getElem?_pos, -getElem?_neg] at hc) <;> (try (exfalso; omega)))
                    | (with_reducible refine GuardK_b (fun hc => ?_) (fun hc => ?_) <;> (try simp only [Bool.not_eq_true', Bool.not_eq_false', decide_eq_true_eq, decide_eq_false_iff_not] at hc) <;> (first | (exfalso; omega) | skip) <;> simp [-List.reduceReplicate, Nat.add_one_le_iff, -getElem?_pos, -getElem?_neg, List.getElem?_cons_zero, List.getElem?_cons_succ, intsC, iC, bC, hkl, hlt, hr, c1, c1', hc])
                    | (with_reducible refine DGuard_b _ _ _ _ _ _ _ _ _ _ (fun hc => ?_) (fun hc => ?_) <;> (try simp only [Bool.not_eq_true', Bool.not_eq_false', decide_eq_true_eq, decide_eq_false_iff_not] at hc) <;> (first | (exfalso; omega) | skip) <;> simp [-List.reduceReplicate, Nat.add_one_le_iff, -getElem?_pos, -getElem?_neg, List.getElem?_cons_zero, List.getElem?_cons_succ, intsC, iC, bC, hkl, hlt, hr, c1, c1', hc])
                    | (with_reducible refine DEv_cut _ _ _ _ _ _ _ _ _ _ _ _ (by kernel_rfl) ?_; simp [-List.reduceReplicate, Nat.add_one_le_iff, -getElem?_pos, -getElem?_neg, List.getElem?_cons_zero, List.getElem?_cons_succ, intsC, iC, bC, hkl, hlt, hr, c1, c1'])
                    | ((with_reducible refine hother _ _ rfl ?_); simp only [inBlockA, thenA, noGotoA, Nat.reduceEqDiff, if_false, if_true, ↓reduceIte])
                    | ((with_reducible refine hother2 _ _ rfl ?_); simp only [inBlockA, thenA, noGotoA, Nat.reduceEqDiff, if_false, if_true, ↓reduceIte])
                    | ((with_reducible refine hother3 _ _ rfl ?_); simp only [inBlockA, thenA, noGotoA, Nat.reduceEqDiff, if_false, if_true, ↓reduceIte])
                    | (with_reducible refine And.intro (by omega) ?_)
                    | (with_reducible change postOf _ _ _ _ _; simp [-List.reduceReplicate, Nat.add_one_le_iff, -getElem?_pos, -getElem?_neg, List.getElem?_cons_zero, List.getElem?_cons_succ, intsC, iC, bC, hkl, hlt, hr, c1, c1'])
                    | fail)
            · have hi2 : i = n := by omega
              subst hi2
              have hexit := hother; clear next hother
              repeat' (first 
                | with_reducible refine awp_scope ?_
                | with_reducible refine awp_seq ?_
                | with_reducible refine awp_block ?_
                | (with_reducible refine awp_label ?_; try simp only [thenA, inBlockA, noGotoA])
                | (with_reducible refine awp_skip ?_; try simp only [thenA, inBlockA, noGotoA])
                | (with_reducible refine awp_exit ?_; simp only [thenA, inBlockA, noGotoA, if_true, Nat.reduceEqDiff, if_false, ↓reduceIte])
                | (with_reducible refine awp_ret ?_; (try simp only [thenA, inBlockA, noGotoA]); (try simp [-List.reduceReplicate, Nat.add_one_le_iff, -getElem?_pos, -getElem?_neg, List.getElem?_cons_zero, List.getElem?_cons_succ, iC, hlt]))
                | (with_reducible refine awp_reg 203 hX [0, 1, 2, 6, 7, 8, 9, 10, 11, 12, 13, 14, 15, 16, 17, 18, 19, 20, 44, 49, 54, 65, 74, 82, 92, 126, 142] ?_; simp [-List.reduceReplicate, Nat.add_one_le_iff, -getElem?_pos, -getElem?_neg, List.getElem?_cons_zero, List.getElem?_cons_succ, iC, hlt])
                | (with_reducible refine awp_drw (id := 9) 203 hX [0, 1, 2, 6, 7, 8, 9, 10, 11, 12, 13, 14, 15, 16, 17, 18, 19, 20, 44, 49, 54, 65, 74, 82, 92, 126, 142] Tab.mixed (by kernel_rfl) ?_; simp [-List.reduceReplicate, Nat.add_one_le_iff, -getElem?_pos, -getElem?_neg, List.getElem?_cons_zero, List.getElem?_cons_succ, iC, hlt])
                | (with_reducible refine awp_drw (id := 21) 203 hX [0, 1, 2, 6, 7, 8, 9, 10, 11, 12, 13, 14, 15, 16, 17, 18, 19, 20, 44, 49, 54, 65, 74, 82, 92, 126, 142] Tab.mixed (by kernel_rfl) ?_; simp [-List.reduceReplicate, Nat.add_one_le_iff, -getElem?_pos, -getElem?_neg, List.getElem?_cons_zero, List.getElem?_cons_succ, iC, hlt])
                | (with_reducible refine awp_drw (id := 33) 203 hX [0, 1, 2, 6, 7, 8, 9, 10, 11, 12, 13, 14, 15, 16, 17, 18, 19, 20, 44, 49, 54, 65, 74, 82, 92, 126, 142] Tab.mixed (by kernel_rfl) ?_; simp [-List.reduceReplicate, Nat.add_one_le_iff, -getElem?_pos, -getElem?_neg, List.getElem?_cons_zero, List.getElem?_cons_succ, iC, hlt])
                | (with_reducible refine awp_drw (id := 36) 203 hX [0, 1, 2, 6, 7, 8, 9, 10, 11, 12, 13, 14, 15, 16, 17, 18, 19, 20, 44, 49, 54, 65, 74, 82, 92, 126, 142] Tab.mixed (by kernel_rfl) ?_; simp [-List.reduceReplicate, Nat.add_one_le_iff, -getElem?_pos, -getElem?_neg, List.getElem?_cons_zero, List.getElem?_cons_succ, iC, hlt])
                | (with_reducible refine awp_if_b rfl (fun hc => ?_) (fun hc => ?_) <;> (try simp [-getElem?_pos, -getElem?_neg] at hc) <;> (try (exfalso; omega)))
                | (with_reducible refine GuardK_b (fun hc => ?_) (fun hc => ?_) <;> (try simp only [Bool.not_eq_true', Bool.not_eq_false', decide_eq_true_eq, decide_eq_false_iff_not] at hc) <;> (first | (exfalso; omega) | skip) <;> simp [-List.reduceReplicate, Nat.add_one_le_iff, -getElem?_pos, -getElem?_neg, List.getElem?_cons_zero, List.getElem?_cons_succ, iC, hlt, hc])
                | (with_reducible refine DGuard_b _ _ _ _ _ _ _ _ _ _ (fun hc => ?_) (fun hc => ?_) <;> (try simp only [Bool.not_eq_true', Bool.not_eq_false', decide_eq_true_eq, decide_eq_false_iff_not] at hc) <;> (first | (exfalso; omega) | skip) <;> simp [-List.reduceReplicate, Nat.add_one_le_iff, -getElem?_pos, -getElem?_neg, List.getElem?_cons_zero, List.getElem?_cons_succ, iC, hlt, hc])
                | (with_reducible refine DEv_cut _ _ _ _ _ _ _ _ _ _ _ _ (by kernel_rfl) ?_; simp [-List.reduceReplicate, Nat.add_one_le_iff, -getElem?_pos, -getElem?_neg, List.getElem?_cons_zero, List.getElem?_cons_succ, iC, hlt])
                | ((with_reducible refine hother _ _ rfl ?_); simp only [inBlockA, thenA, noGotoA, Nat.reduceEqDiff, if_false, if_true, ↓reduceIte])
                | ((with_reducible refine hother2 _ _ rfl ?_); simp only [inBlockA, thenA, noGotoA, Nat.reduceEqDiff, if_false, if_true, ↓reduceIte])
                | ((with_reducible refine hother3 _ _ rfl ?_); simp only [inBlockA, thenA, noGotoA, Nat.reduceEqDiff, if_false, if_true, ↓reduceIte])
                | (with_reducible refine And.intro (by omega) ?_)
                | (with_reducible change postOf _ _ _ _ _; simp [-List.reduceReplicate, Nat.add_one_le_iff, -getElem?_pos, -getElem?_neg, List.getElem?_cons_zero, List.getElem?_cons_succ, iC, hlt])
                | fail)
              refine hexit _ _ rfl ?_
              simp only [inBlockA, thenA, ↓reduceIte]
              clear hexit
              repeat' (first 
                | with_reducible refine awp_scope ?_
                | with_reducible refine awp_seq ?_
                | with_reducible refine awp_block ?_
                | (with_reducible refine awp_label ?_; try simp only [thenA, inBlockA, noGotoA])
                | (with_reducible refine awp_skip ?_; try simp only [thenA, inBlockA, noGotoA])
                | (with_reducible refine awp_exit ?_; simp only [thenA, inBlockA, noGotoA, if_true, Nat.reduceEqDiff, if_false, ↓reduceIte])
                | (with_reducible refine awp_ret ?_; (try simp only [thenA, inBlockA, noGotoA]); (try simp [-List.reduceReplicate, Nat.add_one_le_iff, -getElem?_pos, -getElem?_neg, List.getElem?_cons_zero, List.getElem?_cons_succ, iC]))
                | (with_reducible refine awp_reg 203 hX [0, 1, 2, 6, 7, 8, 9, 10, 11, 12, 13, 14, 15, 16, 17, 18, 19, 20, 44, 49, 54, 65, 74, 82, 92, 126, 142] ?_; simp [-List.reduceReplicate, Nat.add_one_le_iff, -getElem?_pos, -getElem?_neg, List.getElem?_cons_zero, List.getElem?_cons_succ, iC])
                | (with_reducible refine awp_drw (id := 9) 203 hX [0, 1, 2, 6, 7, 8, 9, 10, 11, 12, 13, 14, 15, 16, 17, 18, 19, 20, 44, 49, 54, 65, 74, 82, 92, 126, 142] Tab.mixed (by kernel_rfl) ?_; simp [-List.reduceReplicate, Nat.add_one_le_iff, -getElem?_pos, -getElem?_neg, List.getElem?_cons_zero, List.getElem?_cons_succ, iC])
                | (with_reducible refine awp_drw (id := 21) 203 hX [0, 1, 2, 6, 7, 8, 9, 10, 11, 12, 13, 14, 15, 16, 17, 18, 19, 20, 44, 49, 54, 65, 74, 82, 92, 126, 142] Tab.mixed (by kernel_rfl) ?_; simp [-List.reduceReplicate, Nat.add_one_le_iff, -getElem?_pos, -getElem?_neg, List.getElem?_cons_zero, List.getElem?_cons_succ, iC])
                | (with_reducible refine awp_drw (id := 33) 203 hX [0, 1, 2, 6, 7, 8, 9, 10, 11, 12, 13, 14, 15, 16, 17, 18, 19, 20, 44, 49, 54, 65, 74, 82, 92, 126, 142] Tab.mixed (by kernel_rfl) ?_; simp [-List.reduceReplicate, Nat.add_one_le_iff, -getElem?_pos, -getElem?_neg, List.getElem?_cons_zero, List.getElem?_cons_succ, iC])
                | (with_reducible refine awp_drw (id := 36) 203 hX [0, 1, 2, 6, 7, 8, 9, 10, 11, 12, 13, 14, 15, 16, 17, 18, 19, 20, 44, 49, 54, 65, 74, 82, 92, 126, 142] Tab.mixed (by kernel_rfl) ?_; simp [-List.reduceReplicate, Nat.add_one_le_iff, -getElem?_pos, -getElem?_neg, List.getElem?_cons_zero, List.getElem?_cons_succ, iC])
                | (with_reducible refine awp_if_b rfl (fun hc => ?_) (fun hc => ?_) <;> (try simp [-getElem?_pos, -getElem?_neg] at hc) <;> (try (exfalso; omega)))
                | (with_reducible refine GuardK_b (fun hc => ?_) (fun hc => ?_) <;> (try simp only [Bool.not_eq_true', Bool.not_eq_false', decide_eq_true_eq, decide_eq_false_iff_not] at hc) <;> (first | (exfalso; omega) | skip) <;> simp [-List.reduceReplicate, Nat.add_one_le_iff, -getElem?_pos, -getElem?_neg, List.getElem?_cons_zero, List.getElem?_cons_succ, iC, hc])
                | (with_reducible refine DGuard_b _ _ _ _ _ _ _ _ _ _ (fun hc => ?_) (fun hc => ?_) <;> (try simp only [Bool.not_eq_true', Bool.not_eq_false', decide_eq_true_eq, decide_eq_false_iff_not] at hc) <;> (first | (exfalso; omega) | skip) <;> simp [-List.reduceReplicate, Nat.add_one_le_iff, -getElem?_pos, -getElem?_neg, List.getElem?_cons_zero, List.getElem?_cons_succ, iC, hc])
                | (with_reducible refine DEv_cut _ _ _ _ _ _ _ _ _ _ _ _ (by kernel_rfl) ?_; simp [-List.reduceReplicate, Nat.add_one_le_iff, -getElem?_pos, -getElem?_neg, List.getElem?_cons_zero, List.getElem?_cons_succ, iC])
                | ((with_reducible refine hother _ _ rfl ?_); simp only [inBlockA, thenA, noGotoA, Nat.reduceEqDiff, if_false, if_true, ↓reduceIte])
                | ((with_reducible refine hother2 _ _ rfl ?_); simp only [inBlockA, thenA, noGotoA, Nat.reduceEqDiff, if_false, if_true, ↓reduceIte])
                | ((with_reducible refine hother3 _ _ rfl ?_); simp only [inBlockA, thenA, noGotoA, Nat.reduceEqDiff, if_false, if_true, ↓reduceIte])
                | (with_reducible refine And.intro (by omega) ?_)
                | (with_reducible change postOf _ _ _ _ _; simp [-List.reduceReplicate, Nat.add_one_le_iff, -getElem?_pos, -getElem?_neg, List.getElem?_cons_zero, List.getElem?_cons_succ, iC])
                | fail)
              obtain ⟨F, hF0, hFi, hFn, hFs⟩ : ∃ F : Nat → List C, F 0 = List.replicate i (C.v (Value.int .i64 0)) ∧ F i = natsC (List.range i) ∧ (∀ k, k ≤ i → (F k).length = i) ∧ (∀ k, k < i → (F k).set k (iC k) = F (k + 1)) := by
                refine ⟨fun k => (natsC (List.range i)).take k ++ List.replicate (i - k) (C.v (Value.int .i64 0)), by simp, ?_, fun k h => len_fill _ _ _ _ h (by simp [natsC]), fun k h => set_fill _ _ _ _ _ h (by simp [natsC]) (by simp [natsC, h])⟩
                simp [natsC, List.take_of_length_le]
              rw [← hF0]
              refine awp_forU [0, 1, 2, 9, 10] (fun k (_u : Unit) => [(10, .c (iC k))]) (fun k (_u : Unit) => [⟨3, 1, false, 0, up (F k), none⟩]) (fun k (_u : Unit) => True) (i) (()) (by first | trivial | (simp; done) | omega | (intros; simp at *; done)) (by simp [-List.reduceReplicate, keep, iC]) (by simp [-List.reduceReplicate, iC]) ?_
              rintro k _u Q1 hi hH next hother
              conv => arg 5; arg 1; simp only [List.cons_append, List.nil_append, keep, get, Nat.reduceEqDiff, if_true, if_false, ↓reduceIte]
              have hwk := wrap_in ((k : Int) + 1) (by omega)
              by_cases hkl : k < i
              · have f1 := hFn k (by omega)
                have f2 := hFs k hkl
                unfold iC at f2
                have f3 : (up (F k)).set k (M.c (C.v (Value.int .i64 k))) = up (F (k + 1)) := by rw [← f2]; simp [up, List.map_set]
                repeat' (first 
                  | with_reducible refine awp_scope ?_
                  | with_reducible refine awp_seq ?_
                  | with_reducible refine awp_block ?_
                  | (with_reducible refine awp_label ?_; try simp only [thenA, inBlockA, noGotoA])
                  | (with_reducible refine awp_skip ?_; try simp only [thenA, inBlockA, noGotoA])
                  | (with_reducible refine awp_exit ?_; simp only [thenA, inBlockA, noGotoA, if_true, Nat.reduceEqDiff, if_false, ↓reduceIte])
                  | (with_reducible refine awp_ret ?_; (try simp only [thenA, inBlockA, noGotoA]); (try simp [-List.reduceReplicate, Nat.add_one_le_iff, -getElem?_pos, -getElem?_neg, List.getElem?_cons_zero, List.getElem?_cons_succ, iC, hkl, f1, f3, hwk]))
                  | (with_reducible refine awp_reg 203 hX [0, 1, 2, 6, 7, 8, 9, 10, 11, 12, 13, 14, 15, 16, 17, 18, 19, 20, 44, 49, 54, 65, 74, 82, 92, 126, 142] ?_; simp [-List.reduceReplicate, Nat.add_one_le_iff, -getElem?_pos, -getElem?_neg, List.getElem?_cons_zero, List.getElem?_cons_succ, iC, hkl, f1, f3, hwk])
                  | (with_reducible refine awp_drw (id := 9) 203 hX [0, 1, 2, 6, 7, 8, 9, 10, 11, 12, 13, 14, 15, 16, 17, 18, 19, 20, 44, 49, 54, 65, 74, 82, 92, 126, 142] Tab.mixed (by kernel_rfl) ?_; simp [-List.reduceReplicate, Nat.add_one_le_iff, -getElem?_pos, -getElem?_neg, List.getElem?_cons_zero, List.getElem?_cons_succ, iC, hkl, f1, f3, hwk])
                  | (with_reducible refine awp_drw (id := 21) 203 hX [0, 1, 2, 6, 7, 8, 9, 10, 11, 12, 13, 14, 15, 16, 17, 18, 19, 20, 44, 49, 54, 65, 74, 82, 92, 126, 142] Tab.mixed (by kernel_rfl) ?_; simp [-List.reduceReplicate, Nat.add_one_le_iff, -getElem?_pos, -getElem?_neg, List.getElem?_cons_zero, List.getElem?_cons_succ, iC, hkl, f1, f3, hwk])
                  | (with_reducible refine awp_drw (id := 33) 203 hX [0, 1, 2, 6, 7, 8, 9, 10, 11, 12, 13, 14, 15, 16, 17, 18, 19, 20, 44, 49, 54, 65, 74, 82, 92, 126, 142] Tab.mixed (by kernel_rfl) ?_; simp [-List.reduceReplicate, Nat.add_one_le_iff, -getElem?_pos, -getElem?_neg, List.getElem?_cons_zero, List.getElem?_cons_succ, iC, hkl, f1, f3, hwk])
                  | (with_reducible refine awp_drw (id := 36) 203 hX [0, 1, 2, 6, 7, 8, 9, 10, 11, 12, 13, 14, 15, 16, 17, 18, 19, 20, 44, 49, 54, 65, 74, 82, 92, 126, 142] Tab.mixed (by kernel_rfl) ?_; simp [-List.reduceReplicate, Nat.add_one_le_iff, -getElem?_pos, -getElem?_neg, List.getElem?_cons_zero, List.getElem?_cons_succ, iC, hkl, f1, f3, hwk])
                  | (with_reducible refine awp_if_b rfl (fun hc => ?_) (fun hc => ?_) <;> (try simp [-getElem?_pos, -getElem?_neg] at hc) <;> (try (exfalso; omega)))
                  | (with_reducible refine GuardK_b (fun hc => ?_) (fun hc => ?_) <;> (try simp only [Bool.not_eq_true', Bool.not_eq_false', decide_eq_true_eq, decide_eq_false_iff_not] at hc) <;> (first | (exfalso; omega) | skip) <;> simp [-List.reduceReplicate, Nat.add_one_le_iff, -getElem?_pos, -getElem?_neg, List.getElem?_cons_zero, List.getElem?_cons_succ, iC, hkl, f1, f3, hwk, hc])
                  | (with_reducible refine DGuard_b _ _ _ _ _ _ _ _ _ _ (fun hc => ?_) (fun hc => ?_) <;> (try simp only [Bool.not_eq_true', Bool.not_eq_false', decide_eq_true_eq, decide_eq_false_iff_not] at hc) <;> (first | (exfalso; omega) | skip) <;> simp [-List.reduceReplicate, Nat.add_one_le_iff, -getElem?_pos, -getElem?_neg, List.getElem?_cons_zero, List.getElem?_cons_succ, iC, hkl, f1, f3, hwk, hc])
                  | (with_reducible refine DEv_cut _ _ _ _ _ _ _ _ _ _ _ _ (by kernel_rfl) ?_; simp [-List.reduceReplicate, Nat.add_one_le_iff, -getElem?_pos, -getElem?_neg, List.getElem?_cons_zero, List.getElem?_cons_succ, iC, hkl, f1, f3, hwk])
                  | ((with_reducible refine hother _ _ rfl ?_); simp only [inBlockA, thenA, noGotoA, Nat.reduceEqDiff, if_false, if_true, ↓reduceIte])
                  | ((with_reducible refine hother2 _ _ rfl ?_); simp only [inBlockA, thenA, noGotoA, Nat.reduceEqDiff, if_false, if_true, ↓reduceIte])
                  | ((with_reducible refine hother3 _ _ rfl ?_); simp only [inBlockA, thenA, noGotoA, Nat.reduceEqDiff, if_false, if_true, ↓reduceIte])
                  | (with_reducible refine And.intro (by omega) ?_)
                  | (with_reducible change postOf _ _ _ _ _; simp [-List.reduceReplicate, Nat.add_one_le_iff, -getElem?_pos, -getElem?_neg, List.getElem?_cons_zero, List.getElem?_cons_succ, iC, hkl, f1, f3, hwk])
                  | fail)
                refine next _ _ (()) (by omega) (by first | trivial | omega | assumption) (by simp [-List.reduceReplicate, keep, iC]) (by simp [-List.reduceReplicate, iC])
              · have hk2 : k = i := by omega
                subst hk2
                have hexit := hother; clear next hother
                repeat' (first 
                  | with_reducible refine awp_scope ?_
                  | with_reducible refine awp_seq ?_
                  | with_reducible refine awp_block ?_
                  | (with_reducible refine awp_label ?_; try simp only [thenA, inBlockA, noGotoA])
                  | (with_reducible refine awp_skip ?_; try simp only [thenA, inBlockA, noGotoA])
                  | (with_reducible refine awp_exit ?_; simp only [thenA, inBlockA, noGotoA, if_true, Nat.reduceEqDiff, if_false, ↓reduceIte])
                  | (with_reducible refine awp_ret ?_; (try simp only [thenA, inBlockA, noGotoA]); (try simp [-List.reduceReplicate, Nat.add_one_le_iff, -getElem?_pos, -getElem?_neg, List.getElem?_cons_zero, List.getElem?_cons_succ, iC, hkl]))
                  | (with_reducible refine awp_reg 203 hX [0, 1, 2, 6, 7, 8, 9, 10, 11, 12, 13, 14, 15, 16, 17, 18, 19, 20, 44, 49, 54, 65, 74, 82, 92, 126, 142] ?_; simp [-List.reduceReplicate, Nat.add_one_le_iff, -getElem?_pos, -getElem?_neg, List.getElem?_cons_zero, List.getElem?_cons_succ, iC, hkl])
                  | (with_reducible refine awp_drw (id := 9) 203 hX [0, 1, 2, 6, 7, 8, 9, 10, 11, 12, 13, 14, 15, 16, 17, 18, 19, 20, 44, 49, 54, 65, 74, 82, 92, 126, 142] Tab.mixed (by kernel_rfl) ?_; simp [-List.reduceReplicate, Nat.add_one_le_iff, -getElem?_pos, -getElem?_neg, List.getElem?_cons_zero, List.getElem?_cons_succ, iC, hkl])
                  | (with_reducible refine awp_drw (id := 21) 203 hX [0, 1, 2, 6, 7, 8, 9, 10, 11, 12, 13, 14, 15, 16, 17, 18, 19, 20, 44, 49, 54, 65, 74, 82, 92, 126, 142] Tab.mixed (by kernel_rfl) ?_; simp [-List.reduceReplicate, Nat.add_one_le_iff, -getElem?_pos, -getElem?_neg, List.getElem?_cons_zero, List.getElem?_cons_succ, iC, hkl])
                  | (with_reducible refine awp_drw (id := 33) 203 hX [0, 1, 2, 6, 7, 8, 9, 10, 11, 12, 13, 14, 15, 16, 17, 18, 19, 20, 44, 49, 54, 65, 74, 82, 92, 126, 142] Tab.mixed (by kernel_rfl) ?_; simp [-List.reduceReplicate, Nat.add_one_le_iff, -getElem?_pos, -getElem?_neg, List.getElem?_cons_zero, List.getElem?_cons_succ, iC, hkl])
                  | (with_reducible refine awp_drw (id := 36) 203 hX [0, 1, 2, 6, 7, 8, 9, 10, 11, 12, 13, 14, 15, 16, 17, 18, 19, 20, 44, 49, 54, 65, 74, 82, 92, 126, 142] Tab.mixed (by kernel_rfl) ?_; simp [-List.reduceReplicate, Nat.add_one_le_iff, -getElem?_pos, -getElem?_neg, List.getElem?_cons_zero, List.getElem?_cons_succ, iC, hkl])
                  | (with_reducible refine awp_if_b rfl (fun hc => ?_) (fun hc => ?_) <;> (try simp [-getElem?_pos, -getElem?_neg] at hc) <;> (try (exfalso; omega)))
                  | (with_reducible refine GuardK_b (fun hc => ?_) (fun hc => ?_) <;> (try simp only [Bool.not_eq_true', Bool.not_eq_false', decide_eq_true_eq, decide_eq_false_iff_not] at hc) <;> (first | (exfalso; omega) | skip) <;> simp [-List.reduceReplicate, Nat.add_one_le_iff, -getElem?_pos, -getElem?_neg, List.getElem?_cons_zero, List.getElem?_cons_succ, iC, hkl, hc])
                  | (with_reducible refine DGuard_b _ _ _ _ _ _ _ _ _ _ (fun hc => ?_) (fun hc => ?_) <;> (try simp only [Bool.not_eq_true', Bool.not_eq_false', decide_eq_true_eq, decide_eq_false_iff_not] at hc) <;> (first | (exfalso; omega) | skip) <;> simp [-List.reduceReplicate, Nat.add_one_le_iff, -getElem?_pos, -getElem?_neg, List.getElem?_cons_zero, List.getElem?_cons_succ, iC, hkl, hc])
                  | (with_reducible refine DEv_cut _ _ _ _ _ _ _ _ _ _ _ _ (by kernel_rfl) ?_; simp [-List.reduceReplicate, Nat.add_one_le_iff, -getElem?_pos, -getElem?_neg, List.getElem?_cons_zero, List.getElem?_cons_succ, iC, hkl])
                  | ((with_reducible refine hother _ _ rfl ?_); simp only [inBlockA, thenA, noGotoA, Nat.reduceEqDiff, if_false, if_true, ↓reduceIte])
                  | ((with_reducible refine hother2 _ _ rfl ?_); simp only [inBlockA, thenA, noGotoA, Nat.reduceEqDiff, if_false, if_true, ↓reduceIte])
                  | ((with_reducible refine hother3 _ _ rfl ?_); simp only [inBlockA, thenA, noGotoA, Nat.reduceEqDiff, if_false, if_true, ↓reduceIte])
                  | (with_reducible refine And.intro (by omega) ?_)
                  | (with_reducible change postOf _ _ _ _ _; simp [-List.reduceReplicate, Nat.add_one_le_iff, -getElem?_pos, -getElem?_neg, List.getElem?_cons_zero, List.getElem?_cons_succ, iC, hkl])
                  | fail)
                refine hexit _ _ rfl ?_
                simp only [inBlockA, thenA, ↓reduceIte]
                clear hexit
                rw [hFi]
                clear hF0 hFi hFn hFs
                repeat' (first 
                  | with_reducible refine awp_scope ?_
                  | with_reducible refine awp_seq ?_
                  | with_reducible refine awp_block ?_
                  | (with_reducible refine awp_label ?_; try simp only [thenA, inBlockA, noGotoA])
                  | (with_reducible refine awp_skip ?_; try simp only [thenA, inBlockA, noGotoA])
                  | (with_reducible refine awp_exit ?_; simp only [thenA, inBlockA, noGotoA, if_true, Nat.reduceEqDiff, if_false, ↓reduceIte])
                  | (with_reducible refine awp_ret ?_; (try simp only [thenA, inBlockA, noGotoA]); (try simp [-List.reduceReplicate, Nat.add_one_le_iff, -getElem?_pos, -getElem?_neg, List.getElem?_cons_zero, List.getElem?_cons_succ, iC]))
                  | (with_reducible refine awp_reg 203 hX [0, 1, 2, 6, 7, 8, 9, 10, 11, 12, 13, 14, 15, 16, 17, 18, 19, 20, 44, 49, 54, 65, 74, 82, 92, 126, 142] ?_; simp [-List.reduceReplicate, Nat.add_one_le_iff, -getElem?_pos, -getElem?_neg, List.getElem?_cons_zero, List.getElem?_cons_succ, iC])
                  | (with_reducible refine awp_drw (id := 9) 203 hX [0, 1, 2, 6, 7, 8, 9, 10, 11, 12, 13, 14, 15, 16, 17, 18, 19, 20, 44, 49, 54, 65, 74, 82, 92, 126, 142] Tab.mixed (by kernel_rfl) ?_; simp [-List.reduceReplicate, Nat.add_one_le_iff, -getElem?_pos, -getElem?_neg, List.getElem?_cons_zero, List.getElem?_cons_succ, iC])
                  | (with_reducible refine awp_drw (id := 21) 203 hX [0, 1, 2, 6, 7, 8, 9, 10, 11, 12, 13, 14, 15, 16, 17, 18, 19, 20, 44, 49, 54, 65, 74, 82, 92, 126, 142] Tab.mixed (by kernel_rfl) ?_; simp [-List.reduceReplicate, Nat.add_one_le_iff, -getElem?_pos, -getElem?_neg, List.getElem?_cons_zero, List.getElem?_cons_succ, iC])
                  | (with_reducible refine awp_drw (id := 33) 203 hX [0, 1, 2, 6, 7, 8, 9, 10, 11, 12, 13, 14, 15, 16, 17, 18, 19, 20, 44, 49, 54, 65, 74, 82, 92, 126, 142] Tab.mixed (by kernel_rfl) ?_; simp [-List.reduceReplicate, Nat.add_one_le_iff, -getElem?_pos, -getElem?_neg, List.getElem?_cons_zero, List.getElem?_cons_succ, iC])
                  | (with_reducible refine awp_drw (id := 36) 203 hX [0, 1, 2, 6, 7, 8, 9, 10, 11, 12, 13, 14, 15, 16, 17, 18, 19, 20, 44, 49, 54, 65, 74, 82, 92, 126, 142] Tab.mixed (by kernel_rfl) ?_; simp [-List.reduceReplicate, Nat.add_one_le_iff, -getElem?_pos, -getElem?_neg, List.getElem?_cons_zero, List.getElem?_cons_succ, iC])
                  | (with_reducible refine awp_if_b rfl (fun hc => ?_) (fun hc => ?_) <;> (try simp [-getElem?_pos, -getElem?_neg] at hc) <;> (try (exfalso; omega)))
                  | (with_reducible refine GuardK_b (fun hc => ?_) (fun hc => ?_) <;> (try simp only [Bool.not_eq_true', Bool.not_eq_false', decide_eq_true_eq, decide_eq_false_iff_not] at hc) <;> (first | (exfalso; omega) | skip) <;> simp [-List.reduceReplicate, Nat.add_one_le_iff, -getElem?_pos, -getElem?_neg, List.getElem?_cons_zero, List.getElem?_cons_succ, iC, hc])
                  | (with_reducible refine DGuard_b _ _ _ _ _ _ _ _ _ _ (fun hc => ?_) (fun hc => ?_) <;> (try simp only [Bool.not_eq_true', Bool.not_eq_false', decide_eq_true_eq, decide_eq_false_iff_not] at hc) <;> (first | (exfalso; omega) | skip) <;> simp [-List.reduceReplicate, Nat.add_one_le_iff, -getElem?_pos, -getElem?_neg, List.getElem?_cons_zero, List.getElem?_cons_succ, iC, hc])
                  | (with_reducible refine DEv_cut _ _ _ _ _ _ _ _ _ _ _ _ (by kernel_rfl) ?_; simp [-List.reduceReplicate, Nat.add_one_le_iff, -getElem?_pos, -getElem?_neg, List.getElem?_cons_zero, List.getElem?_cons_succ, iC])
                  | ((with_reducible refine hother _ _ rfl ?_); simp only [inBlockA, thenA, noGotoA, Nat.reduceEqDiff, if_false, if_true, ↓reduceIte])
                  | ((with_reducible refine hother2 _ _ rfl ?_); simp only [inBlockA, thenA, noGotoA, Nat.reduceEqDiff, if_false, if_true, ↓reduceIte])
                  | ((with_reducible refine hother3 _ _ rfl ?_); simp only [inBlockA, thenA, noGotoA, Nat.reduceEqDiff, if_false, if_true, ↓reduceIte])
                  | (with_reducible refine And.intro (by omega) ?_)
                  | (with_reducible change postOf _ _ _ _ _; simp [-List.reduceReplicate, Nat.add_one_le_iff, -getElem?_pos, -getElem?_neg, List.getElem?_cons_zero, List.getElem?_cons_succ, iC])
                  | fail)
                refine awp_forU [0, 1, 2, 9, 11] (fun j (p : List Nat) => [(11, .c (iC j))]) (fun j (p : List Nat) => [⟨3, 1, false, 0, up (natsC p), none⟩]) (fun j (p : List Nat) => p.Perm (List.range k)) (sw.length) (List.range k) (.refl _) (by simp [-List.reduceReplicate, keep, iC]) (by simp [-List.reduceReplicate, iC]) ?_
                rintro j p Q1 hi hH next hother
                conv => arg 5; arg 1; simp only [List.cons_append, List.nil_append, keep, get, Nat.reduceEqDiff, if_true, if_false, ↓reduceIte]
                have hwj := wrap_in ((j : Int) + 1) (by omega)
                have hpl : p.length = k := by have := hH.length_eq; simpa using this
                by_cases hjl : j < sw.length
                · obtain ⟨s, hs⟩ := getI sw (j : Nat) (by omega) (by omega)
                  simp only [Int.toNat_natCast] at hs
                  have hnl : (natsC p).length = k := by simp [natsC, hpl]
                  have hk0 : ¬ k = 0 := by omega
                  obtain ⟨b, hb, eb⟩ := mod_lt s k (by omega) (by omega)
                  obtain ⟨a, ha, ea⟩ : ∃ a : Nat, a < k ∧ (j : Int).tmod (k : Int) = (a : Int) := ⟨j % k, Nat.mod_lt _ (by omega), by rw [Int.tmod_eq_emod_of_nonneg (by omega)]; simp⟩
                  have wk := wrapU64 (k : Int) (by omega)
                  obtain ⟨x, hx⟩ : ∃ x, p[a]? = some x := ⟨_, List.getElem?_eq_getElem (by omega)⟩
                  obtain ⟨y, hy⟩ : ∃ y, p[b]? = some y := ⟨_, List.getElem?_eq_getElem (by omega)⟩
                  have hx2 : (natsC p)[a]? = some (iC x) := by simp [natsC, hx]
                  have hy2 : (natsC p)[b]? = some (iC y) := by simp [natsC, hy]
                  have s1 : (up (natsC p)).set a (M.c (iC y)) = up (natsC (p.set a y)) := by simp [up, natsC, List.map_set]
                  have s2 : (up (natsC (p.set a y))).set b (M.c (iC x)) = up (natsC ((p.set a y).set b x)) := by simp [up, natsC, List.map_set]
                  have l1 : (natsC (p.set a y)).length = k := by simp [natsC, hpl]
                  have hperm : ((p.set a y).set b x).Perm (List.range k) := by
                    rw [← swp_int p a b (by omega) (by omega) x y hx hy]
                    exact (swp_perm p (by omega) (by omega)).trans hH
                  have hnext := fun fr' ob' => next fr' ob' ((p.set a y).set b x) hjl hperm
                  unfold iC at s1 s2 hx2 hy2
                  repeat' (first 
                    | with_reducible refine awp_scope ?_
                    | with_reducible refine awp_seq ?_
                    | with_reducible refine awp_block ?_
                    | (with_reducible refine awp_label ?_; try simp only [thenA, inBlockA, noGotoA])
                    | (with_reducible refine awp_skip ?_; try simp only [thenA, inBlockA, noGotoA])
                    | (with_reducible refine awp_exit ?_; simp only [thenA, inBlockA, noGotoA, if_true, Nat.reduceEqDiff, if_false, ↓reduceIte])
                    | (with_reducible refine awp_ret ?_; (try simp only [thenA, inBlockA, noGotoA]); (try simp [-List.reduceReplicate, Nat.add_one_le_iff, -getElem?_pos, -getElem?_neg, List.getElem?_cons_zero, List.getElem?_cons_succ, iC, hjl, hs, hnl, hk0, eb, ea, wk]))
                    | (with_reducible refine awp_reg 203 hX [0, 1, 2, 6, 7, 8, 9, 10, 11, 12, 13, 14, 15, 16, 17, 18, 19, 20, 44, 49, 54, 65, 74, 82, 92, 126, 142] ?_; simp [-List.reduceReplicate, Nat.add_one_le_iff, -getElem?_pos, -getElem?_neg, List.getElem?_cons_zero, List.getElem?_cons_succ, iC, hjl, hs, hnl, hk0, eb, ea, wk])
                    | (with_reducible refine awp_drw (id := 9) 203 hX [0, 1, 2, 6, 7, 8, 9, 10, 11, 12, 13, 14, 15, 16, 17, 18, 19, 20, 44, 49, 54, 65, 74, 82, 92, 126, 142] Tab.mixed (by kernel_rfl) ?_; simp [-List.reduceReplicate, Nat.add_one_le_iff, -getElem?_pos, -getElem?_neg, List.getElem?_cons_zero, List.getElem?_cons_succ, iC, hjl, hs, hnl, hk0, eb, ea, wk])
                    | (with_reducible refine awp_drw (id := 21) 203 hX [0, 1, 2, 6, 7, 8, 9, 10, 11, 12, 13, 14, 15, 16, 17, 18, 19, 20, 44, 49, 54, 65, 74, 82, 92, 126, 142] Tab.mixed (by kernel_rfl) ?_; simp [-List.reduceReplicate, Nat.add_one_le_iff, -getElem?_pos, -getElem?_neg, List.getElem?_cons_zero, List.getElem?_cons_succ, iC, hjl, hs, hnl, hk0, eb, ea, wk])
                    | (with_reducible refine awp_drw (id := 33) 203 hX [0, 1, 2, 6, 7, 8, 9, 10, 11, 12, 13, 14, 15, 16, 17, 18, 19, 20, 44, 49, 54, 65, 74, 82, 92, 126, 142] Tab.mixed (by kernel_rfl) ?_; simp [-List.reduceReplicate, Nat.add_one_le_iff, -getElem?_pos, -getElem?_neg, List.getElem?_cons_zero, List.getElem?_cons_succ, iC, hjl, hs, hnl, hk0, eb, ea, wk])
                    | (with_reducible refine awp_drw (id := 36) 203 hX [0, 1, 2, 6, 7, 8, 9, 10, 11, 12, 13, 14, 15, 16, 17, 18, 19, 20, 44, 49, 54, 65, 74, 82, 92, 126, 142] Tab.mixed (by kernel_rfl) ?_; simp [-List.reduceReplicate, Nat.add_one_le_iff, -getElem?_pos, -getElem?_neg, List.getElem?_cons_zero, List.getElem?_cons_succ, iC, hjl, hs, hnl, hk0, eb, ea, wk])
                    | (with_reducible refine awp_if_b rfl (fun hc => ?_) (fun hc => ?_) <;> (try simp [-getElem?_pos, -getElem?_neg] at hc) <;> (try (exfalso; omega)))
                    | (with_reducible refine GuardK_b (fun hc => ?_) (fun hc => ?_) <;> (try simp only [Bool.not_eq_true', Bool.not_eq_false', decide_eq_true_eq, decide_eq_false_iff_not] at hc) <;> (first | (exfalso; omega) | skip) <;> simp [-List.reduceReplicate, Nat.add_one_le_iff, -getElem?_pos, -getElem?_neg, List.getElem?_cons_zero, List.getElem?_cons_succ, iC, hjl, hs, hnl, hk0, eb, ea, wk, hc])
                    | (with_reducible refine DGuard_b _ _ _ _ _ _ _ _ _ _ (fun hc => ?_) (fun hc => ?_) <;> (try simp only [Bool.not_eq_true', Bool.not_eq_false', decide_eq_true_eq, decide_eq_false_iff_not] at hc) <;> (first | (exfalso; omega) | skip) <;> simp [-List.reduceReplicate, Nat.add_one_le_iff, -getElem?_pos, -getElem?_neg, List.getElem?_cons_zero, List.getElem?_cons_succ, iC, hjl, hs, hnl, hk0, eb, ea, wk, hc])
                    | (with_reducible refine DEv_cut _ _ _ _ _ _ _ _ _ _ _ _ (by kernel_rfl) ?_; simp [-List.reduceReplicate, Nat.add_one_le_iff, -getElem?_pos, -getElem?_neg, List.getElem?_cons_zero, List.getElem?_cons_succ, iC, hjl, hs, hnl, hk0, eb, ea, wk])
                    | ((with_reducible refine hother _ _ rfl ?_); simp only [inBlockA, thenA, noGotoA, Nat.reduceEqDiff, if_false, if_true, ↓reduceIte])
                    | ((with_reducible refine hother2 _ _ rfl ?_); simp only [inBlockA, thenA, noGotoA, Nat.reduceEqDiff, if_false, if_true, ↓reduceIte])
                    | ((with_reducible refine hother3 _ _ rfl ?_); simp only [inBlockA, thenA, noGotoA, Nat.reduceEqDiff, if_false, if_true, ↓reduceIte])
                    | (with_reducible refine And.intro (by omega) ?_)
                    | (with_reducible change postOf _ _ _ _ _; simp [-List.reduceReplicate, Nat.add_one_le_iff, -getElem?_pos, -getElem?_neg, List.getElem?_cons_zero, List.getElem?_cons_succ, iC, hjl, hs, hnl, hk0, eb, ea, wk])
                    | fail)
                  clear next
                  generalize natsC ((p.set a y).set b x) = cs2 at *
                  generalize natsC (p.set a y) = cs1 at *
                  generalize natsC p = cs0 at *
                  have g1 : ∀ h : a < (up cs0).length, (up cs0)[a] = M.c (C.v (.int .i64 x)) := fun h => by have := List.getElem?_eq_getElem h; rw [show (up cs0)[a]? = some (M.c (C.v (.int .i64 x))) by simp [up, hx2]] at this; exact (Option.some.inj this).symm
                  have g2 : ∀ h : b < (up cs0).length, (up cs0)[b] = M.c (C.v (.int .i64 y)) := fun h => by have := List.getElem?_eq_getElem h; rw [show (up cs0)[b]? = some (M.c (C.v (.int .i64 y))) by simp [up, hy2]] at this; exact (Option.some.inj this).symm
                  have a1 : a + 1 ≤ k := ha
                  have b1 : b + 1 ≤ k := hb
                  refine awp_drawS (id := 22) 203 hX [0, 1, 2, 6, 7, 8, 9, 10, 11, 12, 13, 14, 15, 16, 17, 18, 19, 20, 44, 49, 54, 65, 74, 82, 92, 126, 142] Tab.mixed (by kernel_rfl) [.ms 0 0 0 k, .c (iC a), .ms 0 0 0 k, .c (iC b), .ms 0 0 0 k, .c (iC b), .mp 0 0 b, .c (iC y), .ms 0 0 0 k, .c (iC a), .mp 0 0 a, .c (iC x), .mp 0 0 a, .junk, .mp 0 0 b, .junk] (fun p => [⟨3, 1, false, 0, up (if p 15 then cs2 else if p 13 then cs1 else cs0), none⟩]) (by simp [iC, ha, hb, hx2, hy2, s1, s2, l1, hnl, g1, g2, a1, b1]) (fun p q hpq => ?_) ?_ ?_
                  · simp only [hpq 13 (by decide), hpq 15 (by decide)]
                  · intro i o p hl hp hcl hno
                    match i, hl with
                    | 0, hl =>
                      obtain rfl := Option.some.inj hl
                      have c13 : p 13 = false := by cases h : p 13 with | false => rfl | true => exact absurd (List.contains_iff_mem.1 (by kernel_rfl)) (hno 13 _ rfl h)
                      have c15 : p 15 = false := by cases h : p 15 with | false => rfl | true => exact absurd (List.contains_iff_mem.1 (by kernel_rfl)) (hno 15 _ rfl h)
                      all_goals refine ⟨_, rfl, ?_⟩
                      all_goals simp [StepS, frP, -exists_and_left, hp, c13, c15, iC, ha, hb, hx2, hy2, s1, s2, l1, hnl, g1, g2, a1, b1]
                    | 1, hl =>
                      obtain rfl := Option.some.inj hl
                      have c13 : p 13 = false := by cases h : p 13 with | false => rfl | true => exact absurd (List.contains_iff_mem.1 (by kernel_rfl)) (hno 13 _ rfl h)
                      have c15 : p 15 = false := by cases h : p 15 with | false => rfl | true => exact absurd (List.contains_iff_mem.1 (by kernel_rfl)) (hno 15 _ rfl h)
                      all_goals refine ⟨_, rfl, ?_⟩
                      all_goals simp [StepS, frP, -exists_and_left, hp, c13, c15, iC, ha, hb, hx2, hy2, s1, s2, l1, hnl, g1, g2, a1, b1]
                    | 2, hl =>
                      obtain rfl := Option.some.inj hl
                      have c15 : p 15 = false := by cases h : p 15 with | false => rfl | true => exact absurd (List.contains_iff_mem.1 (by kernel_rfl)) (hno 15 _ rfl h)
                      all_goals rcases Bool.eq_false_or_eq_true (p 13) with c13 | c13
                      all_goals refine ⟨_, rfl, ?_⟩
                      all_goals simp [StepS, frP, -exists_and_left, hp, c15, c13, iC, ha, hb, hx2, hy2, s1, s2, l1, hnl, g1, g2, a1, b1]
                    | 3, hl =>
                      obtain rfl := Option.some.inj hl
                      have c15 : p 15 = false := by cases h : p 15 with | false => rfl | true => exact absurd (List.contains_iff_mem.1 (by kernel_rfl)) (hno 15 _ rfl h)
                      all_goals rcases Bool.eq_false_or_eq_true (p 13) with c13 | c13
                      all_goals refine ⟨_, rfl, ?_⟩
                      all_goals simp [StepS, frP, -exists_and_left, hp, c15, c13, iC, ha, hb, hx2, hy2, s1, s2, l1, hnl, g1, g2, a1, b1]
                    | 4, hl =>
                      obtain rfl := Option.some.inj hl
                      have c13 : p 13 = false := by cases h : p 13 with | false => rfl | true => exact absurd (List.contains_iff_mem.1 (by kernel_rfl)) (hno 13 _ rfl h)
                      have c15 : p 15 = false := by cases h : p 15 with | false => rfl | true => exact absurd (List.contains_iff_mem.1 (by kernel_rfl)) (hno 15 _ rfl h)
                      all_goals refine ⟨_, rfl, ?_⟩
                      all_goals simp [StepS, frP, -exists_and_left, hp, c13, c15, iC, ha, hb, hx2, hy2, s1, s2, l1, hnl, g1, g2, a1, b1]
                    | 5, hl =>
                      obtain rfl := Option.some.inj hl
                      have c13 : p 13 = false := by cases h : p 13 with | false => rfl | true => exact absurd (List.contains_iff_mem.1 (by kernel_rfl)) (hno 13 _ rfl h)
                      have c15 : p 15 = false := by cases h : p 15 with | false => rfl | true => exact absurd (List.contains_iff_mem.1 (by kernel_rfl)) (hno 15 _ rfl h)
                      all_goals refine ⟨_, rfl, ?_⟩
                      all_goals simp [StepS, frP, -exists_and_left, hp, c13, c15, iC, ha, hb, hx2, hy2, s1, s2, l1, hnl, g1, g2, a1, b1]
                    | 6, hl =>
                      obtain rfl := Option.some.inj hl
                      have c13 : p 13 = false := by cases h : p 13 with | false => rfl | true => exact absurd (List.contains_iff_mem.1 (by kernel_rfl)) (hno 13 _ rfl h)
                      have c15 : p 15 = false := by cases h : p 15 with | false => rfl | true => exact absurd (List.contains_iff_mem.1 (by kernel_rfl)) (hno 15 _ rfl h)
                      all_goals refine ⟨_, rfl, ?_⟩
                      all_goals simp [StepS, frP, -exists_and_left, hp, c13, c15, iC, ha, hb, hx2, hy2, s1, s2, l1, hnl, g1, g2, a1, b1]
                    | 7, hl =>
                      obtain rfl := Option.some.inj hl
                      have c13 : p 13 = false := by cases h : p 13 with | false => rfl | true => exact absurd (List.contains_iff_mem.1 (by kernel_rfl)) (hno 13 _ rfl h)
                      have c15 : p 15 = false := by cases h : p 15 with | false => rfl | true => exact absurd (List.contains_iff_mem.1 (by kernel_rfl)) (hno 15 _ rfl h)
                      all_goals refine ⟨_, rfl, ?_⟩
                      all_goals simp [StepS, frP, -exists_and_left, hp, c13, c15, iC, ha, hb, hx2, hy2, s1, s2, l1, hnl, g1, g2, a1, b1]
                    | 8, hl =>
                      obtain rfl := Option.some.inj hl
                      have c13 : p 13 = false := by cases h : p 13 with | false => rfl | true => exact absurd (List.contains_iff_mem.1 (by kernel_rfl)) (hno 13 _ rfl h)
                      have c15 : p 15 = false := by cases h : p 15 with | false => rfl | true => exact absurd (List.contains_iff_mem.1 (by kernel_rfl)) (hno 15 _ rfl h)
                      all_goals refine ⟨_, rfl, ?_⟩
                      all_goals simp [StepS, frP, -exists_and_left, hp, c13, c15, iC, ha, hb, hx2, hy2, s1, s2, l1, hnl, g1, g2, a1, b1]
                    | 9, hl =>
                      obtain rfl := Option.some.inj hl
                      have c13 : p 13 = false := by cases h : p 13 with | false => rfl | true => exact absurd (List.contains_iff_mem.1 (by kernel_rfl)) (hno 13 _ rfl h)
                      have c15 : p 15 = false := by cases h : p 15 with | false => rfl | true => exact absurd (List.contains_iff_mem.1 (by kernel_rfl)) (hno 15 _ rfl h)
                      all_goals refine ⟨_, rfl, ?_⟩
                      all_goals simp [StepS, frP, -exists_and_left, hp, c13, c15, iC, ha, hb, hx2, hy2, s1, s2, l1, hnl, g1, g2, a1, b1]
                    | 10, hl =>
                      obtain rfl := Option.some.inj hl
                      have c13 : p 13 = false := by cases h : p 13 with | false => rfl | true => exact absurd (List.contains_iff_mem.1 (by kernel_rfl)) (hno 13 _ rfl h)
                      have c15 : p 15 = false := by cases h : p 15 with | false => rfl | true => exact absurd (List.contains_iff_mem.1 (by kernel_rfl)) (hno 15 _ rfl h)
                      all_goals refine ⟨_, rfl, ?_⟩
                      all_goals simp [StepS, frP, -exists_and_left, hp, c13, c15, iC, ha, hb, hx2, hy2, s1, s2, l1, hnl, g1, g2, a1, b1]
                    | 11, hl =>
                      obtain rfl := Option.some.inj hl
                      have c13 : p 13 = false := by cases h : p 13 with | false => rfl | true => exact absurd (List.contains_iff_mem.1 (by kernel_rfl)) (hno 13 _ rfl h)
                      have c15 : p 15 = false := by cases h : p 15 with | false => rfl | true => exact absurd (List.contains_iff_mem.1 (by kernel_rfl)) (hno 15 _ rfl h)
                      all_goals refine ⟨_, rfl, ?_⟩
                      all_goals simp [StepS, frP, -exists_and_left, hp, c13, c15, iC, ha, hb, hx2, hy2, s1, s2, l1, hnl, g1, g2, a1, b1]
                    | 12, hl =>
                      obtain rfl := Option.some.inj hl
                      have c13 : p 13 = false := by cases h : p 13 with | false => rfl | true => exact absurd (List.contains_iff_mem.1 (by kernel_rfl)) (hno 13 _ rfl h)
                      have c15 : p 15 = false := by cases h : p 15 with | false => rfl | true => exact absurd (List.contains_iff_mem.1 (by kernel_rfl)) (hno 15 _ rfl h)
                      all_goals refine ⟨_, rfl, ?_⟩
                      all_goals simp [StepS, frP, -exists_and_left, hp, c13, c15, iC, ha, hb, hx2, hy2, s1, s2, l1, hnl, g1, g2, a1, b1]
                    | 13, hl =>
                      obtain rfl := Option.some.inj hl
                      have c15 : p 15 = false := by cases h : p 15 with | false => rfl | true => exact absurd (List.contains_iff_mem.1 (by kernel_rfl)) (hno 15 _ rfl h)
                      all_goals refine ⟨_, rfl, ?_⟩
                      all_goals simp [StepS, frP, -exists_and_left, hp, c15, iC, ha, hb, hx2, hy2, s1, s2, l1, hnl, g1, g2, a1, b1]
                    | 14, hl =>
                      obtain rfl := Option.some.inj hl
                      have c13 : p 13 = true := hcl 13 (List.contains_iff_mem.1 (by kernel_rfl))
                      have c15 : p 15 = false := by cases h : p 15 with | false => rfl | true => exact absurd (List.contains_iff_mem.1 (by kernel_rfl)) (hno 15 _ rfl h)
                      all_goals refine ⟨_, rfl, ?_⟩
                      all_goals simp [StepS, frP, -exists_and_left, hp, c13, c15, iC, ha, hb, hx2, hy2, s1, s2, l1, hnl, g1, g2, a1, b1]
                    | 15, hl =>
                      obtain rfl := Option.some.inj hl
                      have c13 : p 13 = true := hcl 13 (List.contains_iff_mem.1 (by kernel_rfl))
                      all_goals refine ⟨_, rfl, ?_⟩
                      all_goals simp [StepS, frP, -exists_and_left, hp, c13, iC, ha, hb, hx2, hy2, s1, s2, l1, hnl, g1, g2, a1, b1]
                    | n + 16, hl => simp at hl
                  simp [frP, iC, ha, hb, hx2, hy2, s1, s2, l1, hnl, g1, g2, a1, b1]
                  repeat' (first 
                    | with_reducible refine awp_scope ?_
                    | with_reducible refine awp_seq ?_
                    | with_reducible refine awp_block ?_
                    | (with_reducible refine awp_label ?_; try simp only [thenA, inBlockA, noGotoA])
                    | (with_reducible refine awp_skip ?_; try simp only [thenA, inBlockA, noGotoA])
                    | (with_reducible refine awp_exit ?_; simp only [thenA, inBlockA, noGotoA, if_true, Nat.reduceEqDiff, if_false, ↓reduceIte])
                    | (with_reducible refine awp_ret ?_; (try simp only [thenA, inBlockA, noGotoA]); (try simp [-List.reduceReplicate, Nat.add_one_le_iff, -getElem?_pos, -getElem?_neg, List.getElem?_cons_zero, List.getElem?_cons_succ, iC, hwj]))
                    | (with_reducible refine awp_reg 203 hX [0, 1, 2, 6, 7, 8, 9, 10, 11, 12, 13, 14, 15, 16, 17, 18, 19, 20, 44, 49, 54, 65, 74, 82, 92, 126, 142] ?_; simp [-List.reduceReplicate, Nat.add_one_le_iff, -getElem?_pos, -getElem?_neg, List.getElem?_cons_zero, List.getElem?_cons_succ, iC, hwj])
                    | (with_reducible refine awp_drw (id := 9) 203 hX [0, 1, 2, 6, 7, 8, 9, 10, 11, 12, 13, 14, 15, 16, 17, 18, 19, 20, 44, 49, 54, 65, 74, 82, 92, 126, 142] Tab.mixed (by kernel_rfl) ?_; simp [-List.reduceReplicate, Nat.add_one_le_iff, -getElem?_pos, -getElem?_neg, List.getElem?_cons_zero, List.getElem?_cons_succ, iC, hwj])
                    | (with_reducible refine awp_drw (id := 21) 203 hX [0, 1, 2, 6, 7, 8, 9, 10, 11, 12, 13, 14, 15, 16, 17, 18, 19, 20, 44, 49, 54, 65, 74, 82, 92, 126, 142] Tab.mixed (by kernel_rfl) ?_; simp [-List.reduceReplicate, Nat.add_one_le_iff, -getElem?_pos, -getElem?_neg, List.getElem?_cons_zero, List.getElem?_cons_succ, iC, hwj])
                    | (with_reducible refine awp_drw (id := 33) 203 hX [0, 1, 2, 6, 7, 8, 9, 10, 11, 12, 13, 14, 15, 16, 17, 18, 19, 20, 44, 49, 54, 65, 74, 82, 92, 126, 142] Tab.mixed (by kernel_rfl) ?_; simp [-List.reduceReplicate, Nat.add_one_le_iff, -getElem?_pos, -getElem?_neg, List.getElem?_cons_zero, List.getElem?_cons_succ, iC, hwj])
                    | (with_reducible refine awp_drw (id := 36) 203 hX [0, 1, 2, 6, 7, 8, 9, 10, 11, 12, 13, 14, 15, 16, 17, 18, 19, 20, 44, 49, 54, 65, 74, 82, 92, 126, 142] Tab.mixed (by kernel_rfl) ?_; simp [-List.reduceReplicate, Nat.add_one_le_iff, -getElem?_pos, -getElem?_neg, List.getElem?_cons_zero, List.getElem?_cons_succ, iC, hwj])
                    | (with_reducible refine awp_if_b rfl (fun hc => ?_) (fun hc => ?_) <;> (try simp [-getElem?_pos, -getElem?_neg] at hc) <;> (try (exfalso; omega)))
                    | (with_reducible refine GuardK_b (fun hc => ?_) (fun hc => ?_) <;> (try simp only [Bool.not_eq_true', Bool.not_eq_false', decide_eq_true_eq, decide_eq_false_iff_not] at hc) <;> (first | (exfalso; omega) | skip) <;> simp [-List.reduceReplicate, Nat.add_one_le_iff, -getElem?_pos, -getElem?_neg, List.getElem?_cons_zero, List.getElem?_cons_succ, iC, hwj, hc])
                    | (with_reducible refine DGuard_b _ _ _ _ _ _ _ _ _ _ (fun hc => ?_) (fun hc => ?_) <;> (try simp only [Bool.not_eq_true', Bool.not_eq_false', decide_eq_true_eq, decide_eq_false_iff_not] at hc) <;> (first | (exfalso; omega) | skip) <;> simp [-List.reduceReplicate, Nat.add_one_le_iff, -getElem?_pos, -getElem?_neg, List.getElem?_cons_zero, List.getElem?_cons_succ, iC, hwj, hc])
                    | (with_reducible refine DEv_cut _ _ _ _ _ _ _ _ _ _ _ _ (by kernel_rfl) ?_; simp [-List.reduceReplicate, Nat.add_one_le_iff, -getElem?_pos, -getElem?_neg, List.getElem?_cons_zero, List.getElem?_cons_succ, iC, hwj])
                    | ((with_reducible refine hother _ _ rfl ?_); simp only [inBlockA, thenA, noGotoA, Nat.reduceEqDiff, if_false, if_true, ↓reduceIte])
                    | ((with_reducible refine hother2 _ _ rfl ?_); simp only [inBlockA, thenA, noGotoA, Nat.reduceEqDiff, if_false, if_true, ↓reduceIte])
                    | ((with_reducible refine hother3 _ _ rfl ?_); simp only [inBlockA, thenA, noGotoA, Nat.reduceEqDiff, if_false, if_true, ↓reduceIte])
                    | (with_reducible refine And.intro (by omega) ?_)
                    | (with_reducible change postOf _ _ _ _ _; simp [-List.reduceReplicate, Nat.add_one_le_iff, -getElem?_pos, -getElem?_neg, List.getElem?_cons_zero, List.getElem?_cons_succ, iC, hwj])
                    | fail)
                  exact hnext _ _ (by simp [keep, iC]) rfl
                · have hj2 : j = sw.length := by omega
                  subst hj2
                  have hexit := hother; clear next hother
                  repeat' (first 
                    | with_reducible refine awp_scope ?_
                    | with_reducible refine awp_seq ?_
                    | with_reducible refine awp_block ?_
                    | (with_reducible refine awp_label ?_; try simp only [thenA, inBlockA, noGotoA])
                    | (with_reducible refine awp_skip ?_; try simp only [thenA, inBlockA, noGotoA])
                    | (with_reducible refine awp_exit ?_; simp only [thenA, inBlockA, noGotoA, if_true, Nat.reduceEqDiff, if_false, ↓reduceIte])
                    | (with_reducible refine awp_ret ?_; (try simp only [thenA, inBlockA, noGotoA]); (try simp [-List.reduceReplicate, Nat.add_one_le_iff, -getElem?_pos, -getElem?_neg, List.getElem?_cons_zero, List.getElem?_cons_succ, iC, hjl]))
                    | (with_reducible refine awp_reg 203 hX [0, 1, 2, 6, 7, 8, 9, 10, 11, 12, 13, 14, 15, 16, 17, 18, 19, 20, 44, 49, 54, 65, 74, 82, 92, 126, 142] ?_; simp [-List.reduceReplicate, Nat.add_one_le_iff, -getElem?_pos, -getElem?_neg, List.getElem?_cons_zero, List.getElem?_cons_succ, iC, hjl])
                    | (with_reducible refine awp_drw (id := 9) 203 hX [0, 1, 2, 6, 7, 8, 9, 10, 11, 12, 13, 14, 15, 16, 17, 18, 19, 20, 44, 49, 54, 65, 74, 82, 92, 126, 142] Tab.mixed (by kernel_rfl) ?_; simp [-List.reduceReplicate, Nat.add_one_le_iff, -getElem?_pos, -getElem?_neg, List.getElem?_cons_zero, List.getElem?_cons_succ, iC, hjl])
                    | (with_reducible refine awp_drw (id := 21) 203 hX [0, 1, 2, 6, 7, 8, 9, 10, 11, 12, 13, 14, 15, 16, 17, 18, 19, 20, 44, 49, 54, 65, 74, 82, 92, 126, 142] Tab.mixed (by kernel_rfl) ?_; simp [-List.reduceReplicate, Nat.add_one_le_iff, -getElem?_pos, -getElem?_neg, List.getElem?_cons_zero, List.getElem?_cons_succ, iC, hjl])
                    | (with_reducible refine awp_drw (id := 33) 203 hX [0, 1, 2, 6, 7, 8, 9, 10, 11, 12, 13, 14, 15, 16, 17, 18, 19, 20, 44, 49, 54, 65, 74, 82, 92, 126, 142] Tab.mixed (by kernel_rfl) ?_; simp [-List.reduceReplicate, Nat.add_one_le_iff, -getElem?_pos, -getElem?_neg, List.getElem?_cons_zero, List.getElem?_cons_succ, iC, hjl])
                    | (with_reducible refine awp_drw (id := 36) 203 hX [0, 1, 2, 6, 7, 8, 9, 10, 11, 12, 13, 14, 15, 16, 17, 18, 19, 20, 44, 49, 54, 65, 74, 82, 92, 126, 142] Tab.mixed (by kernel_rfl) ?_; simp [-List.reduceReplicate, Nat.add_one_le_iff, -getElem?_pos, -getElem?_neg, List.getElem?_cons_zero, List.getElem?_cons_succ, iC, hjl])
                    | (with_reducible refine awp_if_b rfl (fun hc => ?_) (fun hc => ?_) <;> (try simp [-getElem?_pos, -getElem?_neg] at hc) <;> (try (exfalso; omega)))
                    | (with_reducible refine GuardK_b (fun hc => ?_) (fun hc => ?_) <;> (try simp only [Bool.not_eq_true', Bool.not_eq_false', decide_eq_true_eq, decide_eq_false_iff_not] at hc) <;> (first | (exfalso; omega) | skip) <;> simp [-List.reduceReplicate, Nat.add_one_le_iff, -getElem?_pos, -getElem?_neg, List.getElem?_cons_zero, List.getElem?_cons_succ, iC, hjl, hc])
                    | (with_reducible refine DGuard_b _ _ _ _ _ _ _ _ _ _ (fun hc => ?_) (fun hc => ?_) <;> (try simp only [Bool.not_eq_true', Bool.not_eq_false', decide_eq_true_eq, decide_eq_false_iff_not] at hc) <;> (first | (exfalso; omega) | skip) <;> simp [-List.reduceReplicate, Nat.add_one_le_iff, -getElem?_pos, -getElem?_neg, List.getElem?_cons_zero, List.getElem?_cons_succ, iC, hjl, hc])
                    | (with_reducible refine DEv_cut _ _ _ _ _ _ _ _ _ _ _ _ (by kernel_rfl) ?_; simp [-List.reduceReplicate, Nat.add_one_le_iff, -getElem?_pos, -getElem?_neg, List.getElem?_cons_zero, List.getElem?_cons_succ, iC, hjl])
                    | ((with_reducible refine hother _ _ rfl ?_); simp only [inBlockA, thenA, noGotoA, Nat.reduceEqDiff, if_false, if_true, ↓reduceIte])
                    | ((with_reducible refine hother2 _ _ rfl ?_); simp only [inBlockA, thenA, noGotoA, Nat.reduceEqDiff, if_false, if_true, ↓reduceIte])
                    | ((with_reducible refine hother3 _ _ rfl ?_); simp only [inBlockA, thenA, noGotoA, Nat.reduceEqDiff, if_false, if_true, ↓reduceIte])
                    | (with_reducible refine And.intro (by omega) ?_)
                    | (with_reducible change postOf _ _ _ _ _; simp [-List.reduceReplicate, Nat.add_one_le_iff, -getElem?_pos, -getElem?_neg, List.getElem?_cons_zero, List.getElem?_cons_succ, iC, hjl])
                    | fail)
                  refine hexit _ _ rfl ?_
                  simp only [inBlockA, thenA, ↓reduceIte]
                  clear hexit
                  repeat' (first 
                    | with_reducible refine awp_scope ?_
                    | with_reducible refine awp_seq ?_
                    | with_reducible refine awp_block ?_
                    | (with_reducible refine awp_label ?_; try simp only [thenA, inBlockA, noGotoA])
                    | (with_reducible refine awp_skip ?_; try simp only [thenA, inBlockA, noGotoA])
                    | (with_reducible refine awp_exit ?_; simp only [thenA, inBlockA, noGotoA, if_true, Nat.reduceEqDiff, if_false, ↓reduceIte])
                    | (with_reducible refine awp_ret ?_; (try simp only [thenA, inBlockA, noGotoA]); (try simp [-List.reduceReplicate, Nat.add_one_le_iff, -getElem?_pos, -getElem?_neg, List.getElem?_cons_zero, List.getElem?_cons_succ, iC]))
                    | (with_reducible refine awp_reg 203 hX [0, 1, 2, 6, 7, 8, 9, 10, 11, 12, 13, 14, 15, 16, 17, 18, 19, 20, 44, 49, 54, 65, 74, 82, 92, 126, 142] ?_; simp [-List.reduceReplicate, Nat.add_one_le_iff, -getElem?_pos, -getElem?_neg, List.getElem?_cons_zero, List.getElem?_cons_succ, iC])
                    | (with_reducible refine awp_drw (id := 9) 203 hX [0, 1, 2, 6, 7, 8, 9, 10, 11, 12, 13, 14, 15, 16, 17, 18, 19, 20, 44, 49, 54, 65, 74, 82, 92, 126, 142] Tab.mixed (by kernel_rfl) ?_; simp [-List.reduceReplicate, Nat.add_one_le_iff, -getElem?_pos, -getElem?_neg, List.getElem?_cons_zero, List.getElem?_cons_succ, iC])
                    | (with_reducible refine awp_drw (id := 21) 203 hX [0, 1, 2, 6, 7, 8, 9, 10, 11, 12, 13, 14, 15, 16, 17, 18, 19, 20, 44, 49, 54, 65, 74, 82, 92, 126, 142] Tab.mixed (by kernel_rfl) ?_; simp [-List.reduceReplicate, Nat.add_one_le_iff, -getElem?_pos, -getElem?_neg, List.getElem?_cons_zero, List.getElem?_cons_succ, iC])
                    | (with_reducible refine awp_drw (id := 33) 203 hX [0, 1, 2, 6, 7, 8, 9, 10, 11, 12, 13, 14, 15, 16, 17, 18, 19, 20, 44, 49, 54, 65, 74, 82, 92, 126, 142] Tab.mixed (by kernel_rfl) ?_; simp [-List.reduceReplicate, Nat.add_one_le_iff, -getElem?_pos, -getElem?_neg, List.getElem?_cons_zero, List.getElem?_cons_succ, iC])
                    | (with_reducible refine awp_drw (id := 36) 203 hX [0, 1, 2, 6, 7, 8, 9, 10, 11, 12, 13, 14, 15, 16, 17, 18, 19, 20, 44, 49, 54, 65, 74, 82, 92, 126, 142] Tab.mixed (by kernel_rfl) ?_; simp [-List.reduceReplicate, Nat.add_one_le_iff, -getElem?_pos, -getElem?_neg, List.getElem?_cons_zero, List.getElem?_cons_succ, iC])
                    | (with_reducible refine awp_if_b rfl (fun hc => ?_) (fun hc => ?_) <;> (try simp [-getElem?_pos, -getElem?_neg] at hc) <;> (try (exfalso; omega)))
                    | (with_reducible refine GuardK_b (fun hc => ?_) (fun hc => ?_) <;> (try simp only [Bool.not_eq_true', Bool.not_eq_false', decide_eq_true_eq, decide_eq_false_iff_not] at hc) <;> (first | (exfalso; omega) | skip) <;> simp [-List.reduceReplicate, Nat.add_one_le_iff, -getElem?_pos, -getElem?_neg, List.getElem?_cons_zero, List.getElem?_cons_succ, iC, hc])
                    | (with_reducible refine DGuard_b _ _ _ _ _ _ _ _ _ _ (fun hc => ?_) (fun hc => ?_) <;> (try simp only [Bool.not_eq_true', Bool.not_eq_false', decide_eq_true_eq, decide_eq_false_iff_not] at hc) <;> (first | (exfalso; omega) | skip) <;> simp [-List.reduceReplicate, Nat.add_one_le_iff, -getElem?_pos, -getElem?_neg, List.getElem?_cons_zero, List.getElem?_cons_succ, iC, hc])
                    | (with_reducible refine DEv_cut _ _ _ _ _ _ _ _ _ _ _ _ (by kernel_rfl) ?_; simp [-List.reduceReplicate, Nat.add_one_le_iff, -getElem?_pos, -getElem?_neg, List.getElem?_cons_zero, List.getElem?_cons_succ, iC])
                    | ((with_reducible refine hother _ _ rfl ?_); simp only [inBlockA, thenA, noGotoA, Nat.reduceEqDiff, if_false, if_true, ↓reduceIte])
                    | ((with_reducible refine hother2 _ _ rfl ?_); simp only [inBlockA, thenA, noGotoA, Nat.reduceEqDiff, if_false, if_true, ↓reduceIte])
                    | ((with_reducible refine hother3 _ _ rfl ?_); simp only [inBlockA, thenA, noGotoA, Nat.reduceEqDiff, if_false, if_true, ↓reduceIte])
                    | (with_reducible refine And.intro (by omega) ?_)
                    | (with_reducible change postOf _ _ _ _ _; simp [-List.reduceReplicate, Nat.add_one_le_iff, -getElem?_pos, -getElem?_neg, List.getElem?_cons_zero, List.getElem?_cons_succ, iC])
                    | fail)
                  refine awp_nil 14 9 1 (by simp) ?_
                  simp
                  refine awp_nil 15 22 1 (by simp) ?_
                  simp
                  have hko : (permK keys p).length = k := by rw [permK_len]; exact hpl
                  have hvo : (permV v p).length = k := by rw [permV_len]; exact hpl
                  obtain ⟨x0, y0, wx, wy, hx0, hy0, hxy⟩ := wp p (by omega) (by omega) (by rw [hvl]; exact hH) (fun i j h1 h2 => fun e => hd1 j i h1 (by omega) e.symm)
                  have p5 := winner_den (permK keys p) (permV v p) (by omega) (by omega)
                  rw [wx] at p4
                  rw [wy] at p5
                  obtain ⟨kx, hkx⟩ : ∃ q, keys[x0]? = some q := ⟨_, List.getElem?_eq_getElem (by omega)⟩
                  obtain ⟨ky, hky⟩ : ∃ q, (permK keys p)[y0]? = some q := ⟨_, List.getElem?_eq_getElem (by omega)⟩
                  have hkk : kx = ky := by simpa [keyN, hkx, hky] using hxy
                  subst hkk
                  have hpk : ∀ (i a : Nat), p[i]? = some a → (permK keys p)[i]? = some (keyN keys a) ∧ (permV v p)[i]? = some (p.map fun b => ((v[a]?).getD [])[b]?.getD 0) := fun i a h => by
                    unfold permK permV
                    rw [List.getElem?_map, List.getElem?_map, h]
                    exact ⟨rfl, rfl⟩
                  have hpm : ∀ (i a : Nat), p[i]? = some a → a < k := fun i a h => List.mem_range.1 (hH.subset (List.mem_of_getElem? h))
                  generalize permK keys p = ks at *
                  generalize permV v p = vs at *
                  unfold strsC rowsC at p5
                  rw [hko, hvo] at p5
                  obtain ⟨KC, hK0, hKn, hKl, hKs⟩ := pre sC ks k hko
                  obtain ⟨VC, hV0, hVn, hVl, hVs⟩ := pre intsC vs k hvo
                  rw [← hKn, ← hVn] at p5
                  unfold sC at hKs
                  unfold intsC at hVs
                  refine awp_forU [0, 1, 9, 14, 15, 16] (fun i (g : Nat × Bool × Nat × Bool) => [(14, .ms 1 g.1 0 i), (15, .ms 2 g.2.2.1 0 i), (16, .c (iC i))]) (fun i (g : Nat × Bool × Nat × Bool) => [⟨3, 1, false, 0, up (natsC p), none⟩, ⟨9, 1, g.2.1, g.1, up (KC i), none⟩, ⟨22, 1, g.2.2.2, g.2.2.1, up (VC i), none⟩]) (fun i (g : Nat × Bool × Nat × Bool) => True) (k) ((0, true, 0, true)) (by first | trivial | (simp; done) | omega | (intros; simp at *; done)) (by simp [-List.reduceReplicate, keep, iC, hK0, hV0]) (by simp [-List.reduceReplicate, iC, hK0, hV0]) ?_
                  rintro i g Q1 hi hH next hother
                  conv => arg 5; arg 1; simp only [List.cons_append, List.nil_append, keep, get, Nat.reduceEqDiff, if_true, if_false, ↓reduceIte]
                  have hwi4 := wrap_in ((i : Int) + 1) (by omega)
                  have hnl : (natsC p).length = k := by simp [natsC, hpl]
                  by_cases hik : i < k
                  · obtain ⟨a, ha⟩ : ∃ x, p[i]? = some x := ⟨_, List.getElem?_eq_getElem (by omega)⟩
                    have hak := hpm i a ha
                    obtain ⟨hk1, hv1⟩ := hpk i a ha
                    have ha2 : (natsC p)[i]? = some (iC a) := by simp [natsC, ha]
                    obtain ⟨ka, hka⟩ : ∃ q, keys[a]? = some q := ⟨_, List.getElem?_eq_getElem (by omega)⟩
                    obtain ⟨r, hr⟩ : ∃ q, v[a]? = some q := ⟨_, List.getElem?_eq_getElem (by omega)⟩
                    have hrl := hd2 a r hak hr
                    have e1 : keyN keys a = ka := by simp [keyN, hka]
                    rw [e1] at hk1
                    simp only [hr, Option.getD_some] at hv1
                    have tk := hKs i _ hk1
                    have tl := hKl i (by omega)
                    have vl := hVl i (by omega)
                    have vk := hVs i _ hv1
                    have hroom : (i + 1) * 16 ≤ 140737488355328 := by omega
                    repeat' (first 
                      | with_reducible refine awp_scope ?_
                      | with_reducible refine awp_seq ?_
                      | with_reducible refine awp_block ?_
                      | (with_reducible refine awp_label ?_; try simp only [thenA, inBlockA, noGotoA])
                      | (with_reducible refine awp_skip ?_; try simp only [thenA, inBlockA, noGotoA])
                      | (with_reducible refine awp_exit ?_; simp only [thenA, inBlockA, noGotoA, if_true, Nat.reduceEqDiff, if_false, ↓reduceIte])
                      | (with_reducible refine awp_ret ?_; (try simp only [thenA, inBlockA, noGotoA]); (try simp [-List.reduceReplicate, Nat.add_one_le_iff, -getElem?_pos, -getElem?_neg, List.getElem?_cons_zero, List.getElem?_cons_succ, iC, sC, hik, hnl, ha2, hak, hka, tl, tk, roomB]))
                      | (with_reducible refine awp_reg 203 hX [0, 1, 2, 6, 7, 8, 9, 10, 11, 12, 13, 14, 15, 16, 17, 18, 19, 20, 44, 49, 54, 65, 74, 82, 92, 126, 142] ?_; simp [-List.reduceReplicate, Nat.add_one_le_iff, -getElem?_pos, -getElem?_neg, List.getElem?_cons_zero, List.getElem?_cons_succ, iC, sC, hik, hnl, ha2, hak, hka, tl, tk, roomB])
                      | (with_reducible refine awp_drw (id := 9) 203 hX [0, 1, 2, 6, 7, 8, 9, 10, 11, 12, 13, 14, 15, 16, 17, 18, 19, 20, 44, 49, 54, 65, 74, 82, 92, 126, 142] Tab.mixed (by kernel_rfl) ?_; simp [-List.reduceReplicate, Nat.add_one_le_iff, -getElem?_pos, -getElem?_neg, List.getElem?_cons_zero, List.getElem?_cons_succ, iC, sC, hik, hnl, ha2, hak, hka, tl, tk, roomB])
                      | (with_reducible refine awp_drw (id := 21) 203 hX [0, 1, 2, 6, 7, 8, 9, 10, 11, 12, 13, 14, 15, 16, 17, 18, 19, 20, 44, 49, 54, 65, 74, 82, 92, 126, 142] Tab.mixed (by kernel_rfl) ?_; simp [-List.reduceReplicate, Nat.add_one_le_iff, -getElem?_pos, -getElem?_neg, List.getElem?_cons_zero, List.getElem?_cons_succ, iC, sC, hik, hnl, ha2, hak, hka, tl, tk, roomB])
                      | (with_reducible refine awp_drw (id := 33) 203 hX [0, 1, 2, 6, 7, 8, 9, 10, 11, 12, 13, 14, 15, 16, 17, 18, 19, 20, 44, 49, 54, 65, 74, 82, 92, 126, 142] Tab.mixed (by kernel_rfl) ?_; simp [-List.reduceReplicate, Nat.add_one_le_iff, -getElem?_pos, -getElem?_neg, List.getElem?_cons_zero, List.getElem?_cons_succ, iC, sC, hik, hnl, ha2, hak, hka, tl, tk, roomB])
                      | (with_reducible refine awp_drw (id := 36) 203 hX [0, 1, 2, 6, 7, 8, 9, 10, 11, 12, 13, 14, 15, 16, 17, 18, 19, 20, 44, 49, 54, 65, 74, 82, 92, 126, 142] Tab.mixed (by kernel_rfl) ?_; simp [-List.reduceReplicate, Nat.add_one_le_iff, -getElem?_pos, -getElem?_neg, List.getElem?_cons_zero, List.getElem?_cons_succ, iC, sC, hik, hnl, ha2, hak, hka, tl, tk, roomB])
                      | (with_reducible refine awp_if_b rfl (fun hc => ?_) (fun hc => ?_) <;> (try simp [-getElem?_pos, -getElem?_neg] at hc) <;> (try (exfalso; omega)))
                      | (with_reducible refine GuardK_b (fun hc => ?_) (fun hc => ?_) <;> (try simp only [Bool.not_eq_true', Bool.not_eq_false', decide_eq_true_eq, decide_eq_false_iff_not] at hc) <;> (first | (exfalso; omega) | skip) <;> simp [-List.reduceReplicate, Nat.add_one_le_iff, -getElem?_pos, -getElem?_neg, List.getElem?_cons_zero, List.getElem?_cons_succ, iC, sC, hik, hnl, ha2, hak, hka, tl, tk, roomB, hc])
                      | (with_reducible refine DGuard_b _ _ _ _ _ _ _ _ _ _ (fun hc => ?_) (fun hc => ?_) <;> (try simp only [Bool.not_eq_true', Bool.not_eq_false', decide_eq_true_eq, decide_eq_false_iff_not] at hc) <;> (first | (exfalso; omega) | skip) <;> simp [-List.reduceReplicate, Nat.add_one_le_iff, -getElem?_pos, -getElem?_neg, List.getElem?_cons_zero, List.getElem?_cons_succ, iC, sC, hik, hnl, ha2, hak, hka, tl, tk, roomB, hc])
                      | (with_reducible refine DEv_cut _ _ _ _ _ _ _ _ _ _ _ _ (by kernel_rfl) ?_; simp [-List.reduceReplicate, Nat.add_one_le_iff, -getElem?_pos, -getElem?_neg, List.getElem?_cons_zero, List.getElem?_cons_succ, iC, sC, hik, hnl, ha2, hak, hka, tl, tk, roomB])
                      | ((with_reducible refine hother _ _ rfl ?_); simp only [inBlockA, thenA, noGotoA, Nat.reduceEqDiff, if_false, if_true, ↓reduceIte])
                      | ((with_reducible refine hother2 _ _ rfl ?_); simp only [inBlockA, thenA, noGotoA, Nat.reduceEqDiff, if_false, if_true, ↓reduceIte])
                      | ((with_reducible refine hother3 _ _ rfl ?_); simp only [inBlockA, thenA, noGotoA, Nat.reduceEqDiff, if_false, if_true, ↓reduceIte])
                      | (with_reducible refine And.intro (by omega) ?_)
                      | (with_reducible change postOf _ _ _ _ _; simp [-List.reduceReplicate, Nat.add_one_le_iff, -getElem?_pos, -getElem?_neg, List.getElem?_cons_zero, List.getElem?_cons_succ, iC, sC, hik, hnl, ha2, hak, hka, tl, tk, roomB])
                      | fail)
                    refine awp_nil 17 3 1 (by simp) ?_
                    simp
                    have next1 := next; have hother2 := hother; clear next hother
                    have hwl : (p.map fun b => r[b]?.getD 0).length = k := by simp [hpl]
                    have hwg : ∀ (m b : Nat), p[m]? = some b → (p.map fun b => r[b]?.getD 0)[m]? = some (r[b]?.getD 0) := fun m b h => by rw [List.getElem?_map, h]; rfl
                    generalize (p.map fun b => r[b]?.getD 0) = wr at *
                    obtain ⟨RC, hR0, hRn, hRl, hRs⟩ := pre iC wr k hwl
                    unfold iC at hRs
                    refine awp_forU [0, 1, 9, 14, 15, 16, 17, 18] (fun m (q : Nat × Bool) => [(17, .ms 3 q.1 0 m), (18, .c (iC m))]) (fun m (q : Nat × Bool) => [⟨3, 1, false, 0, up (natsC p), none⟩, ⟨9, 1, false, g.1 + 1, up (KC (i + 1)), none⟩, ⟨22, 1, g.2.2.2, g.2.2.1, up (VC i), none⟩, ⟨3, 1, q.2, q.1, up (RC m), none⟩]) (fun m (q : Nat × Bool) => True) (k) ((0, true)) (by first | trivial | (simp; done) | omega | (intros; simp at *; done)) (by simp [-List.reduceReplicate, keep, iC, hR0]) (by simp [-List.reduceReplicate, iC, hR0]) ?_
                    rintro m q Q1 hi hH next hother
                    conv => arg 5; arg 1; simp only [List.cons_append, List.nil_append, keep, get, Nat.reduceEqDiff, if_true, if_false, ↓reduceIte]
                    have hwm := wrap_in ((m : Int) + 1) (by omega)
                    by_cases hmk : m < k
                    · obtain ⟨b, hb⟩ : ∃ x, p[m]? = some x := ⟨_, List.getElem?_eq_getElem (by omega)⟩
                      have hbk := hpm m b hb
                      have hb2 : (natsC p)[m]? = some (iC b) := by simp [natsC, hb]
                      obtain ⟨x, hx⟩ : ∃ x, r[b]? = some x := ⟨_, List.getElem?_eq_getElem (by omega)⟩
                      have wg := hwg m b hb
                      rw [hx, Option.getD_some] at wg
                      have rs := hRs m x wg
                      have rl := hRl m (by omega)
                      have hroom2 : (m + 1) * 8 ≤ 140737488355328 := by omega
                      have hbr : b < r.length := by omega
                      repeat' (first 
                        | with_reducible refine awp_scope ?_
                        | with_reducible refine awp_seq ?_
                        | with_reducible refine awp_block ?_
                        | (with_reducible refine awp_label ?_; try simp only [thenA, inBlockA, noGotoA])
                        | (with_reducible refine awp_skip ?_; try simp only [thenA, inBlockA, noGotoA])
                        | (with_reducible refine awp_exit ?_; simp only [thenA, inBlockA, noGotoA, if_true, Nat.reduceEqDiff, if_false, ↓reduceIte])
                        | (with_reducible refine awp_ret ?_; (try simp only [thenA, inBlockA, noGotoA]); (try simp [-List.reduceReplicate, Nat.add_one_le_iff, -getElem?_pos, -getElem?_neg, List.getElem?_cons_zero, List.getElem?_cons_succ, intsC, iC, sC, hik, hmk, hnl, ha2, hak, hb2, hbk, hbr, hr, hx, rl, rs, hwm, roomB]))
                        | (with_reducible refine awp_reg 203 hX [0, 1, 2, 6, 7, 8, 9, 10, 11, 12, 13, 14, 15, 16, 17, 18, 19, 20, 44, 49, 54, 65, 74, 82, 92, 126, 142] ?_; simp [-List.reduceReplicate, Nat.add_one_le_iff, -getElem?_pos, -getElem?_neg, List.getElem?_cons_zero, List.getElem?_cons_succ, intsC, iC, sC, hik, hmk, hnl, ha2, hak, hb2, hbk, hbr, hr, hx, rl, rs, hwm, roomB])
                        | (with_reducible refine awp_drw (id := 9) 203 hX [0, 1, 2, 6, 7, 8, 9, 10, 11, 12, 13, 14, 15, 16, 17, 18, 19, 20, 44, 49, 54, 65, 74, 82, 92, 126, 142] Tab.mixed (by kernel_rfl) ?_; simp [-List.reduceReplicate, Nat.add_one_le_iff, -getElem?_pos, -getElem?_neg, List.getElem?_cons_zero, List.getElem?_cons_succ, intsC, iC, sC, hik, hmk, hnl, ha2, hak, hb2, hbk, hbr, hr, hx, rl, rs, hwm, roomB])
                        | (with_reducible refine awp_drw (id := 21) 203 hX [0, 1, 2, 6, 7, 8, 9, 10, 11, 12, 13, 14, 15, 16, 17, 18, 19, 20, 44, 49, 54, 65, 74, 82, 92, 126, 142] Tab.mixed (by kernel_rfl) ?_; simp [-List.reduceReplicate, Nat.add_one_le_iff, -getElem?_pos, -getElem?_neg, List.getElem?_cons_zero, List.getElem?_cons_succ, intsC, iC, sC, hik, hmk, hnl, ha2, hak, hb2, hbk, hbr, hr, hx, rl, rs, hwm, roomB])
                        | (with_reducible refine awp_drw (id := 33) 203 hX [0, 1, 2, 6, 7, 8, 9, 10, 11, 12, 13, 14, 15, 16, 17, 18, 19, 20, 44, 49, 54, 65, 74, 82, 92, 126, 142] Tab.mixed (by kernel_rfl) ?_; simp [-List.reduceReplicate, Nat.add_one_le_iff, -getElem?_pos, -getElem?_neg, List.getElem?_cons_zero, List.getElem?_cons_succ, intsC, iC, sC, hik, hmk, hnl, ha2, hak, hb2, hbk, hbr, hr, hx, rl, rs, hwm, roomB])
                        | (with_reducible refine awp_drw (id := 36) 203 hX [0, 1, 2, 6, 7, 8, 9, 10, 11, 12, 13, 14, 15, 16, 17, 18, 19, 20, 44, 49, 54, 65, 74, 82, 92, 126, 142] Tab.mixed (by kernel_rfl) ?_; simp [-List.reduceReplicate, Nat.add_one_le_iff, -getElem?_pos, -getElem?_neg, List.getElem?_cons_zero, List.getElem?_cons_succ, intsC, iC, sC, hik, hmk, hnl, ha2, hak, hb2, hbk, hbr, hr, hx, rl, rs, hwm, roomB])
                        | (with_reducible refine awp_if_b rfl (fun hc => ?_) (fun hc => ?_) <;> (try simp [-getElem?_pos, -getElem?_neg] at hc) <;> (try (exfalso; omega)))
                        | (with_reducible refine GuardK_b (fun hc => ?_) (fun hc => ?_) <;> (try simp only [Bool.not_eq_true', Bool.not_eq_false', decide_eq_true_eq, decide_eq_false_iff_not] at hc) <;> (first | (exfalso; omega) | skip) <;> simp [-List.reduceReplicate, Nat.add_one_le_iff, -getElem?_pos, -getElem?_neg, List.getElem?_cons_zero, List.getElem?_cons_succ, intsC, iC, sC, hik, hmk, hnl, ha2, hak, hb2, hbk, hbr, hr, hx, rl, rs, hwm, roomB, hc])
                        | (with_reducible refine DGuard_b _ _ _ _ _ _ _ _ _ _ (fun hc => ?_) (fun hc => ?_) <;> (try simp only [Bool.not_eq_true', Bool.not_eq_false', decide_eq_true_eq, decide_eq_false_iff_not] at hc) <;> (first | (exfalso; omega) | skip) <;> simp [-List.reduceReplicate, Nat.add_one_le_iff, -getElem?_pos, -getElem?_neg, List.getElem?_cons_zero, List.getElem?_cons_succ, intsC, iC, sC, hik, hmk, hnl, ha2, hak, hb2, hbk, hbr, hr, hx, rl, rs, hwm, roomB, hc])
                        | (with_reducible refine DEv_cut _ _ _ _ _ _ _ _ _ _ _ _ (by kernel_rfl) ?_; simp [-List.reduceReplicate, Nat.add_one_le_iff, -getElem?_pos, -getElem?_neg, List.getElem?_cons_zero, List.getElem?_cons_succ, intsC, iC, sC, hik, hmk, hnl, ha2, hak, hb2, hbk, hbr, hr, hx, rl, rs, hwm, roomB])
                        | ((with_reducible refine hother _ _ rfl ?_); simp only [inBlockA, thenA, noGotoA, Nat.reduceEqDiff, if_false, if_true, ↓reduceIte])
                        | ((with_reducible refine hother2 _ _ rfl ?_); simp only [inBlockA, thenA, noGotoA, Nat.reduceEqDiff, if_false, if_true, ↓reduceIte])
                        | ((with_reducible refine hother3 _ _ rfl ?_); simp only [inBlockA, thenA, noGotoA, Nat.reduceEqDiff, if_false, if_true, ↓reduceIte])
                        | (with_reducible refine And.intro (by omega) ?_)
                        | (with_reducible change postOf _ _ _ _ _; simp [-List.reduceReplicate, Nat.add_one_le_iff, -getElem?_pos, -getElem?_neg, List.getElem?_cons_zero, List.getElem?_cons_succ, intsC, iC, sC, hik, hmk, hnl, ha2, hak, hb2, hbk, hbr, hr, hx, rl, rs, hwm, roomB])
                        | fail)
                      refine next _ _ ((q.1 + 1, false)) (by omega) (by first | trivial | omega | assumption) (by simp [-List.reduceReplicate, keep, iC]) (by simp [-List.reduceReplicate, iC])
                    · have hm2 : m = k := by omega
                      subst hm2
                      have hexit := hother; clear next hother
                      repeat' (first 
                        | with_reducible refine awp_scope ?_
                        | with_reducible refine awp_seq ?_
                        | with_reducible refine awp_block ?_
                        | (with_reducible refine awp_label ?_; try simp only [thenA, inBlockA, noGotoA])
                        | (with_reducible refine awp_skip ?_; try simp only [thenA, inBlockA, noGotoA])
                        | (with_reducible refine awp_exit ?_; simp only [thenA, inBlockA, noGotoA, if_true, Nat.reduceEqDiff, if_false, ↓reduceIte])
                        | (with_reducible refine awp_ret ?_; (try simp only [thenA, inBlockA, noGotoA]); (try simp [-List.reduceReplicate, Nat.add_one_le_iff, -getElem?_pos, -getElem?_neg, List.getElem?_cons_zero, List.getElem?_cons_succ, iC, hmk, hnl]))
                        | (with_reducible refine awp_reg 203 hX [0, 1, 2, 6, 7, 8, 9, 10, 11, 12, 13, 14, 15, 16, 17, 18, 19, 20, 44, 49, 54, 65, 74, 82, 92, 126, 142] ?_; simp [-List.reduceReplicate, Nat.add_one_le_iff, -getElem?_pos, -getElem?_neg, List.getElem?_cons_zero, List.getElem?_cons_succ, iC, hmk, hnl])
                        | (with_reducible refine awp_drw (id := 9) 203 hX [0, 1, 2, 6, 7, 8, 9, 10, 11, 12, 13, 14, 15, 16, 17, 18, 19, 20, 44, 49, 54, 65, 74, 82, 92, 126, 142] Tab.mixed (by kernel_rfl) ?_; simp [-List.reduceReplicate, Nat.add_one_le_iff, -getElem?_pos, -getElem?_neg, List.getElem?_cons_zero, List.getElem?_cons_succ, iC, hmk, hnl])
                        | (with_reducible refine awp_drw (id := 21) 203 hX [0, 1, 2, 6, 7, 8, 9, 10, 11, 12, 13, 14, 15, 16, 17, 18, 19, 20, 44, 49, 54, 65, 74, 82, 92, 126, 142] Tab.mixed (by kernel_rfl) ?_; simp [-List.reduceReplicate, Nat.add_one_le_iff, -getElem?_pos, -getElem?_neg, List.getElem?_cons_zero, List.getElem?_cons_succ, iC, hmk, hnl])
                        | (with_reducible refine awp_drw (id := 33) 203 hX [0, 1, 2, 6, 7, 8, 9, 10, 11, 12, 13, 14, 15, 16, 17, 18, 19, 20, 44, 49, 54, 65, 74, 82, 92, 126, 142] Tab.mixed (by kernel_rfl) ?_; simp [-List.reduceReplicate, Nat.add_one_le_iff, -getElem?_pos, -getElem?_neg, List.getElem?_cons_zero, List.getElem?_cons_succ, iC, hmk, hnl])
                        | (with_reducible refine awp_drw (id := 36) 203 hX [0, 1, 2, 6, 7, 8, 9, 10, 11, 12, 13, 14, 15, 16, 17, 18, 19, 20, 44, 49, 54, 65, 74, 82, 92, 126, 142] Tab.mixed (by kernel_rfl) ?_; simp [-List.reduceReplicate, Nat.add_one_le_iff, -getElem?_pos, -getElem?_neg, List.getElem?_cons_zero, List.getElem?_cons_succ, iC, hmk, hnl])
                        | (with_reducible refine awp_if_b rfl (fun hc => ?_) (fun hc => ?_) <;> (try simp [-getElem?_pos, -getElem?_neg] at hc) <;> (try (exfalso; omega)))
                        | (with_reducible refine GuardK_b (fun hc => ?_) (fun hc => ?_) <;> (try simp only [Bool.not_eq_true', Bool.not_eq_false', decide_eq_true_eq, decide_eq_false_iff_not] at hc) <;> (first | (exfalso; omega) | skip) <;> simp [-List.reduceReplicate, Nat.add_one_le_iff, -getElem?_pos, -getElem?_neg, List.getElem?_cons_zero, List.getElem?_cons_succ, iC, hmk, hnl, hc])
                        | (with_reducible refine DGuard_b _ _ _ _ _ _ _ _ _ _ (fun hc => ?_) (fun hc => ?_) <;> (try simp only [Bool.not_eq_true', Bool.not_eq_false', decide_eq_true_eq, decide_eq_false_iff_not] at hc) <;> (first | (exfalso; omega) | skip) <;> simp [-List.reduceReplicate, Nat.add_one_le_iff, -getElem?_pos, -getElem?_neg, List.getElem?_cons_zero, List.getElem?_cons_succ, iC, hmk, hnl, hc])
                        | (with_reducible refine DEv_cut _ _ _ _ _ _ _ _ _ _ _ _ (by kernel_rfl) ?_; simp [-List.reduceReplicate, Nat.add_one_le_iff, -getElem?_pos, -getElem?_neg, List.getElem?_cons_zero, List.getElem?_cons_succ, iC, hmk, hnl])
                        | ((with_reducible refine hother _ _ rfl ?_); simp only [inBlockA, thenA, noGotoA, Nat.reduceEqDiff, if_false, if_true, ↓reduceIte])
                        | ((with_reducible refine hother2 _ _ rfl ?_); simp only [inBlockA, thenA, noGotoA, Nat.reduceEqDiff, if_false, if_true, ↓reduceIte])
                        | ((with_reducible refine hother3 _ _ rfl ?_); simp only [inBlockA, thenA, noGotoA, Nat.reduceEqDiff, if_false, if_true, ↓reduceIte])
                        | (with_reducible refine And.intro (by omega) ?_)
                        | (with_reducible change postOf _ _ _ _ _; simp [-List.reduceReplicate, Nat.add_one_le_iff, -getElem?_pos, -getElem?_neg, List.getElem?_cons_zero, List.getElem?_cons_succ, iC, hmk, hnl])
                        | fail)
                      refine hexit _ _ rfl ?_
                      simp only [inBlockA, thenA, ↓reduceIte]
                      refine awp_frz2 17 [] [⟨3, 1, false, 0, up (natsC p), none⟩, ⟨9, 1, false, g.1 + 1, up (KC (i + 1)), none⟩, ⟨22, 1, g.2.2.2, g.2.2.1, up (VC i), none⟩] [] _ (wr.map iC) _ hO rfl rfl (by simp [hRn]) (by simp [ltB]) (by simp only [List.all_cons, List.all_nil, Bool.and_true, Bool.and_eq_true]; exact ⟨up_all _ _, up_all _ _, up_all _ _⟩) ?_
                      rw [hwl] at vk
                      have hroom3 : (i + 1) * 24 ≤ 140737488355328 := by omega
                      repeat' (first 
                        | with_reducible refine awp_scope ?_
                        | with_reducible refine awp_seq ?_
                        | with_reducible refine awp_block ?_
                        | (with_reducible refine awp_label ?_; try simp only [thenA, inBlockA, noGotoA])
                        | (with_reducible refine awp_skip ?_; try simp only [thenA, inBlockA, noGotoA])
                        | (with_reducible refine awp_exit ?_; simp only [thenA, inBlockA, noGotoA, if_true, Nat.reduceEqDiff, if_false, ↓reduceIte])
                        | (with_reducible refine awp_ret ?_; (try simp only [thenA, inBlockA, noGotoA]); (try simp [-List.reduceReplicate, Nat.add_one_le_iff, -getElem?_pos, -getElem?_neg, List.getElem?_cons_zero, List.getElem?_cons_succ, iC, vl, vk, roomB, hwi4]))
                        | (with_reducible refine awp_reg 203 hX [0, 1, 2, 6, 7, 8, 9, 10, 11, 12, 13, 14, 15, 16, 17, 18, 19, 20, 44, 49, 54, 65, 74, 82, 92, 126, 142] ?_; simp [-List.reduceReplicate, Nat.add_one_le_iff, -getElem?_pos, -getElem?_neg, List.getElem?_cons_zero, List.getElem?_cons_succ, iC, vl, vk, roomB, hwi4])
                        | (with_reducible refine awp_drw (id := 9) 203 hX [0, 1, 2, 6, 7, 8, 9, 10, 11, 12, 13, 14, 15, 16, 17, 18, 19, 20, 44, 49, 54, 65, 74, 82, 92, 126, 142] Tab.mixed (by kernel_rfl) ?_; simp [-List.reduceReplicate, Nat.add_one_le_iff, -getElem?_pos, -getElem?_neg, List.getElem?_cons_zero, List.getElem?_cons_succ, iC, vl, vk, roomB, hwi4])
                        | (with_reducible refine awp_drw (id := 21) 203 hX [0, 1, 2, 6, 7, 8, 9, 10, 11, 12, 13, 14, 15, 16, 17, 18, 19, 20, 44, 49, 54, 65, 74, 82, 92, 126, 142] Tab.mixed (by kernel_rfl) ?_; simp [-List.reduceReplicate, Nat.add_one_le_iff, -getElem?_pos, -getElem?_neg, List.getElem?_cons_zero, List.getElem?_cons_succ, iC, vl, vk, roomB, hwi4])
                        | (with_reducible refine awp_drw (id := 33) 203 hX [0, 1, 2, 6, 7, 8, 9, 10, 11, 12, 13, 14, 15, 16, 17, 18, 19, 20, 44, 49, 54, 65, 74, 82, 92, 126, 142] Tab.mixed (by kernel_rfl) ?_; simp [-List.reduceReplicate, Nat.add_one_le_iff, -getElem?_pos, -getElem?_neg, List.getElem?_cons_zero, List.getElem?_cons_succ, iC, vl, vk, roomB, hwi4])
                        | (with_reducible refine awp_drw (id := 36) 203 hX [0, 1, 2, 6, 7, 8, 9, 10, 11, 12, 13, 14, 15, 16, 17, 18, 19, 20, 44, 49, 54, 65, 74, 82, 92, 126, 142] Tab.mixed (by kernel_rfl) ?_; simp [-List.reduceReplicate, Nat.add_one_le_iff, -getElem?_pos, -getElem?_neg, List.getElem?_cons_zero, List.getElem?_cons_succ, iC, vl, vk, roomB, hwi4])
                        | (with_reducible refine awp_if_b rfl (fun hc => ?_) (fun hc => ?_) <;> (try simp [-getElem?_pos, -getElem?_neg] at hc) <;> (try (exfalso; omega)))
                        | (with_reducible refine GuardK_b (fun hc => ?_) (fun hc => ?_) <;> (try simp only [Bool.not_eq_true', Bool.not_eq_false', decide_eq_true_eq, decide_eq_false_iff_not] at hc) <;> (first | (exfalso; omega) | skip) <;> simp [-List.reduceReplicate, Nat.add_one_le_iff, -getElem?_pos, -getElem?_neg, List.getElem?_cons_zero, List.getElem?_cons_succ, iC, vl, vk, roomB, hwi4, hc])
                        | (with_reducible refine DGuard_b _ _ _ _ _ _ _ _ _ _ (fun hc => ?_) (fun hc => ?_) <;> (try simp only [Bool.not_eq_true', Bool.not_eq_false', decide_eq_true_eq, decide_eq_false_iff_not] at hc) <;> (first | (exfalso; omega) | skip) <;> simp [-List.reduceReplicate, Nat.add_one_le_iff, -getElem?_pos, -getElem?_neg, List.getElem?_cons_zero, List.getElem?_cons_succ, iC, vl, vk, roomB, hwi4, hc])
                        | (with_reducible refine DEv_cut _ _ _ _ _ _ _ _ _ _ _ _ (by kernel_rfl) ?_; simp [-List.reduceReplicate, Nat.add_one_le_iff, -getElem?_pos, -getElem?_neg, List.getElem?_cons_zero, List.getElem?_cons_succ, iC, vl, vk, roomB, hwi4])
                        | ((with_reducible refine hother _ _ rfl ?_); simp only [inBlockA, thenA, noGotoA, Nat.reduceEqDiff, if_false, if_true, ↓reduceIte])
                        | ((with_reducible refine hother2 _ _ rfl ?_); simp only [inBlockA, thenA, noGotoA, Nat.reduceEqDiff, if_false, if_true, ↓reduceIte])
                        | ((with_reducible refine hother3 _ _ rfl ?_); simp only [inBlockA, thenA, noGotoA, Nat.reduceEqDiff, if_false, if_true, ↓reduceIte])
                        | (with_reducible refine And.intro (by omega) ?_)
                        | (with_reducible change postOf _ _ _ _ _; simp [-List.reduceReplicate, Nat.add_one_le_iff, -getElem?_pos, -getElem?_neg, List.getElem?_cons_zero, List.getElem?_cons_succ, iC, vl, vk, roomB, hwi4])
                        | fail)
                      refine next1 _ _ ((g.1 + 1, false, g.2.2.1 + 1, false)) (by omega) (by first | trivial | omega | assumption) (by simp [-List.reduceReplicate, keep, iC, hwi4, vk]) (by simp [-List.reduceReplicate, iC, hwi4, vk])
                  · have hi2 : i = k := by omega
                    subst hi2
                    have hexit := hother; clear next hother
                    repeat' (first 
                      | with_reducible refine awp_scope ?_
                      | with_reducible refine awp_seq ?_
                      | with_reducible refine awp_block ?_
                      | (with_reducible refine awp_label ?_; try simp only [thenA, inBlockA, noGotoA])
                      | (with_reducible refine awp_skip ?_; try simp only [thenA, inBlockA, noGotoA])
                      | (with_reducible refine awp_exit ?_; simp only [thenA, inBlockA, noGotoA, if_true, Nat.reduceEqDiff, if_false, ↓reduceIte])
                      | (with_reducible refine awp_ret ?_; (try simp only [thenA, inBlockA, noGotoA]); (try simp [-List.reduceReplicate, Nat.add_one_le_iff, -getElem?_pos, -getElem?_neg, List.getElem?_cons_zero, List.getElem?_cons_succ, iC, hik, hnl]))
                      | (with_reducible refine awp_reg 203 hX [0, 1, 2, 6, 7, 8, 9, 10, 11, 12, 13, 14, 15, 16, 17, 18, 19, 20, 44, 49, 54, 65, 74, 82, 92, 126, 142] ?_; simp [-List.reduceReplicate, Nat.add_one_le_iff, -getElem?_pos, -getElem?_neg, List.getElem?_cons_zero, List.getElem?_cons_succ, iC, hik, hnl])
                      | (with_reducible refine awp_drw (id := 9) 203 hX [0, 1, 2, 6, 7, 8, 9, 10, 11, 12, 13, 14, 15, 16, 17, 18, 19, 20, 44, 49, 54, 65, 74, 82, 92, 126, 142] Tab.mixed (by kernel_rfl) ?_; simp [-List.reduceReplicate, Nat.add_one_le_iff, -getElem?_pos, -getElem?_neg, List.getElem?_cons_zero, List.getElem?_cons_succ, iC, hik, hnl])
                      | (with_reducible refine awp_drw (id := 21) 203 hX [0, 1, 2, 6, 7, 8, 9, 10, 11, 12, 13, 14, 15, 16, 17, 18, 19, 20, 44, 49, 54, 65, 74, 82, 92, 126, 142] Tab.mixed (by kernel_rfl) ?_; simp [-List.reduceReplicate, Nat.add_one_le_iff, -getElem?_pos, -getElem?_neg, List.getElem?_cons_zero, List.getElem?_cons_succ, iC, hik, hnl])
                      | (with_reducible refine awp_drw (id := 33) 203 hX [0, 1, 2, 6, 7, 8, 9, 10, 11, 12, 13, 14, 15, 16, 17, 18, 19, 20, 44, 49, 54, 65, 74, 82, 92, 126, 142] Tab.mixed (by kernel_rfl) ?_; simp [-List.reduceReplicate, Nat.add_one_le_iff, -getElem?_pos, -getElem?_neg, List.getElem?_cons_zero, List.getElem?_cons_succ, iC, hik, hnl])
                      | (with_reducible refine awp_drw (id := 36) 203 hX [0, 1, 2, 6, 7, 8, 9, 10, 11, 12, 13, 14, 15, 16, 17, 18, 19, 20, 44, 49, 54, 65, 74, 82, 92, 126, 142] Tab.mixed (by kernel_rfl) ?_; simp [-List.reduceReplicate, Nat.add_one_le_iff, -getElem?_pos, -getElem?_neg, List.getElem?_cons_zero, List.getElem?_cons_succ, iC, hik, hnl])
                      | (with_reducible refine awp_if_b rfl (fun hc => ?_) (fun hc => ?_) <;> (try simp [-getElem?_pos, -getElem?_neg] at hc) <;> (try (exfalso; omega)))
                      | (with_reducible refine GuardK_b (fun hc => ?_) (fun hc => ?_) <;> (try simp only [Bool.not_eq_true', Bool.not_eq_false', decide_eq_true_eq, decide_eq_false_iff_not] at hc) <;> (first | (exfalso; omega) | skip) <;> simp [-List.reduceReplicate, Nat.add_one_le_iff, -getElem?_pos, -getElem?_neg, List.getElem?_cons_zero, List.getElem?_cons_succ, iC, hik, hnl, hc])
                      | (with_reducible refine DGuard_b _ _ _ _ _ _ _ _ _ _ (fun hc => ?_) (fun hc => ?_) <;> (try simp only [Bool.not_eq_true', Bool.not_eq_false', decide_eq_true_eq, decide_eq_false_iff_not] at hc) <;> (first | (exfalso; omega) | skip) <;> simp [-List.reduceReplicate, Nat.add_one_le_iff, -getElem?_pos, -getElem?_neg, List.getElem?_cons_zero, List.getElem?_cons_succ, iC, hik, hnl, hc])
                      | (with_reducible refine DEv_cut _ _ _ _ _ _ _ _ _ _ _ _ (by kernel_rfl) ?_; simp [-List.reduceReplicate, Nat.add_one_le_iff, -getElem?_pos, -getElem?_neg, List.getElem?_cons_zero, List.getElem?_cons_succ, iC, hik, hnl])
                      | ((with_reducible refine hother _ _ rfl ?_); simp only [inBlockA, thenA, noGotoA, Nat.reduceEqDiff, if_false, if_true, ↓reduceIte])
                      | ((with_reducible refine hother2 _ _ rfl ?_); simp only [inBlockA, thenA, noGotoA, Nat.reduceEqDiff, if_false, if_true, ↓reduceIte])
                      | ((with_reducible refine hother3 _ _ rfl ?_); simp only [inBlockA, thenA, noGotoA, Nat.reduceEqDiff, if_false, if_true, ↓reduceIte])
                      | (with_reducible refine And.intro (by omega) ?_)
                      | (with_reducible change postOf _ _ _ _ _; simp [-List.reduceReplicate, Nat.add_one_le_iff, -getElem?_pos, -getElem?_neg, List.getElem?_cons_zero, List.getElem?_cons_succ, iC, hik, hnl])
                      | fail)
                    refine hexit _ _ rfl ?_
                    simp only [inBlockA, thenA, ↓reduceIte]
                    refine awp_frz2 15 [] [⟨3, 1, false, 0, up (natsC p), none⟩, ⟨9, 1, g.2.1, g.1, up (KC i), none⟩] [] _ (VC i) _ hO rfl rfl rfl (by simp [ltB]) (by simp only [List.all_cons, List.all_nil, Bool.and_true, Bool.and_eq_true]; exact ⟨up_all _ _, up_all _ _⟩) ?_
                    refine awp_keep [0, 1, 9, 14, 15] ?_
                    simp only [keep, get, put, Nat.reduceEqDiff, if_true, if_false, ↓reduceIte]
                    refine awp_frz2 14 [] [⟨3, 1, false, 0, up (natsC p), none⟩] [] _ (KC i) _ hO rfl rfl rfl (by simp [ltB]) (by simp only [List.all_cons, List.all_nil, Bool.and_true]; exact up_all _ _) ?_
                    rw [hKn, hVn] at p5
                    rw [hKn, hVn]
                    repeat' (first 
                      | with_reducible refine awp_scope ?_
                      | with_reducible refine awp_seq ?_
                      | with_reducible refine awp_block ?_
                      | (with_reducible refine awp_label ?_; try simp only [thenA, inBlockA, noGotoA])
                      | (with_reducible refine awp_skip ?_; try simp only [thenA, inBlockA, noGotoA])
                      | (with_reducible refine awp_exit ?_; simp only [thenA, inBlockA, noGotoA, if_true, Nat.reduceEqDiff, if_false, ↓reduceIte])
                      | (with_reducible refine awp_ret ?_; (try simp only [thenA, inBlockA, noGotoA]); (try simp [-List.reduceReplicate, Nat.add_one_le_iff, -getElem?_pos, -getElem?_neg, List.getElem?_cons_zero, List.getElem?_cons_succ, iC, bC, sC, hkx, hky, hx0, hy0]))
                      | (with_reducible refine awp_reg 203 hX [0, 1, 2, 6, 7, 8, 9, 10, 11, 12, 13, 14, 15, 16, 17, 18, 19, 20, 44, 49, 54, 65, 74, 82, 92, 126, 142] ?_; simp [-List.reduceReplicate, Nat.add_one_le_iff, -getElem?_pos, -getElem?_neg, List.getElem?_cons_zero, List.getElem?_cons_succ, iC, bC, sC, hkx, hky, hx0, hy0])
                      | (with_reducible refine awp_drw (id := 9) 203 hX [0, 1, 2, 6, 7, 8, 9, 10, 11, 12, 13, 14, 15, 16, 17, 18, 19, 20, 44, 49, 54, 65, 74, 82, 92, 126, 142] Tab.mixed (by kernel_rfl) ?_; simp [-List.reduceReplicate, Nat.add_one_le_iff, -getElem?_pos, -getElem?_neg, List.getElem?_cons_zero, List.getElem?_cons_succ, iC, bC, sC, hkx, hky, hx0, hy0])
                      | (with_reducible refine awp_drw (id := 21) 203 hX [0, 1, 2, 6, 7, 8, 9, 10, 11, 12, 13, 14, 15, 16, 17, 18, 19, 20, 44, 49, 54, 65, 74, 82, 92, 126, 142] Tab.mixed (by kernel_rfl) ?_; simp [-List.reduceReplicate, Nat.add_one_le_iff, -getElem?_pos, -getElem?_neg, List.getElem?_cons_zero, List.getElem?_cons_succ, iC, bC, sC, hkx, hky, hx0, hy0])
                      | (with_reducible refine awp_drw (id := 33) 203 hX [0, 1, 2, 6, 7, 8, 9, 10, 11, 12, 13, 14, 15, 16, 17, 18, 19, 20, 44, 49, 54, 65, 74, 82, 92, 126, 142] Tab.mixed (by kernel_rfl) ?_; simp [-List.reduceReplicate, Nat.add_one_le_iff, -getElem?_pos, -getElem?_neg, List.getElem?_cons_zero, List.getElem?_cons_succ, iC, bC, sC, hkx, hky, hx0, hy0])
                      | (with_reducible refine awp_drw (id := 36) 203 hX [0, 1, 2, 6, 7, 8, 9, 10, 11, 12, 13, 14, 15, 16, 17, 18, 19, 20, 44, 49, 54, 65, 74, 82, 92, 126, 142] Tab.mixed (by kernel_rfl) ?_; simp [-List.reduceReplicate, Nat.add_one_le_iff, -getElem?_pos, -getElem?_neg, List.getElem?_cons_zero, List.getElem?_cons_succ, iC, bC, sC, hkx, hky, hx0, hy0])
                      | (refine (p4 _).det ?_; try simp [-List.reduceReplicate, Nat.add_one_le_iff, -getElem?_pos, -getElem?_neg, List.getElem?_cons_zero, List.getElem?_cons_succ, iC, bC, sC, hkx, hky, hx0, hy0])
                      | (refine ⟨_, _, p4 _, fun _ => rfl, ?_⟩; try simp [-List.reduceReplicate, Nat.add_one_le_iff, -getElem?_pos, -getElem?_neg, List.getElem?_cons_zero, List.getElem?_cons_succ, iC, bC, sC, hkx, hky, hx0, hy0])
                      | (refine (p5 _).det ?_; try simp [-List.reduceReplicate, Nat.add_one_le_iff, -getElem?_pos, -getElem?_neg, List.getElem?_cons_zero, List.getElem?_cons_succ, iC, bC, sC, hkx, hky, hx0, hy0])
                      | (refine ⟨_, _, p5 _, fun _ => rfl, ?_⟩; try simp [-List.reduceReplicate, Nat.add_one_le_iff, -getElem?_pos, -getElem?_neg, List.getElem?_cons_zero, List.getElem?_cons_succ, iC, bC, sC, hkx, hky, hx0, hy0])
                      | (refine (aw _).det ?_; try simp [-List.reduceReplicate, Nat.add_one_le_iff, -getElem?_pos, -getElem?_neg, List.getElem?_cons_zero, List.getElem?_cons_succ, iC, bC, sC, hkx, hky, hx0, hy0])
                      | (refine ⟨_, _, aw _, fun _ => rfl, ?_⟩; try simp [-List.reduceReplicate, Nat.add_one_le_iff, -getElem?_pos, -getElem?_neg, List.getElem?_cons_zero, List.getElem?_cons_succ, iC, bC, sC, hkx, hky, hx0, hy0])
                      | (with_reducible refine awp_if_b rfl (fun hc => ?_) (fun hc => ?_) <;> (try simp [-getElem?_pos, -getElem?_neg] at hc) <;> (try (exfalso; omega)))
                      | (with_reducible refine GuardK_b (fun hc => ?_) (fun hc => ?_) <;> (try simp only [Bool.not_eq_true', Bool.not_eq_false', decide_eq_true_eq, decide_eq_false_iff_not] at hc) <;> (first | (exfalso; omega) | skip) <;> simp [-List.reduceReplicate, Nat.add_one_le_iff, -getElem?_pos, -getElem?_neg, List.getElem?_cons_zero, List.getElem?_cons_succ, iC, bC, sC, hkx, hky, hx0, hy0, hc])
                      | (with_reducible refine DGuard_b _ _ _ _ _ _ _ _ _ _ (fun hc => ?_) (fun hc => ?_) <;> (try simp only [Bool.not_eq_true', Bool.not_eq_false', decide_eq_true_eq, decide_eq_false_iff_not] at hc) <;> (first | (exfalso; omega) | skip) <;> simp [-List.reduceReplicate, Nat.add_one_le_iff, -getElem?_pos, -getElem?_neg, List.getElem?_cons_zero, List.getElem?_cons_succ, iC, bC, sC, hkx, hky, hx0, hy0, hc])
                      | (with_reducible refine DEv_cut _ _ _ _ _ _ _ _ _ _ _ _ (by kernel_rfl) ?_; simp [-List.reduceReplicate, Nat.add_one_le_iff, -getElem?_pos, -getElem?_neg, List.getElem?_cons_zero, List.getElem?_cons_succ, iC, bC, sC, hkx, hky, hx0, hy0])
                      | ((with_reducible refine hother _ _ rfl ?_); simp only [inBlockA, thenA, noGotoA, Nat.reduceEqDiff, if_false, if_true, ↓reduceIte])
                      | ((with_reducible refine hother2 _ _ rfl ?_); simp only [inBlockA, thenA, noGotoA, Nat.reduceEqDiff, if_false, if_true, ↓reduceIte])
                      | ((with_reducible refine hother3 _ _ rfl ?_); simp only [inBlockA, thenA, noGotoA, Nat.reduceEqDiff, if_false, if_true, ↓reduceIte])
                      | (with_reducible refine And.intro (by omega) ?_)
                      | (with_reducible change postOf _ _ _ _ _; simp [-List.reduceReplicate, Nat.add_one_le_iff, -getElem?_pos, -getElem?_neg, List.getElem?_cons_zero, List.getElem?_cons_succ, iC, bC, sC, hkx, hky, hx0, hy0])
                      | fail)
      · have hlen2 : ¬ (v.length : Int) = keys.length := by omega
        refine den_of Try.func7 rfl rfl (by simp [Try.ntmps7]) (fun X hX hO => ?_)
        rw [Try.ntmps7] at hX
        simp only [Try.results7]
        unfold strsC rowsC at *
        repeat' (first 
          | with_reducible refine awp_scope ?_
          | with_reducible refine awp_seq ?_
          | with_reducible refine awp_block ?_
          | (with_reducible refine awp_label ?_; try simp only [thenA, inBlockA, noGotoA])
          | (with_reducible refine awp_skip ?_; try simp only [thenA, inBlockA, noGotoA])
          | (with_reducible refine awp_exit ?_; simp only [thenA, inBlockA, noGotoA, if_true, Nat.reduceEqDiff, if_false, ↓reduceIte])
          | (with_reducible refine awp_ret ?_; (try simp only [thenA, inBlockA, noGotoA]); (try simp [-List.reduceReplicate, Nat.add_one_le_iff, -getElem?_pos, -getElem?_neg, List.getElem?_cons_zero, List.getElem?_cons_succ, bC, hlen, hlen2]))
          | (with_reducible refine awp_reg 203 hX [0, 1, 2, 6, 7, 8, 9, 10, 11, 12, 13, 14, 15, 16, 17, 18, 19, 20, 44, 49, 54, 65, 74, 82, 92, 126, 142] ?_; simp [-List.reduceReplicate, Nat.add_one_le_iff, -getElem?_pos, -getElem?_neg, List.getElem?_cons_zero, List.getElem?_cons_succ, bC, hlen, hlen2])
          | (with_reducible refine awp_drw (id := 9) 203 hX [0, 1, 2, 6, 7, 8, 9, 10, 11, 12, 13, 14, 15, 16, 17, 18, 19, 20, 44, 49, 54, 65, 74, 82, 92, 126, 142] Tab.mixed (by kernel_rfl) ?_; simp [-List.reduceReplicate, Nat.add_one_le_iff, -getElem?_pos, -getElem?_neg, List.getElem?_cons_zero, List.getElem?_cons_succ, bC, hlen, hlen2])
          | (with_reducible refine awp_drw (id := 21) 203 hX [0, 1, 2, 6, 7, 8, 9, 10, 11, 12, 13, 14, 15, 16, 17, 18, 19, 20, 44, 49, 54, 65, 74, 82, 92, 126, 142] Tab.mixed (by kernel_rfl) ?_; simp [-List.reduceReplicate, Nat.add_one_le_iff, -getElem?_pos, -getElem?_neg, List.getElem?_cons_zero, List.getElem?_cons_succ, bC, hlen, hlen2])
          | (with_reducible refine awp_drw (id := 33) 203 hX [0, 1, 2, 6, 7, 8, 9, 10, 11, 12, 13, 14, 15, 16, 17, 18, 19, 20, 44, 49, 54, 65, 74, 82, 92, 126, 142] Tab.mixed (by kernel_rfl) ?_; simp [-List.reduceReplicate, Nat.add_one_le_iff, -getElem?_pos, -getElem?_neg, List.getElem?_cons_zero, List.getElem?_cons_succ, bC, hlen, hlen2])
          | (with_reducible refine awp_drw (id := 36) 203 hX [0, 1, 2, 6, 7, 8, 9, 10, 11, 12, 13, 14, 15, 16, 17, 18, 19, 20, 44, 49, 54, 65, 74, 82, 92, 126, 142] Tab.mixed (by kernel_rfl) ?_; simp [-List.reduceReplicate, Nat.add_one_le_iff, -getElem?_pos, -getElem?_neg, List.getElem?_cons_zero, List.getElem?_cons_succ, bC, hlen, hlen2])
          | (refine (f1 _).det ?_; try simp [-List.reduceReplicate, Nat.add_one_le_iff, -getElem?_pos, -getElem?_neg, List.getElem?_cons_zero, List.getElem?_cons_succ, bC, hlen, hlen2])
          | (refine ⟨_, _, f1 _, fun _ => rfl, ?_⟩; try simp [-List.reduceReplicate, Nat.add_one_le_iff, -getElem?_pos, -getElem?_neg, List.getElem?_cons_zero, List.getElem?_cons_succ, bC, hlen, hlen2])
          | (refine (gd).det ?_; try simp [-List.reduceReplicate, Nat.add_one_le_iff, -getElem?_pos, -getElem?_neg, List.getElem?_cons_zero, List.getElem?_cons_succ, bC, hlen, hlen2])
          | (refine ⟨_, _, gd, fun _ => rfl, ?_⟩; try simp [-List.reduceReplicate, Nat.add_one_le_iff, -getElem?_pos, -getElem?_neg, List.getElem?_cons_zero, List.getElem?_cons_succ, bC, hlen, hlen2])
          | ((with_reducible refine Den.at_ (f := 27) ?_); refine (awake45_den _).det ?_; try simp [-List.reduceReplicate, Nat.add_one_le_iff, -getElem?_pos, -getElem?_neg, List.getElem?_cons_zero, List.getElem?_cons_succ, bC, hlen, hlen2])
          | ((with_reducible refine drawn_at (f := 27) ?_); refine ⟨_, _, awake45_den _, fun _ => rfl, ?_⟩; try simp [-List.reduceReplicate, Nat.add_one_le_iff, -getElem?_pos, -getElem?_neg, List.getElem?_cons_zero, List.getElem?_cons_succ, bC, hlen, hlen2])
          | (with_reducible refine awp_if_b rfl (fun hc => ?_) (fun hc => ?_) <;> (try simp [-getElem?_pos, -getElem?_neg] at hc) <;> (try (exfalso; omega)))
          | (with_reducible refine GuardK_b (fun hc => ?_) (fun hc => ?_) <;> (try simp only [Bool.not_eq_true', Bool.not_eq_false', decide_eq_true_eq, decide_eq_false_iff_not] at hc) <;> (first | (exfalso; omega) | skip) <;> simp [-List.reduceReplicate, Nat.add_one_le_iff, -getElem?_pos, -getElem?_neg, List.getElem?_cons_zero, List.getElem?_cons_succ, bC, hlen, hlen2, hc])
          | (with_reducible refine DGuard_b _ _ _ _ _ _ _ _ _ _ (fun hc => ?_) (fun hc => ?_) <;> (try simp only [Bool.not_eq_true', Bool.not_eq_false', decide_eq_true_eq, decide_eq_false_iff_not] at hc) <;> (first | (exfalso; omega) | skip) <;> simp [-List.reduceReplicate, Nat.add_one_le_iff, -getElem?_pos, -getElem?_neg, List.getElem?_cons_zero, List.getElem?_cons_succ, bC, hlen, hlen2, hc])
          | (with_reducible refine DEv_cut _ _ _ _ _ _ _ _ _ _ _ _ (by kernel_rfl) ?_; simp [-List.reduceReplicate, Nat.add_one_le_iff, -getElem?_pos, -getElem?_neg, List.getElem?_cons_zero, List.getElem?_cons_succ, bC, hlen, hlen2])
          | ((with_reducible refine hother _ _ rfl ?_); simp only [inBlockA, thenA, noGotoA, Nat.reduceEqDiff, if_false, if_true, ↓reduceIte])
          | ((with_reducible refine hother2 _ _ rfl ?_); simp only [inBlockA, thenA, noGotoA, Nat.reduceEqDiff, if_false, if_true, ↓reduceIte])
          | ((with_reducible refine hother3 _ _ rfl ?_); simp only [inBlockA, thenA, noGotoA, Nat.reduceEqDiff, if_false, if_true, ↓reduceIte])
          | (with_reducible refine And.intro (by omega) ?_)
          | (with_reducible change postOf _ _ _ _ _; simp [-List.reduceReplicate, Nat.add_one_le_iff, -getElem?_pos, -getElem?_neg, List.getElem?_cons_zero, List.getElem?_cons_succ, bC, hlen, hlen2])
          | fail)
  · have hfw2 : few keys = false := by simpa using hfw
    rw [hfw2] at f1
    refine den_of Try.func7 rfl rfl (by simp [Try.ntmps7]) (fun X hX hO => ?_)
    rw [Try.ntmps7] at hX
    simp only [Try.results7]
    repeat' (first 
      | with_reducible refine awp_scope ?_
      | with_reducible refine awp_seq ?_
      | with_reducible refine awp_block ?_
      | (with_reducible refine awp_label ?_; try simp only [thenA, inBlockA, noGotoA])
      | (with_reducible refine awp_skip ?_; try simp only [thenA, inBlockA, noGotoA])
      | (with_reducible refine awp_exit ?_; simp only [thenA, inBlockA, noGotoA, if_true, Nat.reduceEqDiff, if_false, ↓reduceIte])
      | (with_reducible refine awp_ret ?_; (try simp only [thenA, inBlockA, noGotoA]); (try simp [-List.reduceReplicate, Nat.add_one_le_iff, -getElem?_pos, -getElem?_neg, List.getElem?_cons_zero, List.getElem?_cons_succ, bC]))
      | (with_reducible refine awp_reg 203 hX [0, 1, 2, 6, 7, 8, 9, 10, 11, 12, 13, 14, 15, 16, 17, 18, 19, 20, 44, 49, 54, 65, 74, 82, 92, 126, 142] ?_; simp [-List.reduceReplicate, Nat.add_one_le_iff, -getElem?_pos, -getElem?_neg, List.getElem?_cons_zero, List.getElem?_cons_succ, bC])
      | (with_reducible refine awp_drw (id := 9) 203 hX [0, 1, 2, 6, 7, 8, 9, 10, 11, 12, 13, 14, 15, 16, 17, 18, 19, 20, 44, 49, 54, 65, 74, 82, 92, 126, 142] Tab.mixed (by kernel_rfl) ?_; simp [-List.reduceReplicate, Nat.add_one_le_iff, -getElem?_pos, -getElem?_neg, List.getElem?_cons_zero, List.getElem?_cons_succ, bC])
      | (with_reducible refine awp_drw (id := 21) 203 hX [0, 1, 2, 6, 7, 8, 9, 10, 11, 12, 13, 14, 15, 16, 17, 18, 19, 20, 44, 49, 54, 65, 74, 82, 92, 126, 142] Tab.mixed (by kernel_rfl) ?_; simp [-List.reduceReplicate, Nat.add_one_le_iff, -getElem?_pos, -getElem?_neg, List.getElem?_cons_zero, List.getElem?_cons_succ, bC])
      | (with_reducible refine awp_drw (id := 33) 203 hX [0, 1, 2, 6, 7, 8, 9, 10, 11, 12, 13, 14, 15, 16, 17, 18, 19, 20, 44, 49, 54, 65, 74, 82, 92, 126, 142] Tab.mixed (by kernel_rfl) ?_; simp [-List.reduceReplicate, Nat.add_one_le_iff, -getElem?_pos, -getElem?_neg, List.getElem?_cons_zero, List.getElem?_cons_succ, bC])
      | (with_reducible refine awp_drw (id := 36) 203 hX [0, 1, 2, 6, 7, 8, 9, 10, 11, 12, 13, 14, 15, 16, 17, 18, 19, 20, 44, 49, 54, 65, 74, 82, 92, 126, 142] Tab.mixed (by kernel_rfl) ?_; simp [-List.reduceReplicate, Nat.add_one_le_iff, -getElem?_pos, -getElem?_neg, List.getElem?_cons_zero, List.getElem?_cons_succ, bC])
      | (refine (f1 _).det ?_; try simp [-List.reduceReplicate, Nat.add_one_le_iff, -getElem?_pos, -getElem?_neg, List.getElem?_cons_zero, List.getElem?_cons_succ, bC])
      | (refine ⟨_, _, f1 _, fun _ => rfl, ?_⟩; try simp [-List.reduceReplicate, Nat.add_one_le_iff, -getElem?_pos, -getElem?_neg, List.getElem?_cons_zero, List.getElem?_cons_succ, bC])
      | ((with_reducible refine Den.at_ (f := 27) ?_); refine (awake45_den _).det ?_; try simp [-List.reduceReplicate, Nat.add_one_le_iff, -getElem?_pos, -getElem?_neg, List.getElem?_cons_zero, List.getElem?_cons_succ, bC])
      | ((with_reducible refine drawn_at (f := 27) ?_); refine ⟨_, _, awake45_den _, fun _ => rfl, ?_⟩; try simp [-List.reduceReplicate, Nat.add_one_le_iff, -getElem?_pos, -getElem?_neg, List.getElem?_cons_zero, List.getElem?_cons_succ, bC])
      | (with_reducible refine awp_if_b rfl (fun hc => ?_) (fun hc => ?_) <;> (try simp [-getElem?_pos, -getElem?_neg] at hc) <;> (try (exfalso; omega)))
      | (with_reducible refine GuardK_b (fun hc => ?_) (fun hc => ?_) <;> (try simp only [Bool.not_eq_true', Bool.not_eq_false', decide_eq_true_eq, decide_eq_false_iff_not] at hc) <;> (first | (exfalso; omega) | skip) <;> simp [-List.reduceReplicate, Nat.add_one_le_iff, -getElem?_pos, -getElem?_neg, List.getElem?_cons_zero, List.getElem?_cons_succ, bC, hc])
      | (with_reducible refine DGuard_b _ _ _ _ _ _ _ _ _ _ (fun hc => ?_) (fun hc => ?_) <;> (try simp only [Bool.not_eq_true', Bool.not_eq_false', decide_eq_true_eq, decide_eq_false_iff_not] at hc) <;> (first | (exfalso; omega) | skip) <;> simp [-List.reduceReplicate, Nat.add_one_le_iff, -getElem?_pos, -getElem?_neg, List.getElem?_cons_zero, List.getElem?_cons_succ, bC, hc])
      | (with_reducible refine DEv_cut _ _ _ _ _ _ _ _ _ _ _ _ (by kernel_rfl) ?_; simp [-List.reduceReplicate, Nat.add_one_le_iff, -getElem?_pos, -getElem?_neg, List.getElem?_cons_zero, List.getElem?_cons_succ, bC])
      | ((with_reducible refine hother _ _ rfl ?_); simp only [inBlockA, thenA, noGotoA, Nat.reduceEqDiff, if_false, if_true, ↓reduceIte])
      | ((with_reducible refine hother2 _ _ rfl ?_); simp only [inBlockA, thenA, noGotoA, Nat.reduceEqDiff, if_false, if_true, ↓reduceIte])
      | ((with_reducible refine hother3 _ _ rfl ?_); simp only [inBlockA, thenA, noGotoA, Nat.reduceEqDiff, if_false, if_true, ↓reduceIte])
      | (with_reducible refine And.intro (by omega) ?_)
      | (with_reducible change postOf _ _ _ _ _; simp [-List.reduceReplicate, Nat.add_one_le_iff, -getElem?_pos, -getElem?_neg, List.getElem?_cons_zero, List.getElem?_cons_succ, bC])
      | fail)
end Go.Av
