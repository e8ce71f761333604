import Derived.Test.YtofomnllcmgfeaaAvT49
set_option linter.unusedVariables false
set_option linter.unusedSimpArgs false
set_option maxRecDepth 100000
set_option maxHeartbeats 4000000
namespace Go.Av
open Go Go.Proofs Go.Proofs.Ytofomnllcmgfeaa Go.RowKit
/-! ### cup: Winner, the laws' guards, CupOrders -/
open Go.Hp
def winI (keys : List ByteArray) (v : List (List Int)) : Int := ((ordI keys v)[0]?).getD (-1)
theorem winner_den (keys : List ByteArray) (v : List (List Int)) (hk : keys.length ≤ 100000) (hv : v.length ≤ 100000) : DenV Try.prog 32 [.c (strsC keys), .c (rowsC v)] (.c (iC (winI keys v))) := by
  refine Den.frame rfl rfl ?_
  have p1 := order_den keys v hk hv
  have hw : winI keys v = ((ordI keys v)[0]?).getD (-1) := rfl
  generalize winI keys v = w at *
  generalize ordI keys v = o at *
  refine den_of Try.func32 rfl rfl (by simp [Try.ntmps32]) (fun X hX hO => ?_)
  rw [Try.ntmps32] at hX
  simp only [Try.results32]
  cases o with
  | nil =>
    simp at hw
    repeat' (first 
     | (with_reducible first | refine awp_scope ?_ | refine awp_seq ?_ | refine awp_block ?_)
     | ((with_reducible first | refine awp_label ?_ | refine awp_skip ?_); try simp only [thenA, inBlockA, noGotoA])
     | (with_reducible refine awp_exit ?_; simp only [thenA, inBlockA, noGotoA, if_true, Nat.reduceEqDiff, if_false, ↓reduceIte])
     | (with_reducible refine awp_ret ?_; (try simp only [thenA, inBlockA, noGotoA]); (try simp [-List.reduceReplicate, Nat.add_one_le_iff, -getElem?_pos, -getElem?_neg, List.getElem?_cons_zero, List.getElem?_cons_succ, intsC, iC, hw]))
     | ((with_reducible first | refine awp_reg 15 hX [0, 1, 4, 5, 11] ?_ | change postOf _ _ _ _ _); simp [-List.reduceReplicate, Nat.add_one_le_iff, -getElem?_pos, -getElem?_neg, List.getElem?_cons_zero, List.getElem?_cons_succ, intsC, iC, hw])
     | ((first | (refine (p1 _).det ?_)); try simp [-List.reduceReplicate, Nat.add_one_le_iff, -getElem?_pos, -getElem?_neg, List.getElem?_cons_zero, List.getElem?_cons_succ, intsC, iC, hw])
     | (with_reducible refine awp_if_b rfl (fun hc => ?_) (fun hc => ?_) <;> (try simp [-getElem?_pos, -getElem?_neg] at hc) <;> (try (exfalso; omega)))
     | ((with_reducible first | refine GuardK_b (fun hc => ?_) (fun hc => ?_)) <;> (try simp only [Bool.not_eq_true', Bool.not_eq_false', decide_eq_true_eq, decide_eq_false_iff_not] at hc) <;> (first | (exfalso; omega) | skip) <;> simp [-List.reduceReplicate, Nat.add_one_le_iff, -getElem?_pos, -getElem?_neg, List.getElem?_cons_zero, List.getElem?_cons_succ, intsC, iC, hw, hc])
     | (with_reducible refine And.intro (by omega) ?_)
     | fail)
  | cons x o =>
    simp at hw
    repeat' (first 
     | (with_reducible first | refine awp_scope ?_ | refine awp_seq ?_ | refine awp_block ?_)
     | ((with_reducible first | refine awp_label ?_ | refine awp_skip ?_); try simp only [thenA, inBlockA, noGotoA])
     | (with_reducible refine awp_exit ?_; simp only [thenA, inBlockA, noGotoA, if_true, Nat.reduceEqDiff, if_false, ↓reduceIte])
     | (with_reducible refine awp_ret ?_; (try simp only [thenA, inBlockA, noGotoA]); (try simp [-List.reduceReplicate, Nat.add_one_le_iff, -getElem?_pos, -getElem?_neg, List.getElem?_cons_zero, List.getElem?_cons_succ, intsC, iC, hw]))
     | ((with_reducible first | refine awp_reg 15 hX [0, 1, 4, 5, 11] ?_ | change postOf _ _ _ _ _); simp [-List.reduceReplicate, Nat.add_one_le_iff, -getElem?_pos, -getElem?_neg, List.getElem?_cons_zero, List.getElem?_cons_succ, intsC, iC, hw])
     | ((first | (refine (p1 _).det ?_)); try simp [-List.reduceReplicate, Nat.add_one_le_iff, -getElem?_pos, -getElem?_neg, List.getElem?_cons_zero, List.getElem?_cons_succ, intsC, iC, hw])
     | (with_reducible refine awp_if_b rfl (fun hc => ?_) (fun hc => ?_) <;> (try simp [-getElem?_pos, -getElem?_neg] at hc) <;> (try (exfalso; omega)))
     | ((with_reducible first | refine GuardK_b (fun hc => ?_) (fun hc => ?_)) <;> (try simp only [Bool.not_eq_true', Bool.not_eq_false', decide_eq_true_eq, decide_eq_false_iff_not] at hc) <;> (first | (exfalso; omega) | skip) <;> simp [-List.reduceReplicate, Nat.add_one_le_iff, -getElem?_pos, -getElem?_neg, List.getElem?_cons_zero, List.getElem?_cons_succ, intsC, iC, hw, hc])
     | (with_reducible refine And.intro (by omega) ?_)
     | fail)
def fewTo (keys : List ByteArray) : Nat → Int
  | 0 => 0
  | i + 1 => if 1048576 < IntKind.i64.wrap (fewTo keys i + (keyN keys i).size) then 1048576 else IntKind.i64.wrap (fewTo keys i + (keyN keys i).size)
def few (keys : List ByteArray) : Bool := decide (keys.length ≤ 20) && decide (fewTo keys (min keys.length 30) ≤ 2000)
set_option maxHeartbeats 4000000 in
theorem few_den (keys : List ByteArray) : DenV Try.prog 26 [.c (strsC keys)] (.c (bC (few keys))) := by
  refine Den.frame rfl rfl ?_
  have hs : ∀ i, fewTo keys (i + 1) = if 1048576 < IntKind.i64.wrap (fewTo keys i + (keyN keys i).size) then 1048576 else IntKind.i64.wrap (fewTo keys i + (keyN keys i).size) := fun _ => rfl
  have h0 : fewTo keys 0 = 0 := rfl
  have hf : few keys = (decide (keys.length ≤ 20) && decide (fewTo keys (min keys.length 30) ≤ 2000)) := rfl
  generalize few keys = r at *
  generalize fewTo keys = f at *
  refine den_of Try.func26 rfl rfl (by simp [Try.ntmps26]) (fun X hX hO => ?_)
  rw [Try.ntmps26] at hX
  simp only [Try.results26]
  repeat' (first 
   | (with_reducible first | refine awp_scope ?_ | refine awp_seq ?_ | refine awp_block ?_)
   | ((with_reducible first | refine awp_label ?_ | refine awp_skip ?_); try simp only [thenA, inBlockA, noGotoA])
   | (with_reducible refine awp_exit ?_; simp only [thenA, inBlockA, noGotoA, if_true, Nat.reduceEqDiff, if_false, ↓reduceIte])
   | (with_reducible refine awp_ret ?_; (try simp only [thenA, inBlockA, noGotoA]); (try simp [-List.reduceReplicate, Nat.add_one_le_iff, -getElem?_pos, -getElem?_neg, List.getElem?_cons_zero, List.getElem?_cons_succ, strsC, iC]))
   | ((with_reducible first | refine awp_reg 30 hX [0, 2, 3, 4, 12] ?_ | change postOf _ _ _ _ _); simp [-List.reduceReplicate, Nat.add_one_le_iff, -getElem?_pos, -getElem?_neg, List.getElem?_cons_zero, List.getElem?_cons_succ, strsC, iC])
   | (with_reducible refine awp_if_b rfl (fun hc => ?_) (fun hc => ?_) <;> (try simp [-getElem?_pos, -getElem?_neg] at hc) <;> (try (exfalso; omega)))
   | ((with_reducible first | refine GuardK_b (fun hc => ?_) (fun hc => ?_)) <;> (try simp only [Bool.not_eq_true', Bool.not_eq_false', decide_eq_true_eq, decide_eq_false_iff_not] at hc) <;> (first | (exfalso; omega) | skip) <;> simp [-List.reduceReplicate, Nat.add_one_le_iff, -getElem?_pos, -getElem?_neg, List.getElem?_cons_zero, List.getElem?_cons_succ, strsC, iC, hc])
   | ((with_reducible first | refine hother _ _ rfl ?_); simp only [inBlockA, thenA, noGotoA, Nat.reduceEqDiff, if_false, if_true, ↓reduceIte])
   | (with_reducible refine And.intro (by omega) ?_)
   | fail)
  refine awp_forU [0, 3, 4] (fun i (_u : Unit) => [(3, .c (iC (f i))), (4, .c (iC i))]) (fun i (_u : Unit) => []) (fun i (_u : Unit) => True) (min keys.length 30) (()) (by first | trivial | (simp; done) | omega | (intros; simp at *; done)) (by simp [-List.reduceReplicate, keep, iC, h0]) (by simp [-List.reduceReplicate, iC, h0]) ?_
  rintro i _u Q1 hi hH next hother
  conv => arg 5; arg 1; simp only [List.cons_append, List.nil_append, keep, get, Nat.reduceEqDiff, if_true, if_false, ↓reduceIte]
  have hwi := wrap_in ((i : Int) + 1) (by omega)
  by_cases hlt : i < keys.length
  · by_cases h30 : i < 30
    · obtain ⟨ki, hki⟩ := getI keys (i : Nat) (by omega) (by omega)
      simp only [Int.toNat_natCast] at hki
      have e1 : keyN keys i = ki := by simp [keyN, hki]
      have hsi := hs i
      rw [e1] at hsi
      repeat' (first 
       | (with_reducible first | refine awp_scope ?_ | refine awp_seq ?_ | refine awp_block ?_)
       | ((with_reducible first | refine awp_label ?_ | refine awp_skip ?_); try simp only [thenA, inBlockA, noGotoA])
       | (with_reducible refine awp_exit ?_; simp only [thenA, inBlockA, noGotoA, if_true, Nat.reduceEqDiff, if_false, ↓reduceIte])
       | (with_reducible refine awp_ret ?_; (try simp only [thenA, inBlockA, noGotoA]); (try simp [-List.reduceReplicate, Nat.add_one_le_iff, -getElem?_pos, -getElem?_neg, List.getElem?_cons_zero, List.getElem?_cons_succ, iC, bC, sC, hlt, h30, hki, hwi]))
       | ((with_reducible first | refine awp_reg 30 hX [0, 2, 3, 4, 12] ?_ | change postOf _ _ _ _ _); simp [-List.reduceReplicate, Nat.add_one_le_iff, -getElem?_pos, -getElem?_neg, List.getElem?_cons_zero, List.getElem?_cons_succ, iC, bC, sC, hlt, h30, hki, hwi])
       | (with_reducible refine awp_if_b rfl (fun hc => ?_) (fun hc => ?_) <;> (try simp [-getElem?_pos, -getElem?_neg] at hc) <;> (try (exfalso; omega)))
       | ((with_reducible first | refine GuardK_b (fun hc => ?_) (fun hc => ?_)) <;> (try simp only [Bool.not_eq_true', Bool.not_eq_false', decide_eq_true_eq, decide_eq_false_iff_not] at hc) <;> (first | (exfalso; omega) | skip) <;> simp [-List.reduceReplicate, Nat.add_one_le_iff, -getElem?_pos, -getElem?_neg, List.getElem?_cons_zero, List.getElem?_cons_succ, iC, bC, sC, hlt, h30, hki, hwi, hc])
       | ((with_reducible first | refine hother _ _ rfl ?_); simp only [inBlockA, thenA, noGotoA, Nat.reduceEqDiff, if_false, if_true, ↓reduceIte])
       | (with_reducible refine And.intro (by omega) ?_)
       | fail)
      refine next _ _ (()) (by omega) (by first | trivial | omega | assumption) (by simp [-List.reduceReplicate, keep, iC, hsi]) (by simp [-List.reduceReplicate, iC, hsi])
    · have hi2 : i = min keys.length 30 := by omega
      have hi3 : i = 30 := by omega
      have hl : ¬ keys.length ≤ 20 := by omega
      have hl2 : ¬ (keys.length : Int) ≤ 20 := by omega
      simp only [hl, decide_false, Bool.false_and] at hf
      repeat' (first 
       | (with_reducible first | refine awp_scope ?_ | refine awp_seq ?_ | refine awp_block ?_)
       | ((with_reducible first | refine awp_label ?_ | refine awp_skip ?_); try simp only [thenA, inBlockA, noGotoA])
       | (with_reducible refine awp_exit ?_; simp only [thenA, inBlockA, noGotoA, if_true, Nat.reduceEqDiff, if_false, ↓reduceIte])
       | (with_reducible refine awp_ret ?_; (try simp only [thenA, inBlockA, noGotoA]); (try simp [-List.reduceReplicate, Nat.add_one_le_iff, -getElem?_pos, -getElem?_neg, List.getElem?_cons_zero, List.getElem?_cons_succ, iC, bC, sC, hlt, h30, hl, hl2, hf]))
       | ((with_reducible first | refine awp_reg 30 hX [0, 2, 3, 4, 12] ?_ | change postOf _ _ _ _ _); simp [-List.reduceReplicate, Nat.add_one_le_iff, -getElem?_pos, -getElem?_neg, List.getElem?_cons_zero, List.getElem?_cons_succ, iC, bC, sC, hlt, h30, hl, hl2, hf])
       | (with_reducible refine awp_if_b rfl (fun hc => ?_) (fun hc => ?_) <;> (try simp [-getElem?_pos, -getElem?_neg] at hc) <;> (try (exfalso; omega)))
       | ((with_reducible first | refine GuardK_b (fun hc => ?_) (fun hc => ?_)) <;> (try simp only [Bool.not_eq_true', Bool.not_eq_false', decide_eq_true_eq, decide_eq_false_iff_not] at hc) <;> (first | (exfalso; omega) | skip) <;> simp [-List.reduceReplicate, Nat.add_one_le_iff, -getElem?_pos, -getElem?_neg, List.getElem?_cons_zero, List.getElem?_cons_succ, iC, bC, sC, hlt, h30, hl, hl2, hf, hc])
       | ((with_reducible first | refine hother _ _ rfl ?_); simp only [inBlockA, thenA, noGotoA, Nat.reduceEqDiff, if_false, if_true, ↓reduceIte])
       | (with_reducible refine And.intro (by omega) ?_)
       | fail)
  · have hi2 : min keys.length 30 = i := by omega
    rw [hi2] at hf
    by_cases h20 : keys.length ≤ 20
    · simp only [h20, decide_true, Bool.true_and] at hf
      repeat' (first 
       | (with_reducible first | refine awp_scope ?_ | refine awp_seq ?_ | refine awp_block ?_)
       | ((with_reducible first | refine awp_label ?_ | refine awp_skip ?_); try simp only [thenA, inBlockA, noGotoA])
       | (with_reducible refine awp_exit ?_; simp only [thenA, inBlockA, noGotoA, if_true, Nat.reduceEqDiff, if_false, ↓reduceIte])
       | (with_reducible refine awp_ret ?_; (try simp only [thenA, inBlockA, noGotoA]); (try simp [-List.reduceReplicate, Nat.add_one_le_iff, -getElem?_pos, -getElem?_neg, List.getElem?_cons_zero, List.getElem?_cons_succ, iC, bC, sC, hlt, h20, hf]))
       | ((with_reducible first | refine awp_reg 30 hX [0, 2, 3, 4, 12] ?_ | change postOf _ _ _ _ _); simp [-List.reduceReplicate, Nat.add_one_le_iff, -getElem?_pos, -getElem?_neg, List.getElem?_cons_zero, List.getElem?_cons_succ, iC, bC, sC, hlt, h20, hf])
       | (with_reducible refine awp_if_b rfl (fun hc => ?_) (fun hc => ?_) <;> (try simp [-getElem?_pos, -getElem?_neg] at hc) <;> (try (exfalso; omega)))
       | ((with_reducible first | refine GuardK_b (fun hc => ?_) (fun hc => ?_)) <;> (try simp only [Bool.not_eq_true', Bool.not_eq_false', decide_eq_true_eq, decide_eq_false_iff_not] at hc) <;> (first | (exfalso; omega) | skip) <;> simp [-List.reduceReplicate, Nat.add_one_le_iff, -getElem?_pos, -getElem?_neg, List.getElem?_cons_zero, List.getElem?_cons_succ, iC, bC, sC, hlt, h20, hf, hc])
       | ((with_reducible first | refine hother _ _ rfl ?_); simp only [inBlockA, thenA, noGotoA, Nat.reduceEqDiff, if_false, if_true, ↓reduceIte])
       | (with_reducible refine And.intro (by omega) ?_)
       | fail)
    · simp only [h20, decide_false, Bool.false_and] at hf
      repeat' (first 
       | (with_reducible first | refine awp_scope ?_ | refine awp_seq ?_ | refine awp_block ?_)
       | ((with_reducible first | refine awp_label ?_ | refine awp_skip ?_); try simp only [thenA, inBlockA, noGotoA])
       | (with_reducible refine awp_exit ?_; simp only [thenA, inBlockA, noGotoA, if_true, Nat.reduceEqDiff, if_false, ↓reduceIte])
       | (with_reducible refine awp_ret ?_; (try simp only [thenA, inBlockA, noGotoA]); (try simp [-List.reduceReplicate, Nat.add_one_le_iff, -getElem?_pos, -getElem?_neg, List.getElem?_cons_zero, List.getElem?_cons_succ, iC, bC, sC, hlt, h20, hf]))
       | ((with_reducible first | refine awp_reg 30 hX [0, 2, 3, 4, 12] ?_ | change postOf _ _ _ _ _); simp [-List.reduceReplicate, Nat.add_one_le_iff, -getElem?_pos, -getElem?_neg, List.getElem?_cons_zero, List.getElem?_cons_succ, iC, bC, sC, hlt, h20, hf])
       | (with_reducible refine awp_if_b rfl (fun hc => ?_) (fun hc => ?_) <;> (try simp [-getElem?_pos, -getElem?_neg] at hc) <;> (try (exfalso; omega)))
       | ((with_reducible first | refine GuardK_b (fun hc => ?_) (fun hc => ?_)) <;> (try simp only [Bool.not_eq_true', Bool.not_eq_false', decide_eq_true_eq, decide_eq_false_iff_not] at hc) <;> (first | (exfalso; omega) | skip) <;> simp [-List.reduceReplicate, Nat.add_one_le_iff, -getElem?_pos, -getElem?_neg, List.getElem?_cons_zero, List.getElem?_cons_succ, iC, bC, sC, hlt, h20, hf, hc])
       | ((with_reducible first | refine hother _ _ rfl ?_); simp only [inBlockA, thenA, noGotoA, Nat.reduceEqDiff, if_false, if_true, ↓reduceIte])
       | (with_reducible refine And.intro (by omega) ?_)
       | fail)
theorem few_len {keys : List ByteArray} (h : few keys = true) : keys.length ≤ 20 := by
  unfold few at h
  simp only [Bool.and_eq_true, decide_eq_true_eq] at h
  exact h.1
theorem awake45_den : DenV Try.prog 27 [] (.c (bC true)) := by
  refine Den.frame rfl rfl ?_
  have p1 := winner_den [⟨#[97]⟩, ⟨#[98]⟩] [[0, -1], [1, 0]] (by simp) (by simp)
  have p2 := winner_den [] [[0, -1], [1, 0]] (by simp) (by simp)
  have p3 := cupWins_den [[0, -1], [1, 0]] [] (by simp)
  have p4 := (same_den [0, 1] [0, 1] [] (by simp)).le (args := [.c (intsC [0, 1]), .c (.sl [iC 0, iC 1] 2 true)]) ⟨leM_refl _, leM_c (leC_full _ _ _), trivial⟩
  rw [show winI [⟨#[97]⟩, ⟨#[98]⟩] [[0, -1], [1, 0]] = 1 by unfold winI ordI; rw [← insTo_ord]; decide +kernel] at p1
  rw [show winI [] [[0, -1], [1, 0]] = -1 by unfold winI ordI; rw [← insTo_ord]; decide +kernel] at p2
  rw [show winsAll [[0, -1], [1, 0]] ([[0, -1], [1, 0]] : List (List Int)).length = [0, 1] by decide +kernel] at p3
  simp only [strsC, rowsC, intsC, List.map_cons, List.map_nil, List.length_cons, List.length_nil, sC, iC] at p1 p2 p3 p4
  have q1 := fun ob => (p1 ob).le (args := [.c (.sl [.v (.string ⟨#[97]⟩), .v (.string ⟨#[98]⟩)] 2 true), .c (.sl [.sl [.v (.int .i64 0), .v (.int .i64 (-1))] 2 true, .sl [.v (.int .i64 1), .v (.int .i64 0)] 2 true] 2 true)]) ⟨leM_c (leC_full _ _ _), leM_c (leC_sls ⟨leC_full _ _ _, leC_full _ _ _, trivial⟩), trivial⟩
  have q2 := fun ob => (p2 ob).le (args := [.c (.v (.slice none 0 0)), .c (.sl [.sl [.v (.int .i64 0), .v (.int .i64 (-1))] 2 true, .sl [.v (.int .i64 1), .v (.int .i64 0)] 2 true] 2 true)]) ⟨leM_c (leC_nil _), leM_c (leC_sls ⟨leC_full _ _ _, leC_full _ _ _, trivial⟩), trivial⟩
  have q3 := p3.le (args := [.c (.sl [.sl [.v (.int .i64 0), .v (.int .i64 (-1))] 2 true, .sl [.v (.int .i64 1), .v (.int .i64 0)] 2 true] 2 true)]) ⟨leM_c (leC_sls ⟨leC_full _ _ _, leC_full _ _ _, trivial⟩), trivial⟩
  refine den_of Try.func27 rfl rfl (by simp [Try.ntmps27]) (fun X hX hO => ?_)
  rw [Try.ntmps27] at hX
  simp only [Try.results27]
  repeat' (first 
   | (with_reducible first | refine awp_scope ?_ | refine awp_seq ?_ | refine awp_block ?_)
   | ((with_reducible first | refine awp_label ?_ | refine awp_skip ?_); try simp only [thenA, inBlockA, noGotoA])
   | (with_reducible refine awp_exit ?_; simp only [thenA, inBlockA, noGotoA, if_true, Nat.reduceEqDiff, if_false, ↓reduceIte])
   | (with_reducible refine awp_ret ?_; (try simp only [thenA, inBlockA, noGotoA]); (try simp [-List.reduceReplicate, Nat.add_one_le_iff, -getElem?_pos, -getElem?_neg, List.getElem?_cons_zero, List.getElem?_cons_succ, iC, bC]))
   | ((with_reducible first | refine awp_reg 20 hX [0, 1] ?_ | change postOf _ _ _ _ _); simp [-List.reduceReplicate, Nat.add_one_le_iff, -getElem?_pos, -getElem?_neg, List.getElem?_cons_zero, List.getElem?_cons_succ, iC, bC])
   | ((first | (refine (q1 _).det ?_) | (refine (q2 _).det ?_) | (refine (q3).det ?_) | (refine (p4).det ?_)); try simp [-List.reduceReplicate, Nat.add_one_le_iff, -getElem?_pos, -getElem?_neg, List.getElem?_cons_zero, List.getElem?_cons_succ, iC, bC])
   | (with_reducible refine awp_if_b rfl (fun hc => ?_) (fun hc => ?_) <;> (try simp [-getElem?_pos, -getElem?_neg] at hc) <;> (try (exfalso; omega)))
   | ((with_reducible first | refine GuardK_b (fun hc => ?_) (fun hc => ?_)) <;> (try simp only [Bool.not_eq_true', Bool.not_eq_false', decide_eq_true_eq, decide_eq_false_iff_not] at hc) <;> (first | (exfalso; omega) | skip) <;> simp [-List.reduceReplicate, Nat.add_one_le_iff, -getElem?_pos, -getElem?_neg, List.getElem?_cons_zero, List.getElem?_cons_succ, iC, bC, hc])
   | (with_reducible refine And.intro (by omega) ?_)
   | fail)
  all_goals (trace_state; sorry)
set_option maxHeartbeats 4000000 in
theorem cupOrders_den (keys : List ByteArray) (v : List (List Int)) (ob : List Ob) : Den Try.prog 6 [.c (strsC keys), .c (rowsC v)] ob (fun r ob' => r = .c (bC true) ∧ ob' = ob) := by
  refine Den.frame rfl rfl ?_ ob
  have f1 := few_den keys
  by_cases hfw : few keys = true
  · rw [hfw] at f1
    have hkl := few_len hfw
    by_cases hg : great v = true
    · skip
      refine den_of Try.func6 rfl rfl (by simp [Try.ntmps6]) (fun X hX hO => ?_)
      rw [Try.ntmps6] at hX
      simp only [Try.results6]
      repeat' (first 
       | (with_reducible first | refine awp_scope ?_ | refine awp_seq ?_ | refine awp_block ?_)
       | ((with_reducible first | refine awp_label ?_ | refine awp_skip ?_); try simp only [thenA, inBlockA, noGotoA])
       | (with_reducible refine awp_exit ?_; simp only [thenA, inBlockA, noGotoA, if_true, Nat.reduceEqDiff, if_false, ↓reduceIte])
       | (with_reducible refine awp_ret ?_; (try simp only [thenA, inBlockA, noGotoA]); (try simp [-List.reduceReplicate, Nat.add_one_le_iff, -getElem?_pos, -getElem?_neg, List.getElem?_cons_zero, List.getElem?_cons_succ, bC, hg]))
       | ((with_reducible first | refine awp_reg 62 hX [0, 1, 4, 5, 6, 7, 8, 15, 23, 27, 37, 43] ?_ | refine awp_drw 62 hX [0, 1, 4, 5, 6, 7, 8, 15, 23, 27, 37, 43] Tab.mixed (by kernel_rfl) ?_ | refine DEv_cut _ _ _ _ _ _ _ _ _ _ _ _ (by kernel_rfl) ?_ | change postOf _ _ _ _ _); simp [-List.reduceReplicate, Nat.add_one_le_iff, -getElem?_pos, -getElem?_neg, List.getElem?_cons_zero, List.getElem?_cons_succ, bC, hg])
       | ((first | (refine (f1 _).det ?_) | (refine ⟨_, _, f1 _, fun _ => rfl, ?_⟩) | ((with_reducible refine Den.at_ (f := 21) ?_); refine (great_den _ _).det ?_) | ((with_reducible refine drawn_at (f := 21) ?_); refine ⟨_, _, great_den _ _, fun _ => rfl, ?_⟩) | ((with_reducible refine Den.at_ (f := 27) ?_); refine (awake45_den _).det ?_) | ((with_reducible refine drawn_at (f := 27) ?_); refine ⟨_, _, awake45_den _, fun _ => rfl, ?_⟩)); try simp [-List.reduceReplicate, Nat.add_one_le_iff, -getElem?_pos, -getElem?_neg, List.getElem?_cons_zero, List.getElem?_cons_succ, bC, hg])
       | (with_reducible refine awp_if_b rfl (fun hc => ?_) (fun hc => ?_) <;> (try simp [-getElem?_pos, -getElem?_neg] at hc) <;> (try (exfalso; omega)))
       | ((with_reducible first | refine GuardK_b (fun hc => ?_) (fun hc => ?_) | refine DGuard_b _ _ _ _ _ _ _ _ _ _ (fun hc => ?_) (fun hc => ?_)) <;> (try simp only [Bool.not_eq_true', Bool.not_eq_false', decide_eq_true_eq, decide_eq_false_iff_not] at hc) <;> (first | (exfalso; omega) | skip) <;> simp [-List.reduceReplicate, Nat.add_one_le_iff, -getElem?_pos, -getElem?_neg, List.getElem?_cons_zero, List.getElem?_cons_succ, bC, hg, hc])
       | ((with_reducible first | refine hother _ _ rfl ?_); simp only [inBlockA, thenA, noGotoA, Nat.reduceEqDiff, if_false, if_true, ↓reduceIte])
       | (with_reducible refine And.intro (by omega) ?_)
       | fail)
    · obtain ⟨hv, _⟩ := great_no v (by simpa using hg)
      have p1 := cupWins_den v [] (by omega)
      have p2 := order40_den keys v (by omega) (by omega)
      have p3 := order_den keys v (by omega) (by omega)
      have p4 := winner_den keys v (by omega) (by omega)
      have p5 := same_den (ordI keys v) (ordI keys v) [] (by
        have := (ordR_ok keys v).1.length_eq
        unfold ordI
        rw [List.length_map, this]
        simp [runs]; omega)
      have hw : winI keys v = ((ordI keys v)[0]?).getD (-1) := rfl
      have hl := winsAll_len v v.length
      have hwg := fun i (h : i < v.length) => winsAll_get v v.length i h
      have hg2 : great v = false := by simpa using hg
      generalize winI keys v = w at *
      generalize ordI keys v = o at *
      generalize winsAll v v.length = wa at *
      have gd := great_den v []
      rw [hg2] at gd
      unfold strsC rowsC at *
      refine den_of Try.func6 rfl rfl (by simp [Try.ntmps6]) (fun X hX hO => ?_)
      rw [Try.ntmps6] at hX
      simp only [Try.results6]
      repeat' (first 
       | (with_reducible first | refine awp_scope ?_ | refine awp_seq ?_ | refine awp_block ?_)
       | ((with_reducible first | refine awp_label ?_ | refine awp_skip ?_); try simp only [thenA, inBlockA, noGotoA])
       | (with_reducible refine awp_exit ?_; simp only [thenA, inBlockA, noGotoA, if_true, Nat.reduceEqDiff, if_false, ↓reduceIte])
       | (with_reducible refine awp_ret ?_; (try simp only [thenA, inBlockA, noGotoA]); (try simp [-List.reduceReplicate, Nat.add_one_le_iff, -getElem?_pos, -getElem?_neg, List.getElem?_cons_zero, List.getElem?_cons_succ, bC, intsC, hl]))
       | ((with_reducible first | refine awp_reg 62 hX [0, 1, 4, 5, 6, 7, 8, 15, 23, 27, 37, 43] ?_ | refine awp_drw 62 hX [0, 1, 4, 5, 6, 7, 8, 15, 23, 27, 37, 43] Tab.mixed (by kernel_rfl) ?_ | refine DEv_cut _ _ _ _ _ _ _ _ _ _ _ _ (by kernel_rfl) ?_ | change postOf _ _ _ _ _); simp [-List.reduceReplicate, Nat.add_one_le_iff, -getElem?_pos, -getElem?_neg, List.getElem?_cons_zero, List.getElem?_cons_succ, bC, intsC, hl])
       | ((first | (refine (f1 _).det ?_) | (refine ⟨_, _, f1 _, fun _ => rfl, ?_⟩) | (refine (gd).det ?_) | (refine ⟨_, _, gd, fun _ => rfl, ?_⟩) | (refine (p1).det ?_) | (refine ⟨_, _, p1, fun _ => rfl, ?_⟩)); try simp [-List.reduceReplicate, Nat.add_one_le_iff, -getElem?_pos, -getElem?_neg, List.getElem?_cons_zero, List.getElem?_cons_succ, bC, intsC, hl])
       | (with_reducible refine awp_if_b rfl (fun hc => ?_) (fun hc => ?_) <;> (try simp [-getElem?_pos, -getElem?_neg] at hc) <;> (try (exfalso; omega)))
       | ((with_reducible first | refine GuardK_b (fun hc => ?_) (fun hc => ?_) | refine DGuard_b _ _ _ _ _ _ _ _ _ _ (fun hc => ?_) (fun hc => ?_)) <;> (try simp only [Bool.not_eq_true', Bool.not_eq_false', decide_eq_true_eq, decide_eq_false_iff_not] at hc) <;> (first | (exfalso; omega) | skip) <;> simp [-List.reduceReplicate, Nat.add_one_le_iff, -getElem?_pos, -getElem?_neg, List.getElem?_cons_zero, List.getElem?_cons_succ, bC, intsC, hl, hc])
       | ((with_reducible first | refine hother _ _ rfl ?_); simp only [inBlockA, thenA, noGotoA, Nat.reduceEqDiff, if_false, if_true, ↓reduceIte])
       | (with_reducible refine And.intro (by omega) ?_)
       | fail)
      refine awp_forU [0, 1, 5, 6] (fun i (_u : Unit) => [(6, .c (iC i))]) (fun i (_u : Unit) => []) (fun i (_u : Unit) => True) (v.length) (()) (by first | trivial | (simp; done) | omega | (intros; simp at *; done)) (by simp [-List.reduceReplicate, keep, iC]) (by simp [-List.reduceReplicate, iC]) ?_
      rintro i _u Q1 hi hH next hother
      conv => arg 5; arg 1; simp only [List.cons_append, List.nil_append, keep, get, Nat.reduceEqDiff, if_true, if_false, ↓reduceIte]
      have hwi := wrap_in ((i : Int) + 1) (by omega)
      by_cases hlt : i < v.length
      · have g1 := hwg i hlt
        have q1 := wins_den v i [] (by omega)
        unfold rowsC at q1
        repeat' (first 
         | (with_reducible first | refine awp_scope ?_ | refine awp_seq ?_ | refine awp_block ?_)
         | ((with_reducible first | refine awp_label ?_ | refine awp_skip ?_); try simp only [thenA, inBlockA, noGotoA])
         | (with_reducible refine awp_exit ?_; simp only [thenA, inBlockA, noGotoA, if_true, Nat.reduceEqDiff, if_false, ↓reduceIte])
         | (with_reducible refine awp_ret ?_; (try simp only [thenA, inBlockA, noGotoA]); (try simp [-List.reduceReplicate, Nat.add_one_le_iff, -getElem?_pos, -getElem?_neg, List.getElem?_cons_zero, List.getElem?_cons_succ, iC, bC, hlt, g1, hwi]))
         | ((with_reducible first | refine awp_reg 62 hX [0, 1, 4, 5, 6, 7, 8, 15, 23, 27, 37, 43] ?_ | refine awp_drw 62 hX [0, 1, 4, 5, 6, 7, 8, 15, 23, 27, 37, 43] Tab.mixed (by kernel_rfl) ?_ | refine DEv_cut _ _ _ _ _ _ _ _ _ _ _ _ (by kernel_rfl) ?_ | change postOf _ _ _ _ _); simp [-List.reduceReplicate, Nat.add_one_le_iff, -getElem?_pos, -getElem?_neg, List.getElem?_cons_zero, List.getElem?_cons_succ, iC, bC, hlt, g1, hwi])
         | ((first | (refine (q1).det ?_) | (refine ⟨_, _, q1, fun _ => rfl, ?_⟩)); try simp [-List.reduceReplicate, Nat.add_one_le_iff, -getElem?_pos, -getElem?_neg, List.getElem?_cons_zero, List.getElem?_cons_succ, iC, bC, hlt, g1, hwi])
         | (with_reducible refine awp_if_b rfl (fun hc => ?_) (fun hc => ?_) <;> (try simp [-getElem?_pos, -getElem?_neg] at hc) <;> (try (exfalso; omega)))
         | ((with_reducible first | refine GuardK_b (fun hc => ?_) (fun hc => ?_) | refine DGuard_b _ _ _ _ _ _ _ _ _ _ (fun hc => ?_) (fun hc => ?_)) <;> (try simp only [Bool.not_eq_true', Bool.not_eq_false', decide_eq_true_eq, decide_eq_false_iff_not] at hc) <;> (first | (exfalso; omega) | skip) <;> simp [-List.reduceReplicate, Nat.add_one_le_iff, -getElem?_pos, -getElem?_neg, List.getElem?_cons_zero, List.getElem?_cons_succ, iC, bC, hlt, g1, hwi, hc])
         | ((with_reducible first | refine hother _ _ rfl ?_); simp only [inBlockA, thenA, noGotoA, Nat.reduceEqDiff, if_false, if_true, ↓reduceIte])
         | (with_reducible refine And.intro (by omega) ?_)
         | fail)
        refine next _ _ (()) (by omega) (by first | trivial | omega | assumption) (by simp [-List.reduceReplicate, keep, iC]) (by simp [-List.reduceReplicate, iC])
      · have hi2 : i = v.length := by omega
        subst hi2
        simp only [intsC] at *
        cases o with
        | nil =>
          simp at hw
          repeat' (first 
           | (with_reducible first | refine awp_scope ?_ | refine awp_seq ?_ | refine awp_block ?_)
           | ((with_reducible first | refine awp_label ?_ | refine awp_skip ?_); try simp only [thenA, inBlockA, noGotoA])
           | (with_reducible refine awp_exit ?_; simp only [thenA, inBlockA, noGotoA, if_true, Nat.reduceEqDiff, if_false, ↓reduceIte])
           | (with_reducible refine awp_ret ?_; (try simp only [thenA, inBlockA, noGotoA]); (try simp [-List.reduceReplicate, Nat.add_one_le_iff, -getElem?_pos, -getElem?_neg, List.getElem?_cons_zero, List.getElem?_cons_succ, iC, bC, hlt, hw]))
           | ((with_reducible first | refine awp_reg 62 hX [0, 1, 4, 5, 6, 7, 8, 15, 23, 27, 37, 43] ?_ | refine awp_drw 62 hX [0, 1, 4, 5, 6, 7, 8, 15, 23, 27, 37, 43] Tab.mixed (by kernel_rfl) ?_ | refine DEv_cut _ _ _ _ _ _ _ _ _ _ _ _ (by kernel_rfl) ?_ | change postOf _ _ _ _ _); simp [-List.reduceReplicate, Nat.add_one_le_iff, -getElem?_pos, -getElem?_neg, List.getElem?_cons_zero, List.getElem?_cons_succ, iC, bC, hlt, hw])
           | ((first | (refine (p2 _).det ?_) | (refine ⟨_, _, p2 _, fun _ => rfl, ?_⟩) | (refine (p3 _).det ?_) | (refine ⟨_, _, p3 _, fun _ => rfl, ?_⟩) | (refine (p4 _).det ?_) | (refine ⟨_, _, p4 _, fun _ => rfl, ?_⟩) | (refine (p5).det ?_) | (refine ⟨_, _, p5, fun _ => rfl, ?_⟩) | ((with_reducible refine Den.at_ (f := 27) ?_); refine (awake45_den _).det ?_) | ((with_reducible refine drawn_at (f := 27) ?_); refine ⟨_, _, awake45_den _, fun _ => rfl, ?_⟩)); try simp [-List.reduceReplicate, Nat.add_one_le_iff, -getElem?_pos, -getElem?_neg, List.getElem?_cons_zero, List.getElem?_cons_succ, iC, bC, hlt, hw])
           | (with_reducible refine awp_if_b rfl (fun hc => ?_) (fun hc => ?_) <;> (try simp [-getElem?_pos, -getElem?_neg] at hc) <;> (try (exfalso; omega)))
           | ((with_reducible first | refine GuardK_b (fun hc => ?_) (fun hc => ?_) | refine DGuard_b _ _ _ _ _ _ _ _ _ _ (fun hc => ?_) (fun hc => ?_)) <;> (try simp only [Bool.not_eq_true', Bool.not_eq_false', decide_eq_true_eq, decide_eq_false_iff_not] at hc) <;> (first | (exfalso; omega) | skip) <;> simp [-List.reduceReplicate, Nat.add_one_le_iff, -getElem?_pos, -getElem?_neg, List.getElem?_cons_zero, List.getElem?_cons_succ, iC, bC, hlt, hw, hc])
           | ((with_reducible first | refine hother _ _ rfl ?_); simp only [inBlockA, thenA, noGotoA, Nat.reduceEqDiff, if_false, if_true, ↓reduceIte])
           | (with_reducible refine And.intro (by omega) ?_)
           | fail)
        | cons x o =>
          simp at hw
          repeat' (first 
           | (with_reducible first | refine awp_scope ?_ | refine awp_seq ?_ | refine awp_block ?_)
           | ((with_reducible first | refine awp_label ?_ | refine awp_skip ?_); try simp only [thenA, inBlockA, noGotoA])
           | (with_reducible refine awp_exit ?_; simp only [thenA, inBlockA, noGotoA, if_true, Nat.reduceEqDiff, if_false, ↓reduceIte])
           | (with_reducible refine awp_ret ?_; (try simp only [thenA, inBlockA, noGotoA]); (try simp [-List.reduceReplicate, Nat.add_one_le_iff, -getElem?_pos, -getElem?_neg, List.getElem?_cons_zero, List.getElem?_cons_succ, iC, bC, hlt, hw]))
           | ((with_reducible first | refine awp_reg 62 hX [0, 1, 4, 5, 6, 7, 8, 15, 23, 27, 37, 43] ?_ | refine awp_drw 62 hX [0, 1, 4, 5, 6, 7, 8, 15, 23, 27, 37, 43] Tab.mixed (by kernel_rfl) ?_ | refine DEv_cut _ _ _ _ _ _ _ _ _ _ _ _ (by kernel_rfl) ?_ | change postOf _ _ _ _ _); simp [-List.reduceReplicate, Nat.add_one_le_iff, -getElem?_pos, -getElem?_neg, List.getElem?_cons_zero, List.getElem?_cons_succ, iC, bC, hlt, hw])
           | ((first | (refine (p2 _).det ?_) | (refine ⟨_, _, p2 _, fun _ => rfl, ?_⟩) | (refine (p3 _).det ?_) | (refine ⟨_, _, p3 _, fun _ => rfl, ?_⟩) | (refine (p4 _).det ?_) | (refine ⟨_, _, p4 _, fun _ => rfl, ?_⟩) | (refine (p5).det ?_) | (refine ⟨_, _, p5, fun _ => rfl, ?_⟩) | ((with_reducible refine Den.at_ (f := 27) ?_); refine (awake45_den _).det ?_) | ((with_reducible refine drawn_at (f := 27) ?_); refine ⟨_, _, awake45_den _, fun _ => rfl, ?_⟩)); try simp [-List.reduceReplicate, Nat.add_one_le_iff, -getElem?_pos, -getElem?_neg, List.getElem?_cons_zero, List.getElem?_cons_succ, iC, bC, hlt, hw])
           | (with_reducible refine awp_if_b rfl (fun hc => ?_) (fun hc => ?_) <;> (try simp [-getElem?_pos, -getElem?_neg] at hc) <;> (try (exfalso; omega)))
           | ((with_reducible first | refine GuardK_b (fun hc => ?_) (fun hc => ?_) | refine DGuard_b _ _ _ _ _ _ _ _ _ _ (fun hc => ?_) (fun hc => ?_)) <;> (try simp only [Bool.not_eq_true', Bool.not_eq_false', decide_eq_true_eq, decide_eq_false_iff_not] at hc) <;> (first | (exfalso; omega) | skip) <;> simp [-List.reduceReplicate, Nat.add_one_le_iff, -getElem?_pos, -getElem?_neg, List.getElem?_cons_zero, List.getElem?_cons_succ, iC, bC, hlt, hw, hc])
           | ((with_reducible first | refine hother _ _ rfl ?_); simp only [inBlockA, thenA, noGotoA, Nat.reduceEqDiff, if_false, if_true, ↓reduceIte])
           | (with_reducible refine And.intro (by omega) ?_)
           | fail)
  · have hfw2 : few keys = false := by simpa using hfw
    rw [hfw2] at f1
    refine den_of Try.func6 rfl rfl (by simp [Try.ntmps6]) (fun X hX hO => ?_)
    rw [Try.ntmps6] at hX
    simp only [Try.results6]
    repeat' (first 
     | (with_reducible first | refine awp_scope ?_ | refine awp_seq ?_ | refine awp_block ?_)
     | ((with_reducible first | refine awp_label ?_ | refine awp_skip ?_); try simp only [thenA, inBlockA, noGotoA])
     | (with_reducible refine awp_exit ?_; simp only [thenA, inBlockA, noGotoA, if_true, Nat.reduceEqDiff, if_false, ↓reduceIte])
     | (with_reducible refine awp_ret ?_; (try simp only [thenA, inBlockA, noGotoA]); (try simp [-List.reduceReplicate, Nat.add_one_le_iff, -getElem?_pos, -getElem?_neg, List.getElem?_cons_zero, List.getElem?_cons_succ, bC]))
     | ((with_reducible first | refine awp_reg 62 hX [0, 1, 4, 5, 6, 7, 8, 15, 23, 27, 37, 43] ?_ | refine awp_drw 62 hX [0, 1, 4, 5, 6, 7, 8, 15, 23, 27, 37, 43] Tab.mixed (by kernel_rfl) ?_ | refine DEv_cut _ _ _ _ _ _ _ _ _ _ _ _ (by kernel_rfl) ?_ | change postOf _ _ _ _ _); simp [-List.reduceReplicate, Nat.add_one_le_iff, -getElem?_pos, -getElem?_neg, List.getElem?_cons_zero, List.getElem?_cons_succ, bC])
     | ((first | (refine (f1 _).det ?_) | (refine ⟨_, _, f1 _, fun _ => rfl, ?_⟩) | ((with_reducible refine Den.at_ (f := 27) ?_); refine (awake45_den _).det ?_) | ((with_reducible refine drawn_at (f := 27) ?_); refine ⟨_, _, awake45_den _, fun _ => rfl, ?_⟩)); try simp [-List.reduceReplicate, Nat.add_one_le_iff, -getElem?_pos, -getElem?_neg, List.getElem?_cons_zero, List.getElem?_cons_succ, bC])
     | (with_reducible refine awp_if_b rfl (fun hc => ?_) (fun hc => ?_) <;> (try simp [-getElem?_pos, -getElem?_neg] at hc) <;> (try (exfalso; omega)))
     | ((with_reducible first | refine GuardK_b (fun hc => ?_) (fun hc => ?_) | refine DGuard_b _ _ _ _ _ _ _ _ _ _ (fun hc => ?_) (fun hc => ?_)) <;> (try simp only [Bool.not_eq_true', Bool.not_eq_false', decide_eq_true_eq, decide_eq_false_iff_not] at hc) <;> (first | (exfalso; omega) | skip) <;> simp [-List.reduceReplicate, Nat.add_one_le_iff, -getElem?_pos, -getElem?_neg, List.getElem?_cons_zero, List.getElem?_cons_succ, bC, hc])
     | ((with_reducible first | refine hother _ _ rfl ?_); simp only [inBlockA, thenA, noGotoA, Nat.reduceEqDiff, if_false, if_true, ↓reduceIte])
     | (with_reducible refine And.intro (by omega) ?_)
     | fail)
theorem opens_strsC {P : Program} {t e : TypeId} (ht : P.underlying t = some (.slice e)) (he : P.underlying e = some .string) (hc : P.cellsOf e = 1) :
    Opens P t (fun l => [strsC l]) (fun l => l.length ≤ maxLen ∧ ∀ s ∈ l, s.size ≤ maxLen) :=
  (opens_slice ht (by simp [hc]) (opens_string he)).conv fun l hl => ⟨l, hl, by rw [flat_one]; rfl⟩
end Go.Av
