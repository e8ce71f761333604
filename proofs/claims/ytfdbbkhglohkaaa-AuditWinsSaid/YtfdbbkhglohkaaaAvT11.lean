import Derived.Test.YtfdbbkhglohkaaaAvT10
import Derived.Test.YtfdbbkhglohkaaaAv20
set_option linter.unusedVariables false
set_option linter.unusedSimpArgs false
namespace Go.Av
open Go Go.Proofs Go.Proofs.Ytfdbbkhglohkaaa
attribute [local simp] Try.underlying22 Try.underlying23 Try.underlying3 Try.underlying4 Try.underlying40 Try.underlying9
theorem opens_strs {P : Program} {t e : TypeId} (ht : P.underlying t = some (.slice e)) (he : P.underlying e = some .string) (hc : P.cellsOf e = 1) :
    Opens P t (fun l => [strsC l]) (fun l => l.length ≤ maxLen ∧ ∀ s ∈ l, s.size ≤ maxLen) :=
  (opens_slice ht (by simp [hc]) (opens_string he)).conv fun l hl => ⟨l, hl, by rw [flat_one]; rfl⟩
def badAt (keys : List ByteArray) (v : List (List Int)) (a : Int) (i : Nat) : Bool := worse keys v a.toNat i || (decide ((winsTo v i v.length : Int) = v.length - 1) && !decide ((i : Int) = a))
def preW (keys : List ByteArray) (v : List (List Int)) (a : Int) : Bool := decide (0 ≤ a) && (decide (a < keys.length) && decide (keys.length = v.length))
def wantW (keys : List ByteArray) (v : List (List Int)) (a : Int) (m : Nat) : Bool := preW keys v a && (List.range m).all fun i => !badAt keys v a i
theorem awins_want (keys : List ByteArray) (v : List (List Int)) (a : Int) : awins keys v a = wantW keys v a v.length := by
  have htop : ∀ i, i < v.length → (isTop v i = true ↔ ((winsTo v i v.length : Int) = v.length - 1)) := fun i hi => by rw [isTop_wins v i hi]; simp
  rw [Bool.eq_iff_iff]
  simp only [awins, wantW, preW, badAt, Bool.and_eq_true, List.all_eq_true, List.mem_range, decide_eq_true_eq, Bool.not_eq_true', Bool.or_eq_false_iff, Bool.and_eq_false_iff, decide_eq_false_iff_not]
  constructor
  · rintro ⟨⟨⟨⟨h1, h2⟩, h3⟩, h4⟩, h5⟩
    refine ⟨⟨h1, h2, h3.symm⟩, fun i hi => ⟨h4 i hi, ?_⟩⟩
    by_cases h : (winsTo v i v.length : Int) = v.length - 1
    · refine .inr ?_
      have hm : (i : Int) ∈ tops v := by
        unfold tops topsTo
        simp only [List.mem_map, List.mem_filter, List.mem_range]
        exact ⟨i, ⟨hi, (htop i hi).2 h⟩, rfl⟩
      simp [h5 _ hm]
    · exact .inl h
  · rintro ⟨⟨h1, h2, h3⟩, h4⟩
    refine ⟨⟨⟨⟨h1, h2⟩, h3.symm⟩, fun i hi => (h4 i hi).1⟩, fun t ht => ?_⟩
    unfold tops topsTo at ht
    simp only [List.mem_map, List.mem_filter, List.mem_range] at ht
    obtain ⟨i, ⟨hi, hit⟩, rfl⟩ := ht
    rcases (h4 i hi).2 with h | h
    · exact absurd ((htop i hi).1 hit) h
    · simpa using h
theorem wantW_false (keys : List ByteArray) (v : List (List Int)) (a : Int) (m n : Nat) (h : m ≤ n) (hf : wantW keys v a m = false) : wantW keys v a n = false := by
  unfold wantW at *
  cases hl : preW keys v a with
  | false => rfl
  | true =>
    rw [hl, Bool.true_and] at hf
    rw [Bool.true_and]
    rw [List.all_eq_false] at hf ⊢
    obtain ⟨x, hx, hp⟩ := hf
    exact ⟨x, by simp at hx ⊢; omega, hp⟩
set_option maxRecDepth 100000 in
set_option maxHeartbeats 8000000 in
theorem auditWinsLaw_den (keys : List ByteArray) (v : List (List Int)) (a : Int) (ob : List Ob) : Den Try.prog 9 [.c (strsC keys), .c (rowsC v), .c (iC a)] ob (fun r ob' => r = .c (bC true) ∧ ob' = ob) := by
  refine den_of Try.func9 rfl rfl (by simp [Try.ntmps9]) (fun X hX hO => ?_)
  rw [Try.ntmps9] at hX
  simp only [Try.results9]
  by_cases hg : great v = true
  · repeat' (first 
      | with_reducible refine awp_scope ?_
      | with_reducible refine awp_seq ?_
      | with_reducible refine awp_block ?_
      | (with_reducible refine awp_label ?_; simp only [thenA, inBlockA, noGotoA])
      | (with_reducible refine awp_skip ?_; simp only [thenA, inBlockA, noGotoA])
      | (with_reducible refine awp_exit ?_; simp only [thenA, inBlockA, noGotoA, if_true, Nat.reduceEqDiff, if_false, ↓reduceIte])
      | (with_reducible refine awp_ret ?_; (try simp only [thenA, inBlockA, noGotoA]); (try simp [-getElem?_pos, -getElem?_neg, List.getElem?_cons_zero, List.getElem?_cons_succ, strsC, rowsC, bC, iC, hg]))
      | (with_reducible refine awp_reg 103 hX [0, 1, 2, 6, 7, 8, 9, 10, 11, 18, 23, 28, 29, 31, 39, 40, 46, 51, 54, 65, 66, 69, 70, 71, 73, 74, 75, 77, 78, 79, 80, 81, 83, 85, 86, 87, 93, 98] ?_; simp [-getElem?_pos, -getElem?_neg, List.getElem?_cons_zero, List.getElem?_cons_succ, strsC, rowsC, bC, iC, hg])
      | (with_reducible refine awp_drw 103 hX [0, 1, 2, 6, 7, 8, 9, 10, 11, 18, 23, 28, 29, 31, 39, 40, 46, 51, 54, 65, 66, 69, 70, 71, 73, 74, 75, 77, 78, 79, 80, 81, 83, 85, 86, 87, 93, 98] Tab.mixed (by kernel_rfl) ?_; simp [-getElem?_pos, -getElem?_neg, List.getElem?_cons_zero, List.getElem?_cons_succ, strsC, rowsC, bC, iC, hg])
      | (refine (great_den _ _).det ?_; try simp [-getElem?_pos, -getElem?_neg, List.getElem?_cons_zero, List.getElem?_cons_succ, strsC, rowsC, bC, iC, hg])
      | (refine ⟨_, great_den _ _, ?_⟩; simp [-getElem?_pos, -getElem?_neg, List.getElem?_cons_zero, List.getElem?_cons_succ, strsC, rowsC, bC, iC, hg])
      | (refine (awake57_den _).det ?_; try simp [-getElem?_pos, -getElem?_neg, List.getElem?_cons_zero, List.getElem?_cons_succ, strsC, rowsC, bC, iC, hg])
      | (refine ⟨_, awake57_den _, ?_⟩; simp [-getElem?_pos, -getElem?_neg, List.getElem?_cons_zero, List.getElem?_cons_succ, strsC, rowsC, bC, iC, hg])
      | (with_reducible refine awp_if_b rfl (fun hc => ?_) (fun hc => ?_) <;> (try simp [-getElem?_pos, -getElem?_neg] at hc) <;> (try (exfalso; omega)))
      | (with_reducible refine GuardK_b (fun hc => ?_) (fun hc => ?_) <;> (try simp only [Bool.not_eq_true', Bool.not_eq_false', decide_eq_true_eq, decide_eq_false_iff_not] at hc) <;> (first | (exfalso; omega) | skip) <;> simp [-getElem?_pos, -getElem?_neg, List.getElem?_cons_zero, List.getElem?_cons_succ, strsC, rowsC, bC, iC, hg, hc])
      | (with_reducible refine DGuard_b _ _ _ _ _ _ _ _ (fun hc => ?_) (fun hc => ?_) <;> (try simp only [Bool.not_eq_true', Bool.not_eq_false', decide_eq_true_eq, decide_eq_false_iff_not] at hc) <;> (first | (exfalso; omega) | skip) <;> simp [-getElem?_pos, -getElem?_neg, List.getElem?_cons_zero, List.getElem?_cons_succ, strsC, rowsC, bC, iC, hg, hc])
      | (refine hother _ _ rfl ?_; simp only [inBlockA, thenA, noGotoA, Nat.reduceEqDiff, if_false, if_true, ↓reduceIte])
      | (refine hother2 _ _ rfl ?_; simp only [inBlockA, thenA, noGotoA, Nat.reduceEqDiff, if_false, if_true, ↓reduceIte])
      | (refine hother3 _ _ rfl ?_; simp only [inBlockA, thenA, noGotoA, Nat.reduceEqDiff, if_false, if_true, ↓reduceIte])
      | (refine And.intro (by omega) ?_)
      | (with_reducible change postOf _ _ _ _; simp [-getElem?_pos, -getElem?_neg, List.getElem?_cons_zero, List.getElem?_cons_succ, strsC, rowsC, bC, iC, hg])
      | fail)
  have hg : great v = false := by simpa using hg
  obtain ⟨hv, hr⟩ := great_no v hg
  by_cases hk : 20 < keys.length
  · repeat' (first 
      | with_reducible refine awp_scope ?_
      | with_reducible refine awp_seq ?_
      | with_reducible refine awp_block ?_
      | (with_reducible refine awp_label ?_; simp only [thenA, inBlockA, noGotoA])
      | (with_reducible refine awp_skip ?_; simp only [thenA, inBlockA, noGotoA])
      | (with_reducible refine awp_exit ?_; simp only [thenA, inBlockA, noGotoA, if_true, Nat.reduceEqDiff, if_false, ↓reduceIte])
      | (with_reducible refine awp_ret ?_; (try simp only [thenA, inBlockA, noGotoA]); (try simp [-getElem?_pos, -getElem?_neg, List.getElem?_cons_zero, List.getElem?_cons_succ, strsC, rowsC, bC, iC, hg, hk]))
      | (with_reducible refine awp_reg 103 hX [0, 1, 2, 6, 7, 8, 9, 10, 11, 18, 23, 28, 29, 31, 39, 40, 46, 51, 54, 65, 66, 69, 70, 71, 73, 74, 75, 77, 78, 79, 80, 81, 83, 85, 86, 87, 93, 98] ?_; simp [-getElem?_pos, -getElem?_neg, List.getElem?_cons_zero, List.getElem?_cons_succ, strsC, rowsC, bC, iC, hg, hk])
      | (with_reducible refine awp_drw 103 hX [0, 1, 2, 6, 7, 8, 9, 10, 11, 18, 23, 28, 29, 31, 39, 40, 46, 51, 54, 65, 66, 69, 70, 71, 73, 74, 75, 77, 78, 79, 80, 81, 83, 85, 86, 87, 93, 98] Tab.mixed (by kernel_rfl) ?_; simp [-getElem?_pos, -getElem?_neg, List.getElem?_cons_zero, List.getElem?_cons_succ, strsC, rowsC, bC, iC, hg, hk])
      | (refine (great_den _ _).det ?_; try simp [-getElem?_pos, -getElem?_neg, List.getElem?_cons_zero, List.getElem?_cons_succ, strsC, rowsC, bC, iC, hg, hk])
      | (refine ⟨_, great_den _ _, ?_⟩; simp [-getElem?_pos, -getElem?_neg, List.getElem?_cons_zero, List.getElem?_cons_succ, strsC, rowsC, bC, iC, hg, hk])
      | (refine (awake57_den _).det ?_; try simp [-getElem?_pos, -getElem?_neg, List.getElem?_cons_zero, List.getElem?_cons_succ, strsC, rowsC, bC, iC, hg, hk])
      | (refine ⟨_, awake57_den _, ?_⟩; simp [-getElem?_pos, -getElem?_neg, List.getElem?_cons_zero, List.getElem?_cons_succ, strsC, rowsC, bC, iC, hg, hk])
      | (with_reducible refine awp_if_b rfl (fun hc => ?_) (fun hc => ?_) <;> (try simp [-getElem?_pos, -getElem?_neg] at hc) <;> (try (exfalso; omega)))
      | (with_reducible refine GuardK_b (fun hc => ?_) (fun hc => ?_) <;> (try simp only [Bool.not_eq_true', Bool.not_eq_false', decide_eq_true_eq, decide_eq_false_iff_not] at hc) <;> (first | (exfalso; omega) | skip) <;> simp [-getElem?_pos, -getElem?_neg, List.getElem?_cons_zero, List.getElem?_cons_succ, strsC, rowsC, bC, iC, hg, hk, hc])
      | (with_reducible refine DGuard_b _ _ _ _ _ _ _ _ (fun hc => ?_) (fun hc => ?_) <;> (try simp only [Bool.not_eq_true', Bool.not_eq_false', decide_eq_true_eq, decide_eq_false_iff_not] at hc) <;> (first | (exfalso; omega) | skip) <;> simp [-getElem?_pos, -getElem?_neg, List.getElem?_cons_zero, List.getElem?_cons_succ, strsC, rowsC, bC, iC, hg, hk, hc])
      | (refine hother _ _ rfl ?_; simp only [inBlockA, thenA, noGotoA, Nat.reduceEqDiff, if_false, if_true, ↓reduceIte])
      | (refine hother2 _ _ rfl ?_; simp only [inBlockA, thenA, noGotoA, Nat.reduceEqDiff, if_false, if_true, ↓reduceIte])
      | (refine hother3 _ _ rfl ?_; simp only [inBlockA, thenA, noGotoA, Nat.reduceEqDiff, if_false, if_true, ↓reduceIte])
      | (refine And.intro (by omega) ?_)
      | (with_reducible change postOf _ _ _ _; simp [-getElem?_pos, -getElem?_neg, List.getElem?_cons_zero, List.getElem?_cons_succ, strsC, rowsC, bC, iC, hg, hk])
      | fail)
  repeat' (first 
    | with_reducible refine awp_scope ?_
    | with_reducible refine awp_seq ?_
    | with_reducible refine awp_block ?_
    | (with_reducible refine awp_label ?_; simp only [thenA, inBlockA, noGotoA])
    | (with_reducible refine awp_skip ?_; simp only [thenA, inBlockA, noGotoA])
    | (with_reducible refine awp_exit ?_; simp only [thenA, inBlockA, noGotoA, if_true, Nat.reduceEqDiff, if_false, ↓reduceIte])
    | (with_reducible refine awp_ret ?_; (try simp only [thenA, inBlockA, noGotoA]); (try simp [-getElem?_pos, -getElem?_neg, List.getElem?_cons_zero, List.getElem?_cons_succ, strsC, rowsC, bC, iC, hg, hk]))
    | (with_reducible refine awp_reg 103 hX [0, 1, 2, 6, 7, 8, 9, 10, 11, 18, 23, 28, 29, 31, 39, 40, 46, 51, 54, 65, 66, 69, 70, 71, 73, 74, 75, 77, 78, 79, 80, 81, 83, 85, 86, 87, 93, 98] ?_; simp [-getElem?_pos, -getElem?_neg, List.getElem?_cons_zero, List.getElem?_cons_succ, strsC, rowsC, bC, iC, hg, hk])
    | (with_reducible refine awp_drw 103 hX [0, 1, 2, 6, 7, 8, 9, 10, 11, 18, 23, 28, 29, 31, 39, 40, 46, 51, 54, 65, 66, 69, 70, 71, 73, 74, 75, 77, 78, 79, 80, 81, 83, 85, 86, 87, 93, 98] Tab.mixed (by kernel_rfl) ?_; simp [-getElem?_pos, -getElem?_neg, List.getElem?_cons_zero, List.getElem?_cons_succ, strsC, rowsC, bC, iC, hg, hk])
    | (refine (great_den _ _).det ?_; try simp [-getElem?_pos, -getElem?_neg, List.getElem?_cons_zero, List.getElem?_cons_succ, strsC, rowsC, bC, iC, hg, hk])
    | (refine ⟨_, great_den _ _, ?_⟩; simp [-getElem?_pos, -getElem?_neg, List.getElem?_cons_zero, List.getElem?_cons_succ, strsC, rowsC, bC, iC, hg, hk])
    | (refine (awake57_den _).det ?_; try simp [-getElem?_pos, -getElem?_neg, List.getElem?_cons_zero, List.getElem?_cons_succ, strsC, rowsC, bC, iC, hg, hk])
    | (refine ⟨_, awake57_den _, ?_⟩; simp [-getElem?_pos, -getElem?_neg, List.getElem?_cons_zero, List.getElem?_cons_succ, strsC, rowsC, bC, iC, hg, hk])
    | (with_reducible refine awp_if_b rfl (fun hc => ?_) (fun hc => ?_) <;> (try simp [-getElem?_pos, -getElem?_neg] at hc) <;> (try (exfalso; omega)))
    | (with_reducible refine GuardK_b (fun hc => ?_) (fun hc => ?_) <;> (try simp only [Bool.not_eq_true', Bool.not_eq_false', decide_eq_true_eq, decide_eq_false_iff_not] at hc) <;> (first | (exfalso; omega) | skip) <;> simp [-getElem?_pos, -getElem?_neg, List.getElem?_cons_zero, List.getElem?_cons_succ, strsC, rowsC, bC, iC, hg, hk, hc])
    | (with_reducible refine DGuard_b _ _ _ _ _ _ _ _ (fun hc => ?_) (fun hc => ?_) <;> (try simp only [Bool.not_eq_true', Bool.not_eq_false', decide_eq_true_eq, decide_eq_false_iff_not] at hc) <;> (first | (exfalso; omega) | skip) <;> simp [-getElem?_pos, -getElem?_neg, List.getElem?_cons_zero, List.getElem?_cons_succ, strsC, rowsC, bC, iC, hg, hk, hc])
    | (refine hother _ _ rfl ?_; simp only [inBlockA, thenA, noGotoA, Nat.reduceEqDiff, if_false, if_true, ↓reduceIte])
    | (refine hother2 _ _ rfl ?_; simp only [inBlockA, thenA, noGotoA, Nat.reduceEqDiff, if_false, if_true, ↓reduceIte])
    | (refine hother3 _ _ rfl ?_; simp only [inBlockA, thenA, noGotoA, Nat.reduceEqDiff, if_false, if_true, ↓reduceIte])
    | (refine And.intro (by omega) ?_)
    | (with_reducible change postOf _ _ _ _; simp [-getElem?_pos, -getElem?_neg, List.getElem?_cons_zero, List.getElem?_cons_succ, strsC, rowsC, bC, iC, hg, hk])
    | fail)
  refine awp_for [0, 1, 2, 7] (fun i (_ : Unit) => ⟨[(0, .c (strsC keys)), (1, .c (rowsC v)), (2, .c (iC a)), (7, .c (iC i))], ob⟩) (fun _ _ => True) keys.length () trivial (by simp [strsC, rowsC, iC]) ?_
  rintro i - Q1 hi - next hother
  have hwi := wrap_in ((i : Int) + 1) (by omega)
  by_cases hlt : i < keys.length
  · obtain ⟨ki, hki⟩ := getI keys (i : Nat) (by omega) (by omega)
    simp only [Int.toNat_natCast] at hki
    repeat' (first 
      | with_reducible refine awp_scope ?_
      | with_reducible refine awp_seq ?_
      | with_reducible refine awp_block ?_
      | (with_reducible refine awp_label ?_; simp only [thenA, inBlockA, noGotoA])
      | (with_reducible refine awp_skip ?_; simp only [thenA, inBlockA, noGotoA])
      | (with_reducible refine awp_exit ?_; simp only [thenA, inBlockA, noGotoA, if_true, Nat.reduceEqDiff, if_false, ↓reduceIte])
      | (with_reducible refine awp_ret ?_; (try simp only [thenA, inBlockA, noGotoA]); (try simp [-getElem?_pos, -getElem?_neg, List.getElem?_cons_zero, List.getElem?_cons_succ, strsC, rowsC, bC, iC, sC, hlt, hki, hwi]))
      | (with_reducible refine awp_reg 103 hX [0, 1, 2, 6, 7, 8, 9, 10, 11, 18, 23, 28, 29, 31, 39, 40, 46, 51, 54, 65, 66, 69, 70, 71, 73, 74, 75, 77, 78, 79, 80, 81, 83, 85, 86, 87, 93, 98] ?_; simp [-getElem?_pos, -getElem?_neg, List.getElem?_cons_zero, List.getElem?_cons_succ, strsC, rowsC, bC, iC, sC, hlt, hki, hwi])
      | (with_reducible refine awp_drw 103 hX [0, 1, 2, 6, 7, 8, 9, 10, 11, 18, 23, 28, 29, 31, 39, 40, 46, 51, 54, 65, 66, 69, 70, 71, 73, 74, 75, 77, 78, 79, 80, 81, 83, 85, 86, 87, 93, 98] Tab.mixed (by kernel_rfl) ?_; simp [-getElem?_pos, -getElem?_neg, List.getElem?_cons_zero, List.getElem?_cons_succ, strsC, rowsC, bC, iC, sC, hlt, hki, hwi])
      | (refine (awake57_den _).det ?_; try simp [-getElem?_pos, -getElem?_neg, List.getElem?_cons_zero, List.getElem?_cons_succ, strsC, rowsC, bC, iC, sC, hlt, hki, hwi])
      | (refine ⟨_, awake57_den _, ?_⟩; simp [-getElem?_pos, -getElem?_neg, List.getElem?_cons_zero, List.getElem?_cons_succ, strsC, rowsC, bC, iC, sC, hlt, hki, hwi])
      | (with_reducible refine awp_if_b rfl (fun hc => ?_) (fun hc => ?_) <;> (try simp [-getElem?_pos, -getElem?_neg] at hc) <;> (try (exfalso; omega)))
      | (with_reducible refine GuardK_b (fun hc => ?_) (fun hc => ?_) <;> (try simp only [Bool.not_eq_true', Bool.not_eq_false', decide_eq_true_eq, decide_eq_false_iff_not] at hc) <;> (first | (exfalso; omega) | skip) <;> simp [-getElem?_pos, -getElem?_neg, List.getElem?_cons_zero, List.getElem?_cons_succ, strsC, rowsC, bC, iC, sC, hlt, hki, hwi, hc])
      | (with_reducible refine DGuard_b _ _ _ _ _ _ _ _ (fun hc => ?_) (fun hc => ?_) <;> (try simp only [Bool.not_eq_true', Bool.not_eq_false', decide_eq_true_eq, decide_eq_false_iff_not] at hc) <;> (first | (exfalso; omega) | skip) <;> simp [-getElem?_pos, -getElem?_neg, List.getElem?_cons_zero, List.getElem?_cons_succ, strsC, rowsC, bC, iC, sC, hlt, hki, hwi, hc])
      | (refine hother _ _ rfl ?_; simp only [inBlockA, thenA, noGotoA, Nat.reduceEqDiff, if_false, if_true, ↓reduceIte])
      | (refine hother2 _ _ rfl ?_; simp only [inBlockA, thenA, noGotoA, Nat.reduceEqDiff, if_false, if_true, ↓reduceIte])
      | (refine hother3 _ _ rfl ?_; simp only [inBlockA, thenA, noGotoA, Nat.reduceEqDiff, if_false, if_true, ↓reduceIte])
      | (refine And.intro (by omega) ?_)
      | (with_reducible change postOf _ _ _ _; simp [-getElem?_pos, -getElem?_neg, List.getElem?_cons_zero, List.getElem?_cons_succ, strsC, rowsC, bC, iC, sC, hlt, hki, hwi])
      | fail)
    refine next _ () (by omega) trivial ?_; simp [strsC, rowsC, iC, sC]
  have hik : i = keys.length := by omega
  subst hik
  by_cases hp : preW keys v a = true
  · obtain ⟨n, rfl⟩ : ∃ n : Nat, a = n := ⟨a.toNat, by simp [preW] at hp; omega⟩
    have hp' := hp
    simp only [preW, Bool.and_eq_true, decide_eq_true_eq] at hp'
    obtain ⟨h1, h2, h3⟩ := hp'
    repeat' (first 
      | with_reducible refine awp_scope ?_
      | with_reducible refine awp_seq ?_
      | with_reducible refine awp_block ?_
      | (with_reducible refine awp_label ?_; simp only [thenA, inBlockA, noGotoA])
      | (with_reducible refine awp_skip ?_; simp only [thenA, inBlockA, noGotoA])
      | (with_reducible refine awp_exit ?_; simp only [thenA, inBlockA, noGotoA, if_true, Nat.reduceEqDiff, if_false, ↓reduceIte])
      | (with_reducible refine awp_ret ?_; (try simp only [thenA, inBlockA, noGotoA]); (try simp [-getElem?_pos, -getElem?_neg, List.getElem?_cons_zero, List.getElem?_cons_succ, strsC, rowsC, bC, iC, sC, hlt, h1, h2, h3]))
      | (with_reducible refine awp_reg 103 hX [0, 1, 2, 6, 7, 8, 9, 10, 11, 18, 23, 28, 29, 31, 39, 40, 46, 51, 54, 65, 66, 69, 70, 71, 73, 74, 75, 77, 78, 79, 80, 81, 83, 85, 86, 87, 93, 98] ?_; simp [-getElem?_pos, -getElem?_neg, List.getElem?_cons_zero, List.getElem?_cons_succ, strsC, rowsC, bC, iC, sC, hlt, h1, h2, h3])
      | (with_reducible refine awp_drw 103 hX [0, 1, 2, 6, 7, 8, 9, 10, 11, 18, 23, 28, 29, 31, 39, 40, 46, 51, 54, 65, 66, 69, 70, 71, 73, 74, 75, 77, 78, 79, 80, 81, 83, 85, 86, 87, 93, 98] Tab.mixed (by kernel_rfl) ?_; simp [-getElem?_pos, -getElem?_neg, List.getElem?_cons_zero, List.getElem?_cons_succ, strsC, rowsC, bC, iC, sC, hlt, h1, h2, h3])
      | (with_reducible refine awp_if_b rfl (fun hc => ?_) (fun hc => ?_) <;> (try simp [-getElem?_pos, -getElem?_neg] at hc) <;> (try (exfalso; omega)))
      | (with_reducible refine GuardK_b (fun hc => ?_) (fun hc => ?_) <;> (try simp only [Bool.not_eq_true', Bool.not_eq_false', decide_eq_true_eq, decide_eq_false_iff_not] at hc) <;> (first | (exfalso; omega) | skip) <;> simp [-getElem?_pos, -getElem?_neg, List.getElem?_cons_zero, List.getElem?_cons_succ, strsC, rowsC, bC, iC, sC, hlt, h1, h2, h3, hc])
      | (with_reducible refine DGuard_b _ _ _ _ _ _ _ _ (fun hc => ?_) (fun hc => ?_) <;> (try simp only [Bool.not_eq_true', Bool.not_eq_false', decide_eq_true_eq, decide_eq_false_iff_not] at hc) <;> (first | (exfalso; omega) | skip) <;> simp [-getElem?_pos, -getElem?_neg, List.getElem?_cons_zero, List.getElem?_cons_succ, strsC, rowsC, bC, iC, sC, hlt, h1, h2, h3, hc])
      | (refine hother _ _ rfl ?_; simp only [inBlockA, thenA, noGotoA, Nat.reduceEqDiff, if_false, if_true, ↓reduceIte])
      | (refine hother2 _ _ rfl ?_; simp only [inBlockA, thenA, noGotoA, Nat.reduceEqDiff, if_false, if_true, ↓reduceIte])
      | (refine hother3 _ _ rfl ?_; simp only [inBlockA, thenA, noGotoA, Nat.reduceEqDiff, if_false, if_true, ↓reduceIte])
      | (refine And.intro (by omega) ?_)
      | (with_reducible change postOf _ _ _ _; simp [-getElem?_pos, -getElem?_neg, List.getElem?_cons_zero, List.getElem?_cons_succ, strsC, rowsC, bC, iC, sC, hlt, h1, h2, h3])
      | fail)
    clear next hother
    refine awp_for [0, 1, 2, 8, 9] (fun i (_ : Unit) => ⟨[(0, .c (strsC keys)), (1, .c (rowsC v)), (2, .c (iC n)), (8, .c (bC (wantW keys v n i))), (9, .c (iC i))], ob⟩) (fun _ _ => True) v.length () trivial (by simp [strsC, rowsC, iC, sC, bC, wantW, hp, h3]) ?_
    rintro i - Q1 hi - next hother
    have hwi := wrap_in ((i : Int) + 1) (by omega)
    have hwv := wrap_in ((v.length : Int) - 1) (by omega)
    have es : wantW keys v n (i + 1) = (wantW keys v n i && !badAt keys v n i) := by unfold wantW; rw [all_range_succ, Bool.and_assoc]
    by_cases hlt : i < v.length
    · cases hb : wantW keys v n i
      · have hw : awins keys v n = false := by rw [awins_want, wantW_false keys v n i v.length hi hb]
        repeat' (first 
          | with_reducible refine awp_scope ?_
          | with_reducible refine awp_seq ?_
          | with_reducible refine awp_block ?_
          | (with_reducible refine awp_label ?_; simp only [thenA, inBlockA, noGotoA])
          | (with_reducible refine awp_skip ?_; simp only [thenA, inBlockA, noGotoA])
          | (with_reducible refine awp_exit ?_; simp only [thenA, inBlockA, noGotoA, if_true, Nat.reduceEqDiff, if_false, ↓reduceIte])
          | (with_reducible refine awp_ret ?_; (try simp only [thenA, inBlockA, noGotoA]); (try simp [-getElem?_pos, -getElem?_neg, List.getElem?_cons_zero, List.getElem?_cons_succ, strsC, rowsC, bC, iC, sC, hlt, hb, hw]))
          | (with_reducible refine awp_reg 103 hX [0, 1, 2, 6, 7, 8, 9, 10, 11, 18, 23, 28, 29, 31, 39, 40, 46, 51, 54, 65, 66, 69, 70, 71, 73, 74, 75, 77, 78, 79, 80, 81, 83, 85, 86, 87, 93, 98] ?_; simp [-getElem?_pos, -getElem?_neg, List.getElem?_cons_zero, List.getElem?_cons_succ, strsC, rowsC, bC, iC, sC, hlt, hb, hw])
          | (with_reducible refine awp_drw 103 hX [0, 1, 2, 6, 7, 8, 9, 10, 11, 18, 23, 28, 29, 31, 39, 40, 46, 51, 54, 65, 66, 69, 70, 71, 73, 74, 75, 77, 78, 79, 80, 81, 83, 85, 86, 87, 93, 98] Tab.mixed (by kernel_rfl) ?_; simp [-getElem?_pos, -getElem?_neg, List.getElem?_cons_zero, List.getElem?_cons_succ, strsC, rowsC, bC, iC, sC, hlt, hb, hw])
          | (refine (auditWins_den _ _ _ _ (by omega)).det ?_; try simp [-getElem?_pos, -getElem?_neg, List.getElem?_cons_zero, List.getElem?_cons_succ, strsC, rowsC, bC, iC, sC, hlt, hb, hw])
          | (refine ⟨_, auditWins_den _ _ _ _ (by omega), ?_⟩; simp [-getElem?_pos, -getElem?_neg, List.getElem?_cons_zero, List.getElem?_cons_succ, strsC, rowsC, bC, iC, sC, hlt, hb, hw])
          | (refine (awake57_den _).det ?_; try simp [-getElem?_pos, -getElem?_neg, List.getElem?_cons_zero, List.getElem?_cons_succ, strsC, rowsC, bC, iC, sC, hlt, hb, hw])
          | (refine ⟨_, awake57_den _, ?_⟩; simp [-getElem?_pos, -getElem?_neg, List.getElem?_cons_zero, List.getElem?_cons_succ, strsC, rowsC, bC, iC, sC, hlt, hb, hw])
          | (with_reducible refine awp_if_b rfl (fun hc => ?_) (fun hc => ?_) <;> (try simp [-getElem?_pos, -getElem?_neg] at hc) <;> (try (exfalso; omega)))
          | (with_reducible refine GuardK_b (fun hc => ?_) (fun hc => ?_) <;> (try simp only [Bool.not_eq_true', Bool.not_eq_false', decide_eq_true_eq, decide_eq_false_iff_not] at hc) <;> (first | (exfalso; omega) | skip) <;> simp [-getElem?_pos, -getElem?_neg, List.getElem?_cons_zero, List.getElem?_cons_succ, strsC, rowsC, bC, iC, sC, hlt, hb, hw, hc])
          | (with_reducible refine DGuard_b _ _ _ _ _ _ _ _ (fun hc => ?_) (fun hc => ?_) <;> (try simp only [Bool.not_eq_true', Bool.not_eq_false', decide_eq_true_eq, decide_eq_false_iff_not] at hc) <;> (first | (exfalso; omega) | skip) <;> simp [-getElem?_pos, -getElem?_neg, List.getElem?_cons_zero, List.getElem?_cons_succ, strsC, rowsC, bC, iC, sC, hlt, hb, hw, hc])
          | (refine hother _ _ rfl ?_; simp only [inBlockA, thenA, noGotoA, Nat.reduceEqDiff, if_false, if_true, ↓reduceIte])
          | (refine hother2 _ _ rfl ?_; simp only [inBlockA, thenA, noGotoA, Nat.reduceEqDiff, if_false, if_true, ↓reduceIte])
          | (refine hother3 _ _ rfl ?_; simp only [inBlockA, thenA, noGotoA, Nat.reduceEqDiff, if_false, if_true, ↓reduceIte])
          | (refine And.intro (by omega) ?_)
          | (with_reducible change postOf _ _ _ _; simp [-getElem?_pos, -getElem?_neg, List.getElem?_cons_zero, List.getElem?_cons_succ, strsC, rowsC, bC, iC, sC, hlt, hb, hw])
          | fail)
      · obtain ⟨ki, hki⟩ := getI keys (i : Nat) (by omega) (by omega)
        obtain ⟨ka, hka⟩ := getI keys (n : Nat) (by omega) (by omega)
        simp only [Int.toNat_natCast] at hki hka
        have eki : keyN keys i = ki := by simp [keyN, hki]
        have eka : keyN keys n = ka := by simp [keyN, hka]
        have ew : badAt keys v n i = ((decide (winsTo v n v.length < winsTo v i v.length) || (decide (winsTo v i v.length = winsTo v n v.length) && less ki ka)) || (decide ((winsTo v i v.length : Int) = v.length - 1) && !decide ((i : Int) = n))) := by
          unfold badAt worse; rw [Int.toNat_natCast, eka, eki]
        rw [hb, Bool.true_and] at es
        cases hlb : less ki ka
        all_goals
          have hlb' := hlb
          unfold less at hlb'
          repeat' (first 
            | with_reducible refine awp_scope ?_
            | with_reducible refine awp_seq ?_
            | with_reducible refine awp_block ?_
            | (with_reducible refine awp_label ?_; simp only [thenA, inBlockA, noGotoA])
            | (with_reducible refine awp_skip ?_; simp only [thenA, inBlockA, noGotoA])
            | (with_reducible refine awp_exit ?_; simp only [thenA, inBlockA, noGotoA, if_true, Nat.reduceEqDiff, if_false, ↓reduceIte])
            | (with_reducible refine awp_ret ?_; (try simp only [thenA, inBlockA, noGotoA]); (try simp [-getElem?_pos, -getElem?_neg, List.getElem?_cons_zero, List.getElem?_cons_succ, strsC, rowsC, bC, iC, sC, hlt, hb, h3, hki, hka, hlb', hwi, hwv]))
            | (with_reducible refine awp_reg 103 hX [0, 1, 2, 6, 7, 8, 9, 10, 11, 18, 23, 28, 29, 31, 39, 40, 46, 51, 54, 65, 66, 69, 70, 71, 73, 74, 75, 77, 78, 79, 80, 81, 83, 85, 86, 87, 93, 98] ?_; simp [-getElem?_pos, -getElem?_neg, List.getElem?_cons_zero, List.getElem?_cons_succ, strsC, rowsC, bC, iC, sC, hlt, hb, h3, hki, hka, hlb', hwi, hwv])
            | (with_reducible refine awp_drw 103 hX [0, 1, 2, 6, 7, 8, 9, 10, 11, 18, 23, 28, 29, 31, 39, 40, 46, 51, 54, 65, 66, 69, 70, 71, 73, 74, 75, 77, 78, 79, 80, 81, 83, 85, 86, 87, 93, 98] Tab.mixed (by kernel_rfl) ?_; simp [-getElem?_pos, -getElem?_neg, List.getElem?_cons_zero, List.getElem?_cons_succ, strsC, rowsC, bC, iC, sC, hlt, hb, h3, hki, hka, hlb', hwi, hwv])
            | (refine (wins_den _ _ _ (by omega)).det ?_; try simp [-getElem?_pos, -getElem?_neg, List.getElem?_cons_zero, List.getElem?_cons_succ, strsC, rowsC, bC, iC, sC, hlt, hb, h3, hki, hka, hlb', hwi, hwv])
            | (refine ⟨_, wins_den _ _ _ (by omega), ?_⟩; simp [-getElem?_pos, -getElem?_neg, List.getElem?_cons_zero, List.getElem?_cons_succ, strsC, rowsC, bC, iC, sC, hlt, hb, h3, hki, hka, hlb', hwi, hwv])
            | (with_reducible refine awp_if_b rfl (fun hc => ?_) (fun hc => ?_) <;> (try simp [-getElem?_pos, -getElem?_neg] at hc) <;> (try (exfalso; omega)))
            | (with_reducible refine GuardK_b (fun hc => ?_) (fun hc => ?_) <;> (try simp only [Bool.not_eq_true', Bool.not_eq_false', decide_eq_true_eq, decide_eq_false_iff_not] at hc) <;> (first | (exfalso; omega) | skip) <;> simp [-getElem?_pos, -getElem?_neg, List.getElem?_cons_zero, List.getElem?_cons_succ, strsC, rowsC, bC, iC, sC, hlt, hb, h3, hki, hka, hlb', hwi, hwv, hc])
            | (with_reducible refine DGuard_b _ _ _ _ _ _ _ _ (fun hc => ?_) (fun hc => ?_) <;> (try simp only [Bool.not_eq_true', Bool.not_eq_false', decide_eq_true_eq, decide_eq_false_iff_not] at hc) <;> (first | (exfalso; omega) | skip) <;> simp [-getElem?_pos, -getElem?_neg, List.getElem?_cons_zero, List.getElem?_cons_succ, strsC, rowsC, bC, iC, sC, hlt, hb, h3, hki, hka, hlb', hwi, hwv, hc])
            | (refine hother _ _ rfl ?_; simp only [inBlockA, thenA, noGotoA, Nat.reduceEqDiff, if_false, if_true, ↓reduceIte])
            | (refine hother2 _ _ rfl ?_; simp only [inBlockA, thenA, noGotoA, Nat.reduceEqDiff, if_false, if_true, ↓reduceIte])
            | (refine hother3 _ _ rfl ?_; simp only [inBlockA, thenA, noGotoA, Nat.reduceEqDiff, if_false, if_true, ↓reduceIte])
            | (refine And.intro (by omega) ?_)
            | (with_reducible change postOf _ _ _ _; simp [-getElem?_pos, -getElem?_neg, List.getElem?_cons_zero, List.getElem?_cons_succ, strsC, rowsC, bC, iC, sC, hlt, hb, h3, hki, hka, hlb', hwi, hwv])
            | fail)
          all_goals refine next _ () (by omega) trivial ?_
          all_goals simp [strsC, rowsC, iC, sC, bC, es, ew, hlb, h3]
          all_goals try omega
    · have hiv : i = v.length := by omega
      subst hiv
      have hw : wantW keys v n v.length = awins keys v n := (awins_want keys v n).symm
      repeat' (first 
        | with_reducible refine awp_scope ?_
        | with_reducible refine awp_seq ?_
        | with_reducible refine awp_block ?_
        | (with_reducible refine awp_label ?_; simp only [thenA, inBlockA, noGotoA])
        | (with_reducible refine awp_skip ?_; simp only [thenA, inBlockA, noGotoA])
        | (with_reducible refine awp_exit ?_; simp only [thenA, inBlockA, noGotoA, if_true, Nat.reduceEqDiff, if_false, ↓reduceIte])
        | (with_reducible refine awp_ret ?_; (try simp only [thenA, inBlockA, noGotoA]); (try simp [-getElem?_pos, -getElem?_neg, List.getElem?_cons_zero, List.getElem?_cons_succ, strsC, rowsC, bC, iC, sC, hlt, hw]))
        | (with_reducible refine awp_reg 103 hX [0, 1, 2, 6, 7, 8, 9, 10, 11, 18, 23, 28, 29, 31, 39, 40, 46, 51, 54, 65, 66, 69, 70, 71, 73, 74, 75, 77, 78, 79, 80, 81, 83, 85, 86, 87, 93, 98] ?_; simp [-getElem?_pos, -getElem?_neg, List.getElem?_cons_zero, List.getElem?_cons_succ, strsC, rowsC, bC, iC, sC, hlt, hw])
        | (with_reducible refine awp_drw 103 hX [0, 1, 2, 6, 7, 8, 9, 10, 11, 18, 23, 28, 29, 31, 39, 40, 46, 51, 54, 65, 66, 69, 70, 71, 73, 74, 75, 77, 78, 79, 80, 81, 83, 85, 86, 87, 93, 98] Tab.mixed (by kernel_rfl) ?_; simp [-getElem?_pos, -getElem?_neg, List.getElem?_cons_zero, List.getElem?_cons_succ, strsC, rowsC, bC, iC, sC, hlt, hw])
        | (refine (auditWins_den _ _ _ _ (by omega)).det ?_; try simp [-getElem?_pos, -getElem?_neg, List.getElem?_cons_zero, List.getElem?_cons_succ, strsC, rowsC, bC, iC, sC, hlt, hw])
        | (refine ⟨_, auditWins_den _ _ _ _ (by omega), ?_⟩; simp [-getElem?_pos, -getElem?_neg, List.getElem?_cons_zero, List.getElem?_cons_succ, strsC, rowsC, bC, iC, sC, hlt, hw])
        | (refine (awake57_den _).det ?_; try simp [-getElem?_pos, -getElem?_neg, List.getElem?_cons_zero, List.getElem?_cons_succ, strsC, rowsC, bC, iC, sC, hlt, hw])
        | (refine ⟨_, awake57_den _, ?_⟩; simp [-getElem?_pos, -getElem?_neg, List.getElem?_cons_zero, List.getElem?_cons_succ, strsC, rowsC, bC, iC, sC, hlt, hw])
        | (with_reducible refine awp_if_b rfl (fun hc => ?_) (fun hc => ?_) <;> (try simp [-getElem?_pos, -getElem?_neg] at hc) <;> (try (exfalso; omega)))
        | (with_reducible refine GuardK_b (fun hc => ?_) (fun hc => ?_) <;> (try simp only [Bool.not_eq_true', Bool.not_eq_false', decide_eq_true_eq, decide_eq_false_iff_not] at hc) <;> (first | (exfalso; omega) | skip) <;> simp [-getElem?_pos, -getElem?_neg, List.getElem?_cons_zero, List.getElem?_cons_succ, strsC, rowsC, bC, iC, sC, hlt, hw, hc])
        | (with_reducible refine DGuard_b _ _ _ _ _ _ _ _ (fun hc => ?_) (fun hc => ?_) <;> (try simp only [Bool.not_eq_true', Bool.not_eq_false', decide_eq_true_eq, decide_eq_false_iff_not] at hc) <;> (first | (exfalso; omega) | skip) <;> simp [-getElem?_pos, -getElem?_neg, List.getElem?_cons_zero, List.getElem?_cons_succ, strsC, rowsC, bC, iC, sC, hlt, hw, hc])
        | (refine hother _ _ rfl ?_; simp only [inBlockA, thenA, noGotoA, Nat.reduceEqDiff, if_false, if_true, ↓reduceIte])
        | (refine hother2 _ _ rfl ?_; simp only [inBlockA, thenA, noGotoA, Nat.reduceEqDiff, if_false, if_true, ↓reduceIte])
        | (refine hother3 _ _ rfl ?_; simp only [inBlockA, thenA, noGotoA, Nat.reduceEqDiff, if_false, if_true, ↓reduceIte])
        | (refine And.intro (by omega) ?_)
        | (with_reducible change postOf _ _ _ _; simp [-getElem?_pos, -getElem?_neg, List.getElem?_cons_zero, List.getElem?_cons_succ, strsC, rowsC, bC, iC, sC, hlt, hw])
        | fail)
  · have hp : preW keys v a = false := by simpa using hp
    have hw : awins keys v a = false := by rw [awins_want, wantW, hp]; rfl
    repeat' (first 
      | with_reducible refine awp_scope ?_
      | with_reducible refine awp_seq ?_
      | with_reducible refine awp_block ?_
      | (with_reducible refine awp_label ?_; simp only [thenA, inBlockA, noGotoA])
      | (with_reducible refine awp_skip ?_; simp only [thenA, inBlockA, noGotoA])
      | (with_reducible refine awp_exit ?_; simp only [thenA, inBlockA, noGotoA, if_true, Nat.reduceEqDiff, if_false, ↓reduceIte])
      | (with_reducible refine awp_ret ?_; (try simp only [thenA, inBlockA, noGotoA]); (try simp [-getElem?_pos, -getElem?_neg, List.getElem?_cons_zero, List.getElem?_cons_succ, strsC, rowsC, bC, iC, sC, hlt]))
      | (with_reducible refine awp_reg 103 hX [0, 1, 2, 6, 7, 8, 9, 10, 11, 18, 23, 28, 29, 31, 39, 40, 46, 51, 54, 65, 66, 69, 70, 71, 73, 74, 75, 77, 78, 79, 80, 81, 83, 85, 86, 87, 93, 98] ?_; simp [-getElem?_pos, -getElem?_neg, List.getElem?_cons_zero, List.getElem?_cons_succ, strsC, rowsC, bC, iC, sC, hlt])
      | (with_reducible refine awp_drw 103 hX [0, 1, 2, 6, 7, 8, 9, 10, 11, 18, 23, 28, 29, 31, 39, 40, 46, 51, 54, 65, 66, 69, 70, 71, 73, 74, 75, 77, 78, 79, 80, 81, 83, 85, 86, 87, 93, 98] Tab.mixed (by kernel_rfl) ?_; simp [-getElem?_pos, -getElem?_neg, List.getElem?_cons_zero, List.getElem?_cons_succ, strsC, rowsC, bC, iC, sC, hlt])
      | (with_reducible refine awp_if_b rfl (fun hc => ?_) (fun hc => ?_) <;> (try simp [-getElem?_pos, -getElem?_neg] at hc) <;> (try (exfalso; omega)))
      | (with_reducible refine GuardK_b (fun hc => ?_) (fun hc => ?_) <;> (try simp only [Bool.not_eq_true', Bool.not_eq_false', decide_eq_true_eq, decide_eq_false_iff_not] at hc) <;> (first | (exfalso; omega) | skip) <;> simp [-getElem?_pos, -getElem?_neg, List.getElem?_cons_zero, List.getElem?_cons_succ, strsC, rowsC, bC, iC, sC, hlt, hc])
      | (with_reducible refine DGuard_b _ _ _ _ _ _ _ _ (fun hc => ?_) (fun hc => ?_) <;> (try simp only [Bool.not_eq_true', Bool.not_eq_false', decide_eq_true_eq, decide_eq_false_iff_not] at hc) <;> (first | (exfalso; omega) | skip) <;> simp [-getElem?_pos, -getElem?_neg, List.getElem?_cons_zero, List.getElem?_cons_succ, strsC, rowsC, bC, iC, sC, hlt, hc])
      | (refine hother _ _ rfl ?_; simp only [inBlockA, thenA, noGotoA, Nat.reduceEqDiff, if_false, if_true, ↓reduceIte])
      | (refine hother2 _ _ rfl ?_; simp only [inBlockA, thenA, noGotoA, Nat.reduceEqDiff, if_false, if_true, ↓reduceIte])
      | (refine hother3 _ _ rfl ?_; simp only [inBlockA, thenA, noGotoA, Nat.reduceEqDiff, if_false, if_true, ↓reduceIte])
      | (refine And.intro (by omega) ?_)
      | (with_reducible change postOf _ _ _ _; simp [-getElem?_pos, -getElem?_neg, List.getElem?_cons_zero, List.getElem?_cons_succ, strsC, rowsC, bC, iC, sC, hlt])
      | fail)
    all_goals
      clear next hother
      refine awp_for [0, 1, 2, 8, 9] (fun i (_ : Unit) => ⟨[(0, .c (strsC keys)), (1, .c (rowsC v)), (2, .c (iC a)), (8, .c (bC false)), (9, .c (iC i))], ob⟩) (fun _ _ => True) v.length () trivial (by simp [preW] at hp; simp [strsC, rowsC, iC, sC, bC]; try omega) ?_
      rintro i - Q1 hi - next hother
      by_cases hlt : i < v.length
      · repeat' (first 
          | with_reducible refine awp_scope ?_
          | with_reducible refine awp_seq ?_
          | with_reducible refine awp_block ?_
          | (with_reducible refine awp_label ?_; simp only [thenA, inBlockA, noGotoA])
          | (with_reducible refine awp_skip ?_; simp only [thenA, inBlockA, noGotoA])
          | (with_reducible refine awp_exit ?_; simp only [thenA, inBlockA, noGotoA, if_true, Nat.reduceEqDiff, if_false, ↓reduceIte])
          | (with_reducible refine awp_ret ?_; (try simp only [thenA, inBlockA, noGotoA]); (try simp [-getElem?_pos, -getElem?_neg, List.getElem?_cons_zero, List.getElem?_cons_succ, strsC, rowsC, bC, iC, sC, hlt, hw]))
          | (with_reducible refine awp_reg 103 hX [0, 1, 2, 6, 7, 8, 9, 10, 11, 18, 23, 28, 29, 31, 39, 40, 46, 51, 54, 65, 66, 69, 70, 71, 73, 74, 75, 77, 78, 79, 80, 81, 83, 85, 86, 87, 93, 98] ?_; simp [-getElem?_pos, -getElem?_neg, List.getElem?_cons_zero, List.getElem?_cons_succ, strsC, rowsC, bC, iC, sC, hlt, hw])
          | (with_reducible refine awp_drw 103 hX [0, 1, 2, 6, 7, 8, 9, 10, 11, 18, 23, 28, 29, 31, 39, 40, 46, 51, 54, 65, 66, 69, 70, 71, 73, 74, 75, 77, 78, 79, 80, 81, 83, 85, 86, 87, 93, 98] Tab.mixed (by kernel_rfl) ?_; simp [-getElem?_pos, -getElem?_neg, List.getElem?_cons_zero, List.getElem?_cons_succ, strsC, rowsC, bC, iC, sC, hlt, hw])
          | (refine (auditWins_den _ _ _ _ (by omega)).det ?_; try simp [-getElem?_pos, -getElem?_neg, List.getElem?_cons_zero, List.getElem?_cons_succ, strsC, rowsC, bC, iC, sC, hlt, hw])
          | (refine ⟨_, auditWins_den _ _ _ _ (by omega), ?_⟩; simp [-getElem?_pos, -getElem?_neg, List.getElem?_cons_zero, List.getElem?_cons_succ, strsC, rowsC, bC, iC, sC, hlt, hw])
          | (refine (awake57_den _).det ?_; try simp [-getElem?_pos, -getElem?_neg, List.getElem?_cons_zero, List.getElem?_cons_succ, strsC, rowsC, bC, iC, sC, hlt, hw])
          | (refine ⟨_, awake57_den _, ?_⟩; simp [-getElem?_pos, -getElem?_neg, List.getElem?_cons_zero, List.getElem?_cons_succ, strsC, rowsC, bC, iC, sC, hlt, hw])
          | (with_reducible refine awp_if_b rfl (fun hc => ?_) (fun hc => ?_) <;> (try simp [-getElem?_pos, -getElem?_neg] at hc) <;> (try (exfalso; omega)))
          | (with_reducible refine GuardK_b (fun hc => ?_) (fun hc => ?_) <;> (try simp only [Bool.not_eq_true', Bool.not_eq_false', decide_eq_true_eq, decide_eq_false_iff_not] at hc) <;> (first | (exfalso; omega) | skip) <;> simp [-getElem?_pos, -getElem?_neg, List.getElem?_cons_zero, List.getElem?_cons_succ, strsC, rowsC, bC, iC, sC, hlt, hw, hc])
          | (with_reducible refine DGuard_b _ _ _ _ _ _ _ _ (fun hc => ?_) (fun hc => ?_) <;> (try simp only [Bool.not_eq_true', Bool.not_eq_false', decide_eq_true_eq, decide_eq_false_iff_not] at hc) <;> (first | (exfalso; omega) | skip) <;> simp [-getElem?_pos, -getElem?_neg, List.getElem?_cons_zero, List.getElem?_cons_succ, strsC, rowsC, bC, iC, sC, hlt, hw, hc])
          | (refine hother _ _ rfl ?_; simp only [inBlockA, thenA, noGotoA, Nat.reduceEqDiff, if_false, if_true, ↓reduceIte])
          | (refine hother2 _ _ rfl ?_; simp only [inBlockA, thenA, noGotoA, Nat.reduceEqDiff, if_false, if_true, ↓reduceIte])
          | (refine hother3 _ _ rfl ?_; simp only [inBlockA, thenA, noGotoA, Nat.reduceEqDiff, if_false, if_true, ↓reduceIte])
          | (refine And.intro (by omega) ?_)
          | (with_reducible change postOf _ _ _ _; simp [-getElem?_pos, -getElem?_neg, List.getElem?_cons_zero, List.getElem?_cons_succ, strsC, rowsC, bC, iC, sC, hlt, hw])
          | fail)
      · repeat' (first 
          | with_reducible refine awp_scope ?_
          | with_reducible refine awp_seq ?_
          | with_reducible refine awp_block ?_
          | (with_reducible refine awp_label ?_; simp only [thenA, inBlockA, noGotoA])
          | (with_reducible refine awp_skip ?_; simp only [thenA, inBlockA, noGotoA])
          | (with_reducible refine awp_exit ?_; simp only [thenA, inBlockA, noGotoA, if_true, Nat.reduceEqDiff, if_false, ↓reduceIte])
          | (with_reducible refine awp_ret ?_; (try simp only [thenA, inBlockA, noGotoA]); (try simp [-getElem?_pos, -getElem?_neg, List.getElem?_cons_zero, List.getElem?_cons_succ, strsC, rowsC, bC, iC, sC, hlt, hw]))
          | (with_reducible refine awp_reg 103 hX [0, 1, 2, 6, 7, 8, 9, 10, 11, 18, 23, 28, 29, 31, 39, 40, 46, 51, 54, 65, 66, 69, 70, 71, 73, 74, 75, 77, 78, 79, 80, 81, 83, 85, 86, 87, 93, 98] ?_; simp [-getElem?_pos, -getElem?_neg, List.getElem?_cons_zero, List.getElem?_cons_succ, strsC, rowsC, bC, iC, sC, hlt, hw])
          | (with_reducible refine awp_drw 103 hX [0, 1, 2, 6, 7, 8, 9, 10, 11, 18, 23, 28, 29, 31, 39, 40, 46, 51, 54, 65, 66, 69, 70, 71, 73, 74, 75, 77, 78, 79, 80, 81, 83, 85, 86, 87, 93, 98] Tab.mixed (by kernel_rfl) ?_; simp [-getElem?_pos, -getElem?_neg, List.getElem?_cons_zero, List.getElem?_cons_succ, strsC, rowsC, bC, iC, sC, hlt, hw])
          | (refine (auditWins_den _ _ _ _ (by omega)).det ?_; try simp [-getElem?_pos, -getElem?_neg, List.getElem?_cons_zero, List.getElem?_cons_succ, strsC, rowsC, bC, iC, sC, hlt, hw])
          | (refine ⟨_, auditWins_den _ _ _ _ (by omega), ?_⟩; simp [-getElem?_pos, -getElem?_neg, List.getElem?_cons_zero, List.getElem?_cons_succ, strsC, rowsC, bC, iC, sC, hlt, hw])
          | (refine (awake57_den _).det ?_; try simp [-getElem?_pos, -getElem?_neg, List.getElem?_cons_zero, List.getElem?_cons_succ, strsC, rowsC, bC, iC, sC, hlt, hw])
          | (refine ⟨_, awake57_den _, ?_⟩; simp [-getElem?_pos, -getElem?_neg, List.getElem?_cons_zero, List.getElem?_cons_succ, strsC, rowsC, bC, iC, sC, hlt, hw])
          | (with_reducible refine awp_if_b rfl (fun hc => ?_) (fun hc => ?_) <;> (try simp [-getElem?_pos, -getElem?_neg] at hc) <;> (try (exfalso; omega)))
          | (with_reducible refine GuardK_b (fun hc => ?_) (fun hc => ?_) <;> (try simp only [Bool.not_eq_true', Bool.not_eq_false', decide_eq_true_eq, decide_eq_false_iff_not] at hc) <;> (first | (exfalso; omega) | skip) <;> simp [-getElem?_pos, -getElem?_neg, List.getElem?_cons_zero, List.getElem?_cons_succ, strsC, rowsC, bC, iC, sC, hlt, hw, hc])
          | (with_reducible refine DGuard_b _ _ _ _ _ _ _ _ (fun hc => ?_) (fun hc => ?_) <;> (try simp only [Bool.not_eq_true', Bool.not_eq_false', decide_eq_true_eq, decide_eq_false_iff_not] at hc) <;> (first | (exfalso; omega) | skip) <;> simp [-getElem?_pos, -getElem?_neg, List.getElem?_cons_zero, List.getElem?_cons_succ, strsC, rowsC, bC, iC, sC, hlt, hw, hc])
          | (refine hother _ _ rfl ?_; simp only [inBlockA, thenA, noGotoA, Nat.reduceEqDiff, if_false, if_true, ↓reduceIte])
          | (refine hother2 _ _ rfl ?_; simp only [inBlockA, thenA, noGotoA, Nat.reduceEqDiff, if_false, if_true, ↓reduceIte])
          | (refine hother3 _ _ rfl ?_; simp only [inBlockA, thenA, noGotoA, Nat.reduceEqDiff, if_false, if_true, ↓reduceIte])
          | (refine And.intro (by omega) ?_)
          | (with_reducible change postOf _ _ _ _; simp [-getElem?_pos, -getElem?_neg, List.getElem?_cons_zero, List.getElem?_cons_succ, strsC, rowsC, bC, iC, sC, hlt, hw])
          | fail)
end Go.Av
