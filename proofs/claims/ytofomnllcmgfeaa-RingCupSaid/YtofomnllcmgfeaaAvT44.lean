import Derived.Test.YtofomnllcmgfeaaAvT43
import Derived.Test.YtofomnllcmgfeaaAvT4
set_option linter.unusedVariables false
set_option linter.unusedSimpArgs false
set_option maxRecDepth 100000
set_option maxHeartbeats 4000000
namespace Go.Av
open Go Go.Proofs Go.Proofs.Ytofomnllcmgfeaa Go.RowKit
/-! ### ring: Top, against all sets tried -/
open Go.Rg
def posI (b : Nat → Bool) (n : Nat) : List Int := (posF b n).map fun x : Nat => (x : Int)
theorem posI_succ (b : Nat → Bool) (i : Nat) : posI b (i + 1) = posI b i ++ if b i then [(i : Int)] else [] := by
  unfold posI
  rw [posF_succ]
  cases b i <;> simp
theorem posI_len (b : Nat → Bool) (n : Nat) : (posI b n).length = (posF b n).length := by simp [posI]
theorem posI_eq {b c : Nat → Bool} {n : Nat} : posI b n = posI c n ↔ posF b n = posF c n := by
  unfold posI
  constructor
  · intro h
    exact (List.map_inj_right (fun x y h => by omega)).1 h
  · intro h; rw [h]
/-- The best of the sets that were tried. -/
def Tried (q : Nat → Nat → Bool) (n m : Nat) : Option Nat → Prop
  | none => ∀ s, 1 ≤ s → s ≤ m → ¬ Dom q n s.testBit
  | some s0 => 1 ≤ s0 ∧ s0 ≤ m ∧ Dom q n s0.testBit ∧ ∀ s, 1 ≤ s → s ≤ m → Dom q n s.testBit → (posF s0.testBit n).length ≤ (posF s.testBit n).length
def triedM (n : Nat) : Option Nat → M
  | none => .c (.v (.slice none 0 0))
  | some s => .c (intsC (posI s.testBit n))
theorem tried_new {q : Nat → Nat → Bool} {n m : Nat} {o : Option Nat} (h : Tried q n m o) (hd : Dom q n (m + 1).testBit) (hl : ∀ s0, o = some s0 → (posF (m + 1).testBit n).length < (posF s0.testBit n).length) : Tried q n (m + 1) (some (m + 1)) := by
  refine ⟨by omega, by omega, hd, fun s h1 h2 h3 => ?_⟩
  by_cases e : s = m + 1
  · rw [e]; exact Nat.le_refl _
  · cases o with
    | none => exact absurd h3 (h s h1 (by omega))
    | some s0 =>
      have := h.2.2.2 s h1 (by omega) h3
      have := hl s0 rfl
      omega
theorem tried_keep {q : Nat → Nat → Bool} {n m : Nat} {o : Option Nat} (h : Tried q n m o) (hd : Dom q n (m + 1).testBit → ∃ s0, o = some s0 ∧ (posF s0.testBit n).length ≤ (posF (m + 1).testBit n).length) : Tried q n (m + 1) o := by
  cases o with
  | none =>
    intro s h1 h2 h3
    by_cases e : s = m + 1
    · rw [e] at h3
      obtain ⟨s0, h, _⟩ := hd h3
      cases h
    · exact h s h1 (by omega) h3
  | some s0 =>
    refine ⟨h.1, by have := h.2.1; omega, h.2.2.1, fun s h1 h2 h3 => ?_⟩
    by_cases e : s = m + 1
    · rw [e] at h3 ⊢
      obtain ⟨s1, h, h'⟩ := hd h3
      cases h
      exact h'
    · exact h.2.2.2 s h1 (by omega) h3
theorem pos_lt {b : Nat → Bool} {n i x : Nat} (h : (posF b n)[i]? = some x) : x < n := by
  have := List.mem_of_getElem? h
  unfold posF at this
  exact List.mem_range.1 (List.mem_filter.1 this).1
theorem pos_up {b : Nat → Bool} {n i x y : Nat} (h : (posF b n)[i]? = some x) (h' : (posF b n)[i + 1]? = some y) : x < y := by
  have hp : (posF b n).Pairwise (· < ·) := List.Pairwise.filter _ List.pairwise_lt_range
  obtain ⟨h1, rfl⟩ := List.getElem?_eq_some_iff.1 h
  obtain ⟨h2, rfl⟩ := List.getElem?_eq_some_iff.1 h'
  exact List.pairwise_iff_getElem.1 hp i (i + 1) h1 h2 (by omega)
theorem mask_take {l : List Nat} {i x : Nat} (h : l[i]? = some x) : maskOf (l.take (i + 1)) = maskOf (l.take i) + 2 ^ x := by
  unfold maskOf
  rw [List.take_add_one, h]
  simp
theorem mask_take_le (l : List Nat) (i : Nat) : maskOf (l.take i) ≤ maskOf l := by
  unfold maskOf
  conv => rhs; rw [← List.take_append_drop i l, List.map_append, List.sum_append]
  omega
theorem len_pos_of {b : Nat → Bool} {n i : Nat} (hi : i < n) (h : b i = true) : 0 < (posF b n).length := by
  refine List.length_pos_of_mem (a := i) ?_
  unfold posF
  exact List.mem_filter.2 ⟨List.mem_range.2 hi, h⟩
/-- What the tried sets and the least set about each have to do with each other. -/
theorem top_tried {q : Nat → Nat → Bool} {n : Nat} (hn : 0 < n) {b : List Bool} {o : Option Nat} (hb : Top q n b) (ho : Tried q n (2 ^ n - 1) o) (hex : ∀ i, i < n → ∃ d, IsCl q n (one n i) d) :
    ∃ s0, o = some s0 ∧ (posF (gb b) n).length = (posF s0.testBit n).length ∧ (Sound q n → posF (gb b) n = posF s0.testBit n) := by
  obtain ⟨hd, hl, i, hi, hbi⟩ := top_dom hb
  obtain ⟨m1, m2⟩ := mask_posF (gb b) n
  have hm0 : 1 ≤ maskOf (posF (gb b) n) := by
    rcases Nat.eq_zero_or_pos (maskOf (posF (gb b) n)) with h | h
    · have := m2 i
      rw [h] at this
      simp [hi, hbi] at this
    · exact h
  have hdm : Dom q n (maskOf (posF (gb b) n)).testBit := fun i k h1 h2 h3 h4 => by
    rw [m2] at h3 h4
    simp [h1, h2] at h3 h4
    exact hd i k h1 h2 h3 h4
  have hpe : posF (maskOf (posF (gb b) n)).testBit n = posF (gb b) n := posF_congr fun k hk => by rw [m2]; simp [hk]
  cases o with
  | none => exact absurd hdm (ho _ hm0 (by omega))
  | some s0 =>
    obtain ⟨h1, h2, h3, h4⟩ := ho
    have u1 := h4 _ hm0 (by omega) hdm
    rw [hpe] at u1
    obtain ⟨j, hj, hjb⟩ := exists_bit (n := n) (show 0 < s0 by omega) (by have := Nat.two_pow_pos n; omega)
    have u2 := top_least hb h3 hj hjb (hex j hj)
    rw [siz_pos, hl] at u2
    have e : (posF (gb b) n).length = (posF s0.testBit n).length := by omega
    exact ⟨s0, rfl, e, fun hs => least_one hs hd h3 e⟩
theorem cl_ex {q : Nat → Nat → Bool} {n : Nat} {b0 : List Bool} : ∀ (m : Nat) (b : List Bool), fal b ≤ m → Rg.Way q n b0 b → ∃ d, IsCl q n b0 d := by
  intro m
  induction m with
  | zero =>
    intro b hm hw
    refine ⟨b, way_end hw fun i k hi hk h1 h2 => ?_⟩
    have := fal_set (b := b) (k := k) (by rw [hw.1]; exact hk) h2
    omega
  | succ m ih =>
    intro b hm hw
    by_cases hd : Dom q n (gb b)
    · exact ⟨b, way_end hw hd⟩
    · obtain ⟨i, k, hi, hk, h1, h2, h3⟩ : ∃ i k, i < n ∧ k < n ∧ gb b i = true ∧ gb b k = false ∧ q i k = false := by
        refine Classical.byContradiction fun hh => hd fun i k hi hk h1 h2 => ?_
        cases h : q i k with
        | true => rfl
        | false => exact absurd ⟨i, k, hi, hk, h1, h2, h⟩ hh
      have := fal_set (b := b) (k := k) (by rw [hw.1]; exact hk) h2
      exact ih (b.set k true) (by omega) (way_step hw hi hk h1 h3)
theorem cl_exists {q : Nat → Nat → Bool} {n : Nat} {b0 : List Bool} (h : b0.length = n) : ∃ d, IsCl q n b0 d := cl_ex _ b0 (Nat.le_refl _) (way_start h)
theorem bestI_top {q : Nat → Nat → Bool} {n : Nat} {o : Option (List Bool)} (hn : 0 < n) (h : BestI q n n o) : ∃ b, o = some b ∧ Top q n b ∧ b.length = n := by
  cases o with
  | none => have : n = 0 := h; omega
  | some b => exact ⟨b, rfl, h.2, h.1⟩
theorem pow8 (n : Nat) (h : n ≤ 8) : IntKind.i64.wrap (2 ^ min n IntKind.i64.bits) = ((2 ^ n : Nat) : Int) := by
  have : n = 0 ∨ n = 1 ∨ n = 2 ∨ n = 3 ∨ n = 4 ∨ n = 5 ∨ n = 6 ∨ n = 7 ∨ n = 8 := by omega
  rcases this with rfl | rfl | rfl | rfl | rfl | rfl | rfl | rfl | rfl <;> rfl
theorem two_pow_le (n : Nat) (h : n ≤ 8) : 1 ≤ 2 ^ n ∧ 2 ^ n ≤ 256 := ⟨Nat.two_pow_pos n, Nat.le_trans (Nat.pow_le_pow_right (by omega) h) (by decide)⟩
set_option maxHeartbeats 8000000 in
theorem ringTop_den (v : List (List Int)) (ob : List Ob) : Den Try.prog 5 [.c (rowsC v)] ob (fun r ob' => r = .c (bC true) ∧ ob' = ob) := by
  refine Den.frame rfl rfl ?_ ob
  by_cases hg : great v = true
  · skip
    refine den_of Try.func5 rfl rfl (by simp [Try.ntmps5]) (fun X hX hO => ?_)
    rw [Try.ntmps5] at hX
    simp only [Try.results5]
    repeat' (first 
     | (with_reducible first | refine awp_scope ?_ | refine awp_seq ?_ | refine awp_block ?_)
     | ((with_reducible first | refine awp_label ?_ | refine awp_skip ?_); try simp only [thenA, inBlockA, noGotoA])
     | (with_reducible refine awp_exit ?_; simp only [thenA, inBlockA, noGotoA, if_true, Nat.reduceEqDiff, if_false, ↓reduceIte])
     | (with_reducible refine awp_ret ?_; (try simp only [thenA, inBlockA, noGotoA]); (try simp [-List.reduceReplicate, Nat.add_one_le_iff, -getElem?_pos, -getElem?_neg, List.getElem?_cons_zero, List.getElem?_cons_succ, rowsC, bC, hg]))
     | ((with_reducible first | refine awp_reg 133 hX [0, 2, 3, 4, 5, 6, 7, 8, 9, 16, 22, 28, 36, 54, 62, 66, 98] ?_ | refine awp_drw 133 hX [0, 2, 3, 4, 5, 6, 7, 8, 9, 16, 22, 28, 36, 54, 62, 66, 98] Tab.mixed (by kernel_rfl) ?_ | refine DEv_cut _ _ _ _ _ _ _ _ _ _ _ _ (by kernel_rfl) ?_ | change postOf _ _ _ _ _); simp [-List.reduceReplicate, Nat.add_one_le_iff, -getElem?_pos, -getElem?_neg, List.getElem?_cons_zero, List.getElem?_cons_succ, rowsC, bC, hg])
     | ((first | ((with_reducible refine Den.at_ (f := 21) ?_); refine (great_den _ _).det ?_) | ((with_reducible refine drawn_at (f := 21) ?_); refine ⟨_, _, great_den _ _, fun _ => rfl, ?_⟩) | ((with_reducible refine Den.at_ (f := 22) ?_); refine (awake46_den _).det ?_) | ((with_reducible refine drawn_at (f := 22) ?_); refine ⟨_, _, awake46_den _, fun _ => rfl, ?_⟩)); try simp [-List.reduceReplicate, Nat.add_one_le_iff, -getElem?_pos, -getElem?_neg, List.getElem?_cons_zero, List.getElem?_cons_succ, rowsC, bC, hg])
     | (with_reducible refine awp_if_b rfl (fun hc => ?_) (fun hc => ?_) <;> (try simp [-getElem?_pos, -getElem?_neg] at hc) <;> (try (exfalso; omega)))
     | ((with_reducible first | refine GuardK_b (fun hc => ?_) (fun hc => ?_) | refine DGuard_b _ _ _ _ _ _ _ _ _ _ (fun hc => ?_) (fun hc => ?_)) <;> (try simp only [Bool.not_eq_true', Bool.not_eq_false', decide_eq_true_eq, decide_eq_false_iff_not] at hc) <;> (first | (exfalso; omega) | skip) <;> simp [-List.reduceReplicate, Nat.add_one_le_iff, -getElem?_pos, -getElem?_neg, List.getElem?_cons_zero, List.getElem?_cons_succ, rowsC, bC, hg, hc])
     | ((with_reducible first | refine hother _ _ rfl ?_ | refine hother2 _ _ rfl ?_); simp only [inBlockA, thenA, noGotoA, Nat.reduceEqDiff, if_false, if_true, ↓reduceIte])
     | (with_reducible refine And.intro (by omega) ?_)
     | fail)
  by_cases hn : 8 < v.length
  · skip
    refine den_of Try.func5 rfl rfl (by simp [Try.ntmps5]) (fun X hX hO => ?_)
    rw [Try.ntmps5] at hX
    simp only [Try.results5]
    repeat' (first 
     | (with_reducible first | refine awp_scope ?_ | refine awp_seq ?_ | refine awp_block ?_)
     | ((with_reducible first | refine awp_label ?_ | refine awp_skip ?_); try simp only [thenA, inBlockA, noGotoA])
     | (with_reducible refine awp_exit ?_; simp only [thenA, inBlockA, noGotoA, if_true, Nat.reduceEqDiff, if_false, ↓reduceIte])
     | (with_reducible refine awp_ret ?_; (try simp only [thenA, inBlockA, noGotoA]); (try simp [-List.reduceReplicate, Nat.add_one_le_iff, -getElem?_pos, -getElem?_neg, List.getElem?_cons_zero, List.getElem?_cons_succ, rowsC, bC, hg, hn]))
     | ((with_reducible first | refine awp_reg 133 hX [0, 2, 3, 4, 5, 6, 7, 8, 9, 16, 22, 28, 36, 54, 62, 66, 98] ?_ | refine awp_drw 133 hX [0, 2, 3, 4, 5, 6, 7, 8, 9, 16, 22, 28, 36, 54, 62, 66, 98] Tab.mixed (by kernel_rfl) ?_ | refine DEv_cut _ _ _ _ _ _ _ _ _ _ _ _ (by kernel_rfl) ?_ | change postOf _ _ _ _ _); simp [-List.reduceReplicate, Nat.add_one_le_iff, -getElem?_pos, -getElem?_neg, List.getElem?_cons_zero, List.getElem?_cons_succ, rowsC, bC, hg, hn])
     | ((first | ((with_reducible refine Den.at_ (f := 21) ?_); refine (great_den _ _).det ?_) | ((with_reducible refine drawn_at (f := 21) ?_); refine ⟨_, _, great_den _ _, fun _ => rfl, ?_⟩) | ((with_reducible refine Den.at_ (f := 22) ?_); refine (awake46_den _).det ?_) | ((with_reducible refine drawn_at (f := 22) ?_); refine ⟨_, _, awake46_den _, fun _ => rfl, ?_⟩)); try simp [-List.reduceReplicate, Nat.add_one_le_iff, -getElem?_pos, -getElem?_neg, List.getElem?_cons_zero, List.getElem?_cons_succ, rowsC, bC, hg, hn])
     | (with_reducible refine awp_if_b rfl (fun hc => ?_) (fun hc => ?_) <;> (try simp [-getElem?_pos, -getElem?_neg] at hc) <;> (try (exfalso; omega)))
     | ((with_reducible first | refine GuardK_b (fun hc => ?_) (fun hc => ?_) | refine DGuard_b _ _ _ _ _ _ _ _ _ _ (fun hc => ?_) (fun hc => ?_)) <;> (try simp only [Bool.not_eq_true', Bool.not_eq_false', decide_eq_true_eq, decide_eq_false_iff_not] at hc) <;> (first | (exfalso; omega) | skip) <;> simp [-List.reduceReplicate, Nat.add_one_le_iff, -getElem?_pos, -getElem?_neg, List.getElem?_cons_zero, List.getElem?_cons_succ, rowsC, bC, hg, hn, hc])
     | ((with_reducible first | refine hother _ _ rfl ?_ | refine hother2 _ _ rfl ?_); simp only [inBlockA, thenA, noGotoA, Nat.reduceEqDiff, if_false, if_true, ↓reduceIte])
     | (with_reducible refine And.intro (by omega) ?_)
     | fail)
  have w0 := pow8 v.length (by omega)
  obtain ⟨N1, N2⟩ := two_pow_le v.length (by omega)
  have hms := fun b => (mask_posF b v.length).1
  have hmt := fun b => (mask_posF b v.length).2
  have htr := fun (b : List Bool) (o : Option Nat) (hv : 0 < v.length) (hb : Top (bq v) v.length b) (ho : Tried (bq v) v.length (2 ^ v.length - 1) o) => top_tried hv hb ho (fun i hi => cl_exists (by simp [one]))
  obtain ⟨N, hN⟩ : ∃ N, N = 2 ^ v.length := ⟨_, rfl⟩
  rw [← hN] at w0 N1 N2 hms htr
  refine den_of Try.func5 rfl rfl (by simp [Try.ntmps5]) (fun X hX hO => ?_)
  rw [Try.ntmps5] at hX
  simp only [Try.results5]
  repeat' (first 
   | (with_reducible first | refine awp_scope ?_ | refine awp_seq ?_ | refine awp_block ?_)
   | ((with_reducible first | refine awp_label ?_ | refine awp_skip ?_); try simp only [thenA, inBlockA, noGotoA])
   | (with_reducible refine awp_exit ?_; simp only [thenA, inBlockA, noGotoA, if_true, Nat.reduceEqDiff, if_false, ↓reduceIte])
   | (with_reducible refine awp_ret ?_; (try simp only [thenA, inBlockA, noGotoA]); (try simp [-List.reduceReplicate, Nat.add_one_le_iff, -getElem?_pos, -getElem?_neg, List.getElem?_cons_zero, List.getElem?_cons_succ, rowsC, bC, iC, hg, hn, w0]))
   | ((with_reducible first | refine awp_reg 133 hX [0, 2, 3, 4, 5, 6, 7, 8, 9, 16, 22, 28, 36, 54, 62, 66, 98] ?_ | refine awp_drw 133 hX [0, 2, 3, 4, 5, 6, 7, 8, 9, 16, 22, 28, 36, 54, 62, 66, 98] Tab.mixed (by kernel_rfl) ?_ | refine DEv_cut _ _ _ _ _ _ _ _ _ _ _ _ (by kernel_rfl) ?_ | change postOf _ _ _ _ _); simp [-List.reduceReplicate, Nat.add_one_le_iff, -getElem?_pos, -getElem?_neg, List.getElem?_cons_zero, List.getElem?_cons_succ, rowsC, bC, iC, hg, hn, w0])
   | ((first | ((with_reducible refine Den.at_ (f := 21) ?_); refine (great_den _ _).det ?_) | ((with_reducible refine drawn_at (f := 21) ?_); refine ⟨_, _, great_den _ _, fun _ => rfl, ?_⟩) | ((with_reducible refine Den.at_ (f := 22) ?_); refine (awake46_den _).det ?_) | ((with_reducible refine drawn_at (f := 22) ?_); refine ⟨_, _, awake46_den _, fun _ => rfl, ?_⟩)); try simp [-List.reduceReplicate, Nat.add_one_le_iff, -getElem?_pos, -getElem?_neg, List.getElem?_cons_zero, List.getElem?_cons_succ, rowsC, bC, iC, hg, hn, w0])
   | (with_reducible refine awp_if_b rfl (fun hc => ?_) (fun hc => ?_) <;> (try simp [-getElem?_pos, -getElem?_neg] at hc) <;> (try (exfalso; omega)))
   | ((with_reducible first | refine GuardK_b (fun hc => ?_) (fun hc => ?_) | refine DGuard_b _ _ _ _ _ _ _ _ _ _ (fun hc => ?_) (fun hc => ?_)) <;> (try simp only [Bool.not_eq_true', Bool.not_eq_false', decide_eq_true_eq, decide_eq_false_iff_not] at hc) <;> (first | (exfalso; omega) | skip) <;> simp [-List.reduceReplicate, Nat.add_one_le_iff, -getElem?_pos, -getElem?_neg, List.getElem?_cons_zero, List.getElem?_cons_succ, rowsC, bC, iC, hg, hn, w0, hc])
   | ((with_reducible first | refine hother _ _ rfl ?_ | refine hother2 _ _ rfl ?_); simp only [inBlockA, thenA, noGotoA, Nat.reduceEqDiff, if_false, if_true, ↓reduceIte])
   | (with_reducible refine And.intro (by omega) ?_)
   | fail)
  refine awp_forU [0, 3, 4] (fun m (o : Option Nat) => [(3, triedM v.length o), (4, .c (iC (m + 1 : Nat)))]) (fun m (o : Option Nat) => []) (fun m (o : Option Nat) => Tried (bq v) v.length m o) (N - 1) (none) ((by intro s h1 h2; omega)) (by simp [-List.reduceReplicate, keep, iC, triedM]) (by simp [-List.reduceReplicate, iC, triedM]) ?_
  rintro m o Q1 hi hH next hother
  conv => arg 5; arg 1; simp only [List.cons_append, List.nil_append, keep, get, Nat.reduceEqDiff, if_true, if_false, ↓reduceIte]
  have next0 := next; have hother2 := hother; have hH0 := hH; clear next hother hH
  have lt0 : ∀ o, ltB 0 (triedM v.length o) = true := fun o => by cases o <;> rfl
  by_cases hlt : m < N - 1
  · have hlt' : (m : Int) + 1 < N := by omega
    have hwm := wrap_in ((m : Int) + 1 + 1) (by omega)
    have i0 : ¬ (v.length : Int) < 0 := by omega
    repeat' (first 
     | (with_reducible first | refine awp_scope ?_ | refine awp_seq ?_ | refine awp_block ?_)
     | ((with_reducible first | refine awp_label ?_ | refine awp_skip ?_); try simp only [thenA, inBlockA, noGotoA])
     | (with_reducible refine awp_exit ?_; simp only [thenA, inBlockA, noGotoA, if_true, Nat.reduceEqDiff, if_false, ↓reduceIte])
     | (with_reducible refine awp_ret ?_; (try simp only [thenA, inBlockA, noGotoA]); (try simp [-List.reduceReplicate, Nat.add_one_le_iff, -getElem?_pos, -getElem?_neg, List.getElem?_cons_zero, List.getElem?_cons_succ, iC, bC, w0, i0, hlt']))
     | ((with_reducible first | refine awp_reg 133 hX [0, 2, 3, 4, 5, 6, 7, 8, 9, 16, 22, 28, 36, 54, 62, 66, 98] ?_ | refine awp_drw 133 hX [0, 2, 3, 4, 5, 6, 7, 8, 9, 16, 22, 28, 36, 54, 62, 66, 98] Tab.mixed (by kernel_rfl) ?_ | refine DEv_cut _ _ _ _ _ _ _ _ _ _ _ _ (by kernel_rfl) ?_ | change postOf _ _ _ _ _); simp [-List.reduceReplicate, Nat.add_one_le_iff, -getElem?_pos, -getElem?_neg, List.getElem?_cons_zero, List.getElem?_cons_succ, iC, bC, w0, i0, hlt'])
     | (with_reducible refine awp_if_b rfl (fun hc => ?_) (fun hc => ?_) <;> (try simp [-getElem?_pos, -getElem?_neg] at hc) <;> (try (exfalso; omega)))
     | ((with_reducible first | refine GuardK_b (fun hc => ?_) (fun hc => ?_) | refine DGuard_b _ _ _ _ _ _ _ _ _ _ (fun hc => ?_) (fun hc => ?_)) <;> (try simp only [Bool.not_eq_true', Bool.not_eq_false', decide_eq_true_eq, decide_eq_false_iff_not] at hc) <;> (first | (exfalso; omega) | skip) <;> simp [-List.reduceReplicate, Nat.add_one_le_iff, -getElem?_pos, -getElem?_neg, List.getElem?_cons_zero, List.getElem?_cons_succ, iC, bC, w0, i0, hlt', hc])
     | ((with_reducible first | refine hother _ _ rfl ?_ | refine hother2 _ _ rfl ?_); simp only [inBlockA, thenA, noGotoA, Nat.reduceEqDiff, if_false, if_true, ↓reduceIte])
     | (with_reducible refine And.intro (by omega) ?_)
     | fail)
    refine awp_nil 5 3 1 (by simp) ?_
    simp
    have hp := posI_succ (m + 1).testBit
    have hpl : ∀ i, (posI (m + 1).testBit i).length ≤ i := fun i => by rw [posI_len]; exact posF_len _ _
    have hp0 : posI (m + 1).testBit 0 = [] := rfl
    obtain ⟨f, hf⟩ : ∃ f, f = posI (m + 1).testBit := ⟨_, rfl⟩
    rw [← hf] at hp hpl hp0
    refine awp_forU [0, 3, 4, 5, 6] (fun i (g : Nat × Bool) => [(5, .ms 0 g.1 0 (f i).length), (6, .c (iC i))]) (fun i (g : Nat × Bool) => [⟨3, 1, g.2, g.1, up ((f i).map iC), none⟩]) (fun i (g : Nat × Bool) => True) (v.length) ((0, true)) (by first | trivial | (simp; done) | omega | (intros; simp at *; done)) (by simp [-List.reduceReplicate, keep, iC, hp0]) (by simp [-List.reduceReplicate, iC, hp0]) ?_
    rintro i g Q1 hi hH next hother
    conv => arg 5; arg 1; simp only [List.cons_append, List.nil_append, keep, get, Nat.reduceEqDiff, if_true, if_false, ↓reduceIte]
    have hwi := wrap_in ((i : Int) + 1) (by omega)
    have hpi := hp i
    have hpli := hpl i
    by_cases hil : i < v.length
    · have w1 := wrapU64 (i : Int) (by omega)
      have e1 := shr_nat (m + 1) i (by omega)
      have a1 := bit_and (m + 1) i (by omega)
      simp only [Int.natCast_add, Int.cast_ofNat_Int] at e1 a1
      have i1 : ¬ (i : Int) < 0 := by omega
      cases c : (m + 1).testBit i
      · rw [c] at a1 hpi
        simp only [Bool.false_eq_true, if_false, List.append_nil] at a1 hpi
        repeat' (first 
         | (with_reducible first | refine awp_scope ?_ | refine awp_seq ?_ | refine awp_block ?_)
         | ((with_reducible first | refine awp_label ?_ | refine awp_skip ?_); try simp only [thenA, inBlockA, noGotoA])
         | (with_reducible refine awp_exit ?_; simp only [thenA, inBlockA, noGotoA, if_true, Nat.reduceEqDiff, if_false, ↓reduceIte])
         | (with_reducible refine awp_ret ?_; (try simp only [thenA, inBlockA, noGotoA]); (try simp [-List.reduceReplicate, Nat.add_one_le_iff, -getElem?_pos, -getElem?_neg, List.getElem?_cons_zero, List.getElem?_cons_succ, iC, bC, hil, w1, e1, a1, i1, hwi]))
         | ((with_reducible first | refine awp_reg 133 hX [0, 2, 3, 4, 5, 6, 7, 8, 9, 16, 22, 28, 36, 54, 62, 66, 98] ?_ | refine awp_drw 133 hX [0, 2, 3, 4, 5, 6, 7, 8, 9, 16, 22, 28, 36, 54, 62, 66, 98] Tab.mixed (by kernel_rfl) ?_ | refine DEv_cut _ _ _ _ _ _ _ _ _ _ _ _ (by kernel_rfl) ?_ | change postOf _ _ _ _ _); simp [-List.reduceReplicate, Nat.add_one_le_iff, -getElem?_pos, -getElem?_neg, List.getElem?_cons_zero, List.getElem?_cons_succ, iC, bC, hil, w1, e1, a1, i1, hwi])
         | (with_reducible refine awp_if_b rfl (fun hc => ?_) (fun hc => ?_) <;> (try simp [-getElem?_pos, -getElem?_neg] at hc) <;> (try (exfalso; omega)))
         | ((with_reducible first | refine GuardK_b (fun hc => ?_) (fun hc => ?_) | refine DGuard_b _ _ _ _ _ _ _ _ _ _ (fun hc => ?_) (fun hc => ?_)) <;> (try simp only [Bool.not_eq_true', Bool.not_eq_false', decide_eq_true_eq, decide_eq_false_iff_not] at hc) <;> (first | (exfalso; omega) | skip) <;> simp [-List.reduceReplicate, Nat.add_one_le_iff, -getElem?_pos, -getElem?_neg, List.getElem?_cons_zero, List.getElem?_cons_succ, iC, bC, hil, w1, e1, a1, i1, hwi, hc])
         | ((with_reducible first | refine hother _ _ rfl ?_ | refine hother2 _ _ rfl ?_); simp only [inBlockA, thenA, noGotoA, Nat.reduceEqDiff, if_false, if_true, ↓reduceIte])
         | (with_reducible refine And.intro (by omega) ?_)
         | fail)
        refine next _ _ (g) (by omega) (by first | trivial | omega | assumption) (by simp [-List.reduceReplicate, keep, iC, hpi]) (by simp [-List.reduceReplicate, iC, hpi])
      · rw [c] at a1 hpi
        simp only [if_true] at a1 hpi
        repeat' (first 
         | (with_reducible first | refine awp_scope ?_ | refine awp_seq ?_ | refine awp_block ?_)
         | ((with_reducible first | refine awp_label ?_ | refine awp_skip ?_); try simp only [thenA, inBlockA, noGotoA])
         | (with_reducible refine awp_exit ?_; simp only [thenA, inBlockA, noGotoA, if_true, Nat.reduceEqDiff, if_false, ↓reduceIte])
         | (with_reducible refine awp_ret ?_; (try simp only [thenA, inBlockA, noGotoA]); (try simp [-List.reduceReplicate, Nat.add_one_le_iff, -getElem?_pos, -getElem?_neg, List.getElem?_cons_zero, List.getElem?_cons_succ, iC, bC, hil, w1, e1, a1, i1, hwi, hpli, roomB]))
         | ((with_reducible first | refine awp_reg 133 hX [0, 2, 3, 4, 5, 6, 7, 8, 9, 16, 22, 28, 36, 54, 62, 66, 98] ?_ | refine awp_drw 133 hX [0, 2, 3, 4, 5, 6, 7, 8, 9, 16, 22, 28, 36, 54, 62, 66, 98] Tab.mixed (by kernel_rfl) ?_ | refine DEv_cut _ _ _ _ _ _ _ _ _ _ _ _ (by kernel_rfl) ?_ | change postOf _ _ _ _ _); simp [-List.reduceReplicate, Nat.add_one_le_iff, -getElem?_pos, -getElem?_neg, List.getElem?_cons_zero, List.getElem?_cons_succ, iC, bC, hil, w1, e1, a1, i1, hwi, hpli, roomB])
         | (with_reducible refine awp_if_b rfl (fun hc => ?_) (fun hc => ?_) <;> (try simp [-getElem?_pos, -getElem?_neg] at hc) <;> (try (exfalso; omega)))
         | ((with_reducible first | refine GuardK_b (fun hc => ?_) (fun hc => ?_) | refine DGuard_b _ _ _ _ _ _ _ _ _ _ (fun hc => ?_) (fun hc => ?_)) <;> (try simp only [Bool.not_eq_true', Bool.not_eq_false', decide_eq_true_eq, decide_eq_false_iff_not] at hc) <;> (first | (exfalso; omega) | skip) <;> simp [-List.reduceReplicate, Nat.add_one_le_iff, -getElem?_pos, -getElem?_neg, List.getElem?_cons_zero, List.getElem?_cons_succ, iC, bC, hil, w1, e1, a1, i1, hwi, hpli, roomB, hc])
         | ((with_reducible first | refine hother _ _ rfl ?_ | refine hother2 _ _ rfl ?_); simp only [inBlockA, thenA, noGotoA, Nat.reduceEqDiff, if_false, if_true, ↓reduceIte])
         | (with_reducible refine And.intro (by omega) ?_)
         | fail)
        refine next _ _ ((g.1 + 1, false)) (by omega) (by first | trivial | omega | assumption) (by simp [-List.reduceReplicate, keep, iC, hpi]) (by simp [-List.reduceReplicate, iC, hpi])
    · have hi2 : i = v.length := by omega
      subst hi2
      have hexit := hother; clear hother
      repeat' (first 
       | (with_reducible first | refine awp_scope ?_ | refine awp_seq ?_ | refine awp_block ?_)
       | ((with_reducible first | refine awp_label ?_ | refine awp_skip ?_); try simp only [thenA, inBlockA, noGotoA])
       | (with_reducible refine awp_exit ?_; simp only [thenA, inBlockA, noGotoA, if_true, Nat.reduceEqDiff, if_false, ↓reduceIte])
       | (with_reducible refine awp_ret ?_; (try simp only [thenA, inBlockA, noGotoA]); (try simp [-List.reduceReplicate, Nat.add_one_le_iff, -getElem?_pos, -getElem?_neg, List.getElem?_cons_zero, List.getElem?_cons_succ, iC, hil]))
       | ((with_reducible first | refine awp_reg 133 hX [0, 2, 3, 4, 5, 6, 7, 8, 9, 16, 22, 28, 36, 54, 62, 66, 98] ?_ | refine awp_drw 133 hX [0, 2, 3, 4, 5, 6, 7, 8, 9, 16, 22, 28, 36, 54, 62, 66, 98] Tab.mixed (by kernel_rfl) ?_ | refine DEv_cut _ _ _ _ _ _ _ _ _ _ _ _ (by kernel_rfl) ?_ | change postOf _ _ _ _ _); simp [-List.reduceReplicate, Nat.add_one_le_iff, -getElem?_pos, -getElem?_neg, List.getElem?_cons_zero, List.getElem?_cons_succ, iC, hil])
       | (with_reducible refine awp_if_b rfl (fun hc => ?_) (fun hc => ?_) <;> (try simp [-getElem?_pos, -getElem?_neg] at hc) <;> (try (exfalso; omega)))
       | ((with_reducible first | refine GuardK_b (fun hc => ?_) (fun hc => ?_) | refine DGuard_b _ _ _ _ _ _ _ _ _ _ (fun hc => ?_) (fun hc => ?_)) <;> (try simp only [Bool.not_eq_true', Bool.not_eq_false', decide_eq_true_eq, decide_eq_false_iff_not] at hc) <;> (first | (exfalso; omega) | skip) <;> simp [-List.reduceReplicate, Nat.add_one_le_iff, -getElem?_pos, -getElem?_neg, List.getElem?_cons_zero, List.getElem?_cons_succ, iC, hil, hc])
       | ((with_reducible first | refine hother _ _ rfl ?_ | refine hother2 _ _ rfl ?_); simp only [inBlockA, thenA, noGotoA, Nat.reduceEqDiff, if_false, if_true, ↓reduceIte])
       | (with_reducible refine And.intro (by omega) ?_)
       | fail)
      refine hexit _ _ rfl ?_
      simp only [inBlockA, thenA, ↓reduceIte]
      refine awp_frz2 5 [] [] [] _ ((f v.length).map iC) _ hO rfl rfl rfl (by simp [ltB, lt0]) (by simp) ?_
      have d1 := beatsAll_den v (m + 1) (by omega) (by omega)
      simp only [Int.natCast_add, Int.cast_ofNat_Int] at d1
      have hD := domTo_iff (bq v) v.length (m + 1)
      have hl1 : (f v.length).length = (posF (m + 1).testBit v.length).length := by rw [hf, posI_len]
      have hsm : triedM v.length (some (m + 1)) = .c (intsC (f v.length)) := by rw [hf]; rfl
      have hzero : Dom (bq v) v.length (m + 1).testBit → ¬ (f v.length).length = 0 := fun _ => by
        obtain ⟨j, hj, hjb⟩ := exists_bit (n := v.length) (s := m + 1) (by omega) (by omega)
        have := len_pos_of hj hjb
        omega
      clear hf
      cases hd : domTo (bq v) v.length (m + 1) v.length
      · have nd : ¬ Dom (bq v) v.length (m + 1).testBit := fun h => by rw [hD.2 h] at hd; simp at hd
        have nx : Tried (bq v) v.length (m + 1) o := tried_keep hH0 (fun h => absurd h nd)
        rw [hd] at d1
        cases o with
        | none =>
          repeat' (first 
           | (with_reducible first | refine awp_scope ?_ | refine awp_seq ?_ | refine awp_block ?_)
           | ((with_reducible first | refine awp_label ?_ | refine awp_skip ?_); try simp only [thenA, inBlockA, noGotoA])
           | (with_reducible refine awp_exit ?_; simp only [thenA, inBlockA, noGotoA, if_true, Nat.reduceEqDiff, if_false, ↓reduceIte])
           | (with_reducible refine awp_ret ?_; (try simp only [thenA, inBlockA, noGotoA]); (try simp [-List.reduceReplicate, Nat.add_one_le_iff, -getElem?_pos, -getElem?_neg, List.getElem?_cons_zero, List.getElem?_cons_succ, iC, bC, triedM, hwm]))
           | ((with_reducible first | refine awp_reg 133 hX [0, 2, 3, 4, 5, 6, 7, 8, 9, 16, 22, 28, 36, 54, 62, 66, 98] ?_ | refine awp_drw 133 hX [0, 2, 3, 4, 5, 6, 7, 8, 9, 16, 22, 28, 36, 54, 62, 66, 98] Tab.mixed (by kernel_rfl) ?_ | refine DEv_cut _ _ _ _ _ _ _ _ _ _ _ _ (by kernel_rfl) ?_ | change postOf _ _ _ _ _); simp [-List.reduceReplicate, Nat.add_one_le_iff, -getElem?_pos, -getElem?_neg, List.getElem?_cons_zero, List.getElem?_cons_succ, iC, bC, triedM, hwm])
           | ((first | (refine (d1 _).det ?_) | (refine ⟨_, _, d1 _, fun _ => rfl, ?_⟩)); try simp [-List.reduceReplicate, Nat.add_one_le_iff, -getElem?_pos, -getElem?_neg, List.getElem?_cons_zero, List.getElem?_cons_succ, iC, bC, triedM, hwm])
           | (with_reducible refine awp_if_b rfl (fun hc => ?_) (fun hc => ?_) <;> (try simp [-getElem?_pos, -getElem?_neg] at hc) <;> (try (exfalso; omega)))
           | ((with_reducible first | refine GuardK_b (fun hc => ?_) (fun hc => ?_) | refine DGuard_b _ _ _ _ _ _ _ _ _ _ (fun hc => ?_) (fun hc => ?_)) <;> (try simp only [Bool.not_eq_true', Bool.not_eq_false', decide_eq_true_eq, decide_eq_false_iff_not] at hc) <;> (first | (exfalso; omega) | skip) <;> simp [-List.reduceReplicate, Nat.add_one_le_iff, -getElem?_pos, -getElem?_neg, List.getElem?_cons_zero, List.getElem?_cons_succ, iC, bC, triedM, hwm, hc])
           | ((with_reducible first | refine hother _ _ rfl ?_ | refine hother2 _ _ rfl ?_); simp only [inBlockA, thenA, noGotoA, Nat.reduceEqDiff, if_false, if_true, ↓reduceIte])
           | (with_reducible refine And.intro (by omega) ?_)
           | fail)
          refine next0 _ _ (none) (by omega) (by first | trivial | omega | assumption) (by simp [-List.reduceReplicate, keep, iC, triedM]) (by simp [-List.reduceReplicate, iC, triedM])
        | some s0 =>
          have hl0 : ¬ (posI s0.testBit v.length).length = 0 := by
            rw [posI_len]
            obtain ⟨j, hj, hjb⟩ := exists_bit (n := v.length) (s := s0) (by have := hH0.1; omega) (by have := hH0.2.1; omega)
            have := len_pos_of hj hjb
            omega
          by_cases hss : (f v.length).length < (posI s0.testBit v.length).length
          · repeat' (first 
             | (with_reducible first | refine awp_scope ?_ | refine awp_seq ?_ | refine awp_block ?_)
             | ((with_reducible first | refine awp_label ?_ | refine awp_skip ?_); try simp only [thenA, inBlockA, noGotoA])
             | (with_reducible refine awp_exit ?_; simp only [thenA, inBlockA, noGotoA, if_true, Nat.reduceEqDiff, if_false, ↓reduceIte])
             | (with_reducible refine awp_ret ?_; (try simp only [thenA, inBlockA, noGotoA]); (try simp [-List.reduceReplicate, Nat.add_one_le_iff, -getElem?_pos, -getElem?_neg, List.getElem?_cons_zero, List.getElem?_cons_succ, iC, bC, triedM, intsC, hl0, hss, hwm]))
             | ((with_reducible first | refine awp_reg 133 hX [0, 2, 3, 4, 5, 6, 7, 8, 9, 16, 22, 28, 36, 54, 62, 66, 98] ?_ | refine awp_drw 133 hX [0, 2, 3, 4, 5, 6, 7, 8, 9, 16, 22, 28, 36, 54, 62, 66, 98] Tab.mixed (by kernel_rfl) ?_ | refine DEv_cut _ _ _ _ _ _ _ _ _ _ _ _ (by kernel_rfl) ?_ | change postOf _ _ _ _ _); simp [-List.reduceReplicate, Nat.add_one_le_iff, -getElem?_pos, -getElem?_neg, List.getElem?_cons_zero, List.getElem?_cons_succ, iC, bC, triedM, intsC, hl0, hss, hwm])
             | ((first | (refine (d1 _).det ?_) | (refine ⟨_, _, d1 _, fun _ => rfl, ?_⟩)); try simp [-List.reduceReplicate, Nat.add_one_le_iff, -getElem?_pos, -getElem?_neg, List.getElem?_cons_zero, List.getElem?_cons_succ, iC, bC, triedM, intsC, hl0, hss, hwm])
             | (with_reducible refine awp_if_b rfl (fun hc => ?_) (fun hc => ?_) <;> (try simp [-getElem?_pos, -getElem?_neg] at hc) <;> (try (exfalso; omega)))
             | ((with_reducible first | refine GuardK_b (fun hc => ?_) (fun hc => ?_) | refine DGuard_b _ _ _ _ _ _ _ _ _ _ (fun hc => ?_) (fun hc => ?_)) <;> (try simp only [Bool.not_eq_true', Bool.not_eq_false', decide_eq_true_eq, decide_eq_false_iff_not] at hc) <;> (first | (exfalso; omega) | skip) <;> simp [-List.reduceReplicate, Nat.add_one_le_iff, -getElem?_pos, -getElem?_neg, List.getElem?_cons_zero, List.getElem?_cons_succ, iC, bC, triedM, intsC, hl0, hss, hwm, hc])
             | ((with_reducible first | refine hother _ _ rfl ?_ | refine hother2 _ _ rfl ?_); simp only [inBlockA, thenA, noGotoA, Nat.reduceEqDiff, if_false, if_true, ↓reduceIte])
             | (with_reducible refine And.intro (by omega) ?_)
             | fail)
            refine next0 _ _ ((some s0)) (by omega) (by first | trivial | omega | assumption) (by simp [-List.reduceReplicate, keep, iC, triedM, intsC]) (by simp [-List.reduceReplicate, iC, triedM, intsC])
          · repeat' (first 
             | (with_reducible first | refine awp_scope ?_ | refine awp_seq ?_ | refine awp_block ?_)
             | ((with_reducible first | refine awp_label ?_ | refine awp_skip ?_); try simp only [thenA, inBlockA, noGotoA])
             | (with_reducible refine awp_exit ?_; simp only [thenA, inBlockA, noGotoA, if_true, Nat.reduceEqDiff, if_false, ↓reduceIte])
             | (with_reducible refine awp_ret ?_; (try simp only [thenA, inBlockA, noGotoA]); (try simp [-List.reduceReplicate, Nat.add_one_le_iff, -getElem?_pos, -getElem?_neg, List.getElem?_cons_zero, List.getElem?_cons_succ, iC, bC, triedM, intsC, hl0, hss, hwm]))
             | ((with_reducible first | refine awp_reg 133 hX [0, 2, 3, 4, 5, 6, 7, 8, 9, 16, 22, 28, 36, 54, 62, 66, 98] ?_ | refine awp_drw 133 hX [0, 2, 3, 4, 5, 6, 7, 8, 9, 16, 22, 28, 36, 54, 62, 66, 98] Tab.mixed (by kernel_rfl) ?_ | refine DEv_cut _ _ _ _ _ _ _ _ _ _ _ _ (by kernel_rfl) ?_ | change postOf _ _ _ _ _); simp [-List.reduceReplicate, Nat.add_one_le_iff, -getElem?_pos, -getElem?_neg, List.getElem?_cons_zero, List.getElem?_cons_succ, iC, bC, triedM, intsC, hl0, hss, hwm])
             | ((first | (refine (d1 _).det ?_) | (refine ⟨_, _, d1 _, fun _ => rfl, ?_⟩)); try simp [-List.reduceReplicate, Nat.add_one_le_iff, -getElem?_pos, -getElem?_neg, List.getElem?_cons_zero, List.getElem?_cons_succ, iC, bC, triedM, intsC, hl0, hss, hwm])
             | (with_reducible refine awp_if_b rfl (fun hc => ?_) (fun hc => ?_) <;> (try simp [-getElem?_pos, -getElem?_neg] at hc) <;> (try (exfalso; omega)))
             | ((with_reducible first | refine GuardK_b (fun hc => ?_) (fun hc => ?_) | refine DGuard_b _ _ _ _ _ _ _ _ _ _ (fun hc => ?_) (fun hc => ?_)) <;> (try simp only [Bool.not_eq_true', Bool.not_eq_false', decide_eq_true_eq, decide_eq_false_iff_not] at hc) <;> (first | (exfalso; omega) | skip) <;> simp [-List.reduceReplicate, Nat.add_one_le_iff, -getElem?_pos, -getElem?_neg, List.getElem?_cons_zero, List.getElem?_cons_succ, iC, bC, triedM, intsC, hl0, hss, hwm, hc])
             | ((with_reducible first | refine hother _ _ rfl ?_ | refine hother2 _ _ rfl ?_); simp only [inBlockA, thenA, noGotoA, Nat.reduceEqDiff, if_false, if_true, ↓reduceIte])
             | (with_reducible refine And.intro (by omega) ?_)
             | fail)
            refine next0 _ _ ((some s0)) (by omega) (by first | trivial | omega | assumption) (by simp [-List.reduceReplicate, keep, iC, triedM, intsC]) (by simp [-List.reduceReplicate, iC, triedM, intsC])
      · have yd := hD.1 hd
        rw [hd] at d1
        cases o with
        | none =>
          have nx : Tried (bq v) v.length (m + 1) (some (m + 1)) := tried_new hH0 yd (fun s0 h => by cases h)
          repeat' (first 
           | (with_reducible first | refine awp_scope ?_ | refine awp_seq ?_ | refine awp_block ?_)
           | ((with_reducible first | refine awp_label ?_ | refine awp_skip ?_); try simp only [thenA, inBlockA, noGotoA])
           | (with_reducible refine awp_exit ?_; simp only [thenA, inBlockA, noGotoA, if_true, Nat.reduceEqDiff, if_false, ↓reduceIte])
           | (with_reducible refine awp_ret ?_; (try simp only [thenA, inBlockA, noGotoA]); (try simp [-List.reduceReplicate, Nat.add_one_le_iff, -getElem?_pos, -getElem?_neg, List.getElem?_cons_zero, List.getElem?_cons_succ, iC, bC, triedM, hwm]))
           | ((with_reducible first | refine awp_reg 133 hX [0, 2, 3, 4, 5, 6, 7, 8, 9, 16, 22, 28, 36, 54, 62, 66, 98] ?_ | refine awp_drw 133 hX [0, 2, 3, 4, 5, 6, 7, 8, 9, 16, 22, 28, 36, 54, 62, 66, 98] Tab.mixed (by kernel_rfl) ?_ | refine DEv_cut _ _ _ _ _ _ _ _ _ _ _ _ (by kernel_rfl) ?_ | change postOf _ _ _ _ _); simp [-List.reduceReplicate, Nat.add_one_le_iff, -getElem?_pos, -getElem?_neg, List.getElem?_cons_zero, List.getElem?_cons_succ, iC, bC, triedM, hwm])
           | ((first | (refine (d1 _).det ?_) | (refine ⟨_, _, d1 _, fun _ => rfl, ?_⟩)); try simp [-List.reduceReplicate, Nat.add_one_le_iff, -getElem?_pos, -getElem?_neg, List.getElem?_cons_zero, List.getElem?_cons_succ, iC, bC, triedM, hwm])
           | (with_reducible refine awp_if_b rfl (fun hc => ?_) (fun hc => ?_) <;> (try simp [-getElem?_pos, -getElem?_neg] at hc) <;> (try (exfalso; omega)))
           | ((with_reducible first | refine GuardK_b (fun hc => ?_) (fun hc => ?_) | refine DGuard_b _ _ _ _ _ _ _ _ _ _ (fun hc => ?_) (fun hc => ?_)) <;> (try simp only [Bool.not_eq_true', Bool.not_eq_false', decide_eq_true_eq, decide_eq_false_iff_not] at hc) <;> (first | (exfalso; omega) | skip) <;> simp [-List.reduceReplicate, Nat.add_one_le_iff, -getElem?_pos, -getElem?_neg, List.getElem?_cons_zero, List.getElem?_cons_succ, iC, bC, triedM, hwm, hc])
           | ((with_reducible first | refine hother _ _ rfl ?_ | refine hother2 _ _ rfl ?_); simp only [inBlockA, thenA, noGotoA, Nat.reduceEqDiff, if_false, if_true, ↓reduceIte])
           | (with_reducible refine And.intro (by omega) ?_)
           | fail)
          refine next0 _ _ ((some (m + 1))) (by omega) (by first | trivial | omega | assumption) (by simp [-List.reduceReplicate, keep, iC, hsm, intsC]) (by simp [-List.reduceReplicate, iC, hsm, intsC])
        | some s0 =>
          have hl0 : ¬ (posI s0.testBit v.length).length = 0 := by
            rw [posI_len]
            obtain ⟨j, hj, hjb⟩ := exists_bit (n := v.length) (s := s0) (by have := hH0.1; omega) (by have := hH0.2.1; omega)
            have := len_pos_of hj hjb
            omega
          by_cases hss : (f v.length).length < (posI s0.testBit v.length).length
          · have nx : Tried (bq v) v.length (m + 1) (some (m + 1)) := tried_new hH0 yd (fun s1 h => by cases h; rw [posI_len] at hss; omega)
            repeat' (first 
             | (with_reducible first | refine awp_scope ?_ | refine awp_seq ?_ | refine awp_block ?_)
             | ((with_reducible first | refine awp_label ?_ | refine awp_skip ?_); try simp only [thenA, inBlockA, noGotoA])
             | (with_reducible refine awp_exit ?_; simp only [thenA, inBlockA, noGotoA, if_true, Nat.reduceEqDiff, if_false, ↓reduceIte])
             | (with_reducible refine awp_ret ?_; (try simp only [thenA, inBlockA, noGotoA]); (try simp [-List.reduceReplicate, Nat.add_one_le_iff, -getElem?_pos, -getElem?_neg, List.getElem?_cons_zero, List.getElem?_cons_succ, iC, bC, triedM, intsC, hl0, hss, hwm]))
             | ((with_reducible first | refine awp_reg 133 hX [0, 2, 3, 4, 5, 6, 7, 8, 9, 16, 22, 28, 36, 54, 62, 66, 98] ?_ | refine awp_drw 133 hX [0, 2, 3, 4, 5, 6, 7, 8, 9, 16, 22, 28, 36, 54, 62, 66, 98] Tab.mixed (by kernel_rfl) ?_ | refine DEv_cut _ _ _ _ _ _ _ _ _ _ _ _ (by kernel_rfl) ?_ | change postOf _ _ _ _ _); simp [-List.reduceReplicate, Nat.add_one_le_iff, -getElem?_pos, -getElem?_neg, List.getElem?_cons_zero, List.getElem?_cons_succ, iC, bC, triedM, intsC, hl0, hss, hwm])
             | ((first | (refine (d1 _).det ?_) | (refine ⟨_, _, d1 _, fun _ => rfl, ?_⟩)); try simp [-List.reduceReplicate, Nat.add_one_le_iff, -getElem?_pos, -getElem?_neg, List.getElem?_cons_zero, List.getElem?_cons_succ, iC, bC, triedM, intsC, hl0, hss, hwm])
             | (with_reducible refine awp_if_b rfl (fun hc => ?_) (fun hc => ?_) <;> (try simp [-getElem?_pos, -getElem?_neg] at hc) <;> (try (exfalso; omega)))
             | ((with_reducible first | refine GuardK_b (fun hc => ?_) (fun hc => ?_) | refine DGuard_b _ _ _ _ _ _ _ _ _ _ (fun hc => ?_) (fun hc => ?_)) <;> (try simp only [Bool.not_eq_true', Bool.not_eq_false', decide_eq_true_eq, decide_eq_false_iff_not] at hc) <;> (first | (exfalso; omega) | skip) <;> simp [-List.reduceReplicate, Nat.add_one_le_iff, -getElem?_pos, -getElem?_neg, List.getElem?_cons_zero, List.getElem?_cons_succ, iC, bC, triedM, intsC, hl0, hss, hwm, hc])
             | ((with_reducible first | refine hother _ _ rfl ?_ | refine hother2 _ _ rfl ?_); simp only [inBlockA, thenA, noGotoA, Nat.reduceEqDiff, if_false, if_true, ↓reduceIte])
             | (with_reducible refine And.intro (by omega) ?_)
             | fail)
            refine next0 _ _ ((some (m + 1))) (by omega) (by first | trivial | omega | assumption) (by simp [-List.reduceReplicate, keep, iC, hsm, intsC]) (by simp [-List.reduceReplicate, iC, hsm, intsC])
          · have nx : Tried (bq v) v.length (m + 1) (some s0) := tried_keep hH0 (fun _ => ⟨s0, rfl, by rw [posI_len] at hss; omega⟩)
            repeat' (first 
             | (with_reducible first | refine awp_scope ?_ | refine awp_seq ?_ | refine awp_block ?_)
             | ((with_reducible first | refine awp_label ?_ | refine awp_skip ?_); try simp only [thenA, inBlockA, noGotoA])
             | (with_reducible refine awp_exit ?_; simp only [thenA, inBlockA, noGotoA, if_true, Nat.reduceEqDiff, if_false, ↓reduceIte])
             | (with_reducible refine awp_ret ?_; (try simp only [thenA, inBlockA, noGotoA]); (try simp [-List.reduceReplicate, Nat.add_one_le_iff, -getElem?_pos, -getElem?_neg, List.getElem?_cons_zero, List.getElem?_cons_succ, iC, bC, triedM, intsC, hl0, hss, hwm]))
             | ((with_reducible first | refine awp_reg 133 hX [0, 2, 3, 4, 5, 6, 7, 8, 9, 16, 22, 28, 36, 54, 62, 66, 98] ?_ | refine awp_drw 133 hX [0, 2, 3, 4, 5, 6, 7, 8, 9, 16, 22, 28, 36, 54, 62, 66, 98] Tab.mixed (by kernel_rfl) ?_ | refine DEv_cut _ _ _ _ _ _ _ _ _ _ _ _ (by kernel_rfl) ?_ | change postOf _ _ _ _ _); simp [-List.reduceReplicate, Nat.add_one_le_iff, -getElem?_pos, -getElem?_neg, List.getElem?_cons_zero, List.getElem?_cons_succ, iC, bC, triedM, intsC, hl0, hss, hwm])
             | ((first | (refine (d1 _).det ?_) | (refine ⟨_, _, d1 _, fun _ => rfl, ?_⟩)); try simp [-List.reduceReplicate, Nat.add_one_le_iff, -getElem?_pos, -getElem?_neg, List.getElem?_cons_zero, List.getElem?_cons_succ, iC, bC, triedM, intsC, hl0, hss, hwm])
             | (with_reducible refine awp_if_b rfl (fun hc => ?_) (fun hc => ?_) <;> (try simp [-getElem?_pos, -getElem?_neg] at hc) <;> (try (exfalso; omega)))
             | ((with_reducible first | refine GuardK_b (fun hc => ?_) (fun hc => ?_) | refine DGuard_b _ _ _ _ _ _ _ _ _ _ (fun hc => ?_) (fun hc => ?_)) <;> (try simp only [Bool.not_eq_true', Bool.not_eq_false', decide_eq_true_eq, decide_eq_false_iff_not] at hc) <;> (first | (exfalso; omega) | skip) <;> simp [-List.reduceReplicate, Nat.add_one_le_iff, -getElem?_pos, -getElem?_neg, List.getElem?_cons_zero, List.getElem?_cons_succ, iC, bC, triedM, intsC, hl0, hss, hwm, hc])
             | ((with_reducible first | refine hother _ _ rfl ?_ | refine hother2 _ _ rfl ?_); simp only [inBlockA, thenA, noGotoA, Nat.reduceEqDiff, if_false, if_true, ↓reduceIte])
             | (with_reducible refine And.intro (by omega) ?_)
             | fail)
            refine next0 _ _ ((some s0)) (by omega) (by first | trivial | omega | assumption) (by simp [-List.reduceReplicate, keep, iC, triedM, intsC]) (by simp [-List.reduceReplicate, iC, triedM, intsC])
  · have hm2 : m = N - 1 := by omega
    subst hm2
    have hlt' : ¬ ((N - 1 : Nat) : Int) + 1 < N := by omega
    have hlt'' : ¬ N - 1 + 1 < N := by omega
    have i0 : ¬ (v.length : Int) < 0 := by omega
    clear next0
    repeat' (first 
     | (with_reducible first | refine awp_scope ?_ | refine awp_seq ?_ | refine awp_block ?_)
     | ((with_reducible first | refine awp_label ?_ | refine awp_skip ?_); try simp only [thenA, inBlockA, noGotoA])
     | (with_reducible refine awp_exit ?_; simp only [thenA, inBlockA, noGotoA, if_true, Nat.reduceEqDiff, if_false, ↓reduceIte])
     | (with_reducible refine awp_ret ?_; (try simp only [thenA, inBlockA, noGotoA]); (try simp [-List.reduceReplicate, Nat.add_one_le_iff, -getElem?_pos, -getElem?_neg, List.getElem?_cons_zero, List.getElem?_cons_succ, iC, bC, w0, i0, hlt', hlt'']))
     | ((with_reducible first | refine awp_reg 133 hX [0, 2, 3, 4, 5, 6, 7, 8, 9, 16, 22, 28, 36, 54, 62, 66, 98] ?_ | refine awp_drw 133 hX [0, 2, 3, 4, 5, 6, 7, 8, 9, 16, 22, 28, 36, 54, 62, 66, 98] Tab.mixed (by kernel_rfl) ?_ | refine DEv_cut _ _ _ _ _ _ _ _ _ _ _ _ (by kernel_rfl) ?_ | change postOf _ _ _ _ _); simp [-List.reduceReplicate, Nat.add_one_le_iff, -getElem?_pos, -getElem?_neg, List.getElem?_cons_zero, List.getElem?_cons_succ, iC, bC, w0, i0, hlt', hlt''])
     | (with_reducible refine awp_if_b rfl (fun hc => ?_) (fun hc => ?_) <;> (try simp [-getElem?_pos, -getElem?_neg] at hc) <;> (try (exfalso; omega)))
     | ((with_reducible first | refine GuardK_b (fun hc => ?_) (fun hc => ?_) | refine DGuard_b _ _ _ _ _ _ _ _ _ _ (fun hc => ?_) (fun hc => ?_)) <;> (try simp only [Bool.not_eq_true', Bool.not_eq_false', decide_eq_true_eq, decide_eq_false_iff_not] at hc) <;> (first | (exfalso; omega) | skip) <;> simp [-List.reduceReplicate, Nat.add_one_le_iff, -getElem?_pos, -getElem?_neg, List.getElem?_cons_zero, List.getElem?_cons_succ, iC, bC, w0, i0, hlt', hlt'', hc])
     | ((with_reducible first | refine hother _ _ rfl ?_ | refine hother2 _ _ rfl ?_); simp only [inBlockA, thenA, noGotoA, Nat.reduceEqDiff, if_false, if_true, ↓reduceIte])
     | (with_reducible refine And.intro (by omega) ?_)
     | fail)
    refine (top_den v (by omega) []).mono ?_
    rintro _ _ ⟨b, hB, rfl, rfl⟩
    rcases Nat.eq_zero_or_pos v.length with hv0 | hv0
    · have hv : v = [] := List.eq_nil_of_length_eq_zero hv0
      subst hv
      have hb : b = none := by
        cases b with
        | none => rfl
        | some b => obtain ⟨i, hi, _⟩ := hB.2.1; simp at hi
      have ho : o = none := by
        cases o with
        | none => rfl
        | some s =>
          have := hH0.1; have := hH0.2.1
          simp at hN
          omega
      subst hb ho
      have e0 : posF (gb []) 0 = [] := rfl
      repeat' (first 
       | (with_reducible first | refine awp_scope ?_ | refine awp_seq ?_ | refine awp_block ?_)
       | ((with_reducible first | refine awp_label ?_ | refine awp_skip ?_); try simp only [thenA, inBlockA, noGotoA])
       | (with_reducible refine awp_exit ?_; simp only [thenA, inBlockA, noGotoA, if_true, Nat.reduceEqDiff, if_false, ↓reduceIte])
       | (with_reducible refine awp_ret ?_; (try simp only [thenA, inBlockA, noGotoA]); (try simp [-List.reduceReplicate, Nat.add_one_le_iff, -getElem?_pos, -getElem?_neg, List.getElem?_cons_zero, List.getElem?_cons_succ, iC, bC, triedM, intsC, e0]))
       | ((with_reducible first | refine awp_reg 133 hX [0, 2, 3, 4, 5, 6, 7, 8, 9, 16, 22, 28, 36, 54, 62, 66, 98] ?_ | refine awp_drw 133 hX [0, 2, 3, 4, 5, 6, 7, 8, 9, 16, 22, 28, 36, 54, 62, 66, 98] Tab.mixed (by kernel_rfl) ?_ | refine DEv_cut _ _ _ _ _ _ _ _ _ _ _ _ (by kernel_rfl) ?_ | change postOf _ _ _ _ _); simp [-List.reduceReplicate, Nat.add_one_le_iff, -getElem?_pos, -getElem?_neg, List.getElem?_cons_zero, List.getElem?_cons_succ, iC, bC, triedM, intsC, e0])
       | ((first | ((with_reducible refine Den.at_ (f := 22) ?_); refine (awake46_den _).det ?_) | ((with_reducible refine drawn_at (f := 22) ?_); refine ⟨_, _, awake46_den _, fun _ => rfl, ?_⟩)); try simp [-List.reduceReplicate, Nat.add_one_le_iff, -getElem?_pos, -getElem?_neg, List.getElem?_cons_zero, List.getElem?_cons_succ, iC, bC, triedM, intsC, e0])
       | (with_reducible refine awp_if_b rfl (fun hc => ?_) (fun hc => ?_) <;> (try simp [-getElem?_pos, -getElem?_neg] at hc) <;> (try (exfalso; omega)))
       | ((with_reducible first | refine GuardK_b (fun hc => ?_) (fun hc => ?_) | refine DGuard_b _ _ _ _ _ _ _ _ _ _ (fun hc => ?_) (fun hc => ?_)) <;> (try simp only [Bool.not_eq_true', Bool.not_eq_false', decide_eq_true_eq, decide_eq_false_iff_not] at hc) <;> (first | (exfalso; omega) | skip) <;> simp [-List.reduceReplicate, Nat.add_one_le_iff, -getElem?_pos, -getElem?_neg, List.getElem?_cons_zero, List.getElem?_cons_succ, iC, bC, triedM, intsC, e0, hc])
       | ((with_reducible first | refine hother _ _ rfl ?_ | refine hother2 _ _ rfl ?_); simp only [inBlockA, thenA, noGotoA, Nat.reduceEqDiff, if_false, if_true, ↓reduceIte])
       | (with_reducible refine And.intro (by omega) ?_)
       | fail)
      refine awp_forU [0, 3, 7, 8, 9] (fun k (_u : Unit) => [(8, .c (iC 0)), (9, .c (iC k))]) (fun k (_u : Unit) => []) (fun k (_u : Unit) => True) (0) (()) (by first | trivial | (simp; done) | omega | (intros; simp at *; done)) (by simp [-List.reduceReplicate, keep, iC]) (by simp [-List.reduceReplicate, iC]) ?_
      rintro k _u Q1 hi hH next hother
      conv => arg 5; arg 1; simp only [List.cons_append, List.nil_append, keep, get, Nat.reduceEqDiff, if_true, if_false, ↓reduceIte]
      have hk0 : k = 0 := by omega
      subst hk0
      repeat' (first 
       | (with_reducible first | refine awp_scope ?_ | refine awp_seq ?_ | refine awp_block ?_)
       | ((with_reducible first | refine awp_label ?_ | refine awp_skip ?_); try simp only [thenA, inBlockA, noGotoA])
       | (with_reducible refine awp_exit ?_; simp only [thenA, inBlockA, noGotoA, if_true, Nat.reduceEqDiff, if_false, ↓reduceIte])
       | (with_reducible refine awp_ret ?_; (try simp only [thenA, inBlockA, noGotoA]); (try simp [-List.reduceReplicate, Nat.add_one_le_iff, -getElem?_pos, -getElem?_neg, List.getElem?_cons_zero, List.getElem?_cons_succ, iC, bC]))
       | ((with_reducible first | refine awp_reg 133 hX [0, 2, 3, 4, 5, 6, 7, 8, 9, 16, 22, 28, 36, 54, 62, 66, 98] ?_ | refine awp_drw 133 hX [0, 2, 3, 4, 5, 6, 7, 8, 9, 16, 22, 28, 36, 54, 62, 66, 98] Tab.mixed (by kernel_rfl) ?_ | refine DEv_cut _ _ _ _ _ _ _ _ _ _ _ _ (by kernel_rfl) ?_ | change postOf _ _ _ _ _); simp [-List.reduceReplicate, Nat.add_one_le_iff, -getElem?_pos, -getElem?_neg, List.getElem?_cons_zero, List.getElem?_cons_succ, iC, bC])
       | ((first | ((with_reducible refine Den.at_ (f := 22) ?_); refine (awake46_den _).det ?_) | ((with_reducible refine drawn_at (f := 22) ?_); refine ⟨_, _, awake46_den _, fun _ => rfl, ?_⟩)); try simp [-List.reduceReplicate, Nat.add_one_le_iff, -getElem?_pos, -getElem?_neg, List.getElem?_cons_zero, List.getElem?_cons_succ, iC, bC])
       | (with_reducible refine awp_if_b rfl (fun hc => ?_) (fun hc => ?_) <;> (try simp [-getElem?_pos, -getElem?_neg] at hc) <;> (try (exfalso; omega)))
       | ((with_reducible first | refine GuardK_b (fun hc => ?_) (fun hc => ?_) | refine DGuard_b _ _ _ _ _ _ _ _ _ _ (fun hc => ?_) (fun hc => ?_)) <;> (try simp only [Bool.not_eq_true', Bool.not_eq_false', decide_eq_true_eq, decide_eq_false_iff_not] at hc) <;> (first | (exfalso; omega) | skip) <;> simp [-List.reduceReplicate, Nat.add_one_le_iff, -getElem?_pos, -getElem?_neg, List.getElem?_cons_zero, List.getElem?_cons_succ, iC, bC, hc])
       | ((with_reducible first | refine hother _ _ rfl ?_ | refine hother2 _ _ rfl ?_); simp only [inBlockA, thenA, noGotoA, Nat.reduceEqDiff, if_false, if_true, ↓reduceIte])
       | (with_reducible refine And.intro (by omega) ?_)
       | fail)
    · obtain ⟨b', rfl, hT, hlb⟩ := bestI_top hv0 hB
      obtain ⟨s0, rfl, hlen, hsnd⟩ := htr b' o hv0 hT hH0
      obtain ⟨hD, _, _⟩ := top_dom hT
      have m1 := hms (gb b')
      have m2 := hmt (gb b')
      have hdm : Dom (bq v) v.length (maskOf (posF (gb b') v.length)).testBit := fun i k h1 h2 h3 h4 => by
        rw [m2] at h3 h4
        simp [h1, h2] at h3 h4
        exact hD i k h1 h2 h3 h4
      have d1 := beatsAll_den v (maskOf (posF (gb b') v.length)) (by omega) (by omega)
      rw [(domTo_iff (bq v) v.length _).2 hdm] at d1
      have q1 := sound_den v (by omega)
      have hsnd2 : sndTo v v.length = true → posI (gb b') v.length = posI s0.testBit v.length := fun h => posI_eq.2 (hsnd (snd_iff v h))
      simp only [Option.getD_some, hlb]
      have eP : (posF (gb b') v.length).map (fun x : Nat => (x : Int)) = posI (gb b') v.length := rfl
      rw [eP]
      simp only [triedM]
      have l1 : (posI (gb b') v.length).length = (posF (gb b') v.length).length := posI_len _ _
      have l2 : (posI s0.testBit v.length).length = (posF (gb b') v.length).length := by rw [posI_len, hlen]
      have hget : ∀ (i x : Nat), (posF (gb b') v.length)[i]? = some x → (posI (gb b') v.length)[i]? = some (x : Int) := fun i x h => by unfold posI; rw [List.getElem?_map, h]; rfl
      have hlt3 := fun (i x : Nat) (h : (posF (gb b') v.length)[i]? = some x) => pos_lt h
      have hup := fun (i x y : Nat) (h : (posF (gb b') v.length)[i]? = some x) (h' : (posF (gb b') v.length)[i + 1]? = some y) => pos_up h h'
      have hPl : (posF (gb b') v.length).length ≤ v.length := posF_len _ _
      clear hT hB hlen hsnd hD m2 hdm eP hms hmt htr hH0
      generalize posI s0.testBit v.length = pt at *
      generalize posI (gb b') v.length = pi at *
      generalize posF (gb b') v.length = p at *
      have hv1 : ¬ v.length = 0 := by omega
      have hmtk := fun (i x : Nat) (h : p[i]? = some x) => mask_take h
      have hmle := mask_take_le p
      have hm0 : maskOf (p.take 0) = 0 := rfl
      have hmall : maskOf (p.take p.length) = maskOf p := by rw [List.take_length]
      have hpow : ∀ x, x < v.length → IntKind.i64.wrap (2 ^ min x IntKind.i64.bits) = ((2 ^ x : Nat) : Int) := fun x hx => pow8 x (by omega)
      generalize maskOf p = mk at *
      obtain ⟨mf, hmf⟩ : ∃ mf : Nat → Nat, ∀ i, maskOf (p.take i) = mf i := ⟨_, fun _ => rfl⟩
      simp only [hmf] at hmtk hmle hm0 hmall
      repeat' (first 
       | (with_reducible first | refine awp_scope ?_ | refine awp_seq ?_ | refine awp_block ?_)
       | ((with_reducible first | refine awp_label ?_ | refine awp_skip ?_); try simp only [thenA, inBlockA, noGotoA])
       | (with_reducible refine awp_exit ?_; simp only [thenA, inBlockA, noGotoA, if_true, Nat.reduceEqDiff, if_false, ↓reduceIte])
       | (with_reducible refine awp_ret ?_; (try simp only [thenA, inBlockA, noGotoA]); (try simp [-List.reduceReplicate, Nat.add_one_le_iff, -getElem?_pos, -getElem?_neg, List.getElem?_cons_zero, List.getElem?_cons_succ, iC, bC, triedM, intsC, l1, l2]))
       | ((with_reducible first | refine awp_reg 133 hX [0, 2, 3, 4, 5, 6, 7, 8, 9, 16, 22, 28, 36, 54, 62, 66, 98] ?_ | refine awp_drw 133 hX [0, 2, 3, 4, 5, 6, 7, 8, 9, 16, 22, 28, 36, 54, 62, 66, 98] Tab.mixed (by kernel_rfl) ?_ | refine DEv_cut _ _ _ _ _ _ _ _ _ _ _ _ (by kernel_rfl) ?_ | change postOf _ _ _ _ _); simp [-List.reduceReplicate, Nat.add_one_le_iff, -getElem?_pos, -getElem?_neg, List.getElem?_cons_zero, List.getElem?_cons_succ, iC, bC, triedM, intsC, l1, l2])
       | (with_reducible refine awp_if_b rfl (fun hc => ?_) (fun hc => ?_) <;> (try simp [-getElem?_pos, -getElem?_neg] at hc) <;> (try (exfalso; omega)))
       | ((with_reducible first | refine GuardK_b (fun hc => ?_) (fun hc => ?_) | refine DGuard_b _ _ _ _ _ _ _ _ _ _ (fun hc => ?_) (fun hc => ?_)) <;> (try simp only [Bool.not_eq_true', Bool.not_eq_false', decide_eq_true_eq, decide_eq_false_iff_not] at hc) <;> (first | (exfalso; omega) | skip) <;> simp [-List.reduceReplicate, Nat.add_one_le_iff, -getElem?_pos, -getElem?_neg, List.getElem?_cons_zero, List.getElem?_cons_succ, iC, bC, triedM, intsC, l1, l2, hc])
       | ((with_reducible first | refine hother _ _ rfl ?_ | refine hother2 _ _ rfl ?_); simp only [inBlockA, thenA, noGotoA, Nat.reduceEqDiff, if_false, if_true, ↓reduceIte])
       | (with_reducible refine And.intro (by omega) ?_)
       | fail)
      refine awp_forU [0, 3, 7, 8, 9] (fun k (_u : Unit) => [(8, .c (iC (mf k))), (9, .c (iC k))]) (fun k (_u : Unit) => []) (fun k (_u : Unit) => True) (p.length) (()) (by first | trivial | (simp; done) | omega | (intros; simp at *; done)) (by simp [-List.reduceReplicate, keep, iC, hm0]) (by simp [-List.reduceReplicate, iC, hm0]) ?_
      rintro k _u Q1 hi hH next hother
      conv => arg 5; arg 1; simp only [List.cons_append, List.nil_append, keep, get, Nat.reduceEqDiff, if_true, if_false, ↓reduceIte]
      have hwk := wrap_in ((k : Int) + 1) (by omega)
      by_cases hkl : k < p.length
      · obtain ⟨x, hx⟩ : ∃ x, p[k]? = some x := ⟨_, List.getElem?_eq_getElem hkl⟩
        have g1 := hget k x hx
        have g2 := hlt3 k x hx
        have g3 := hmtk k x hx
        have g4 := hmle (k + 1)
        have g5 := hpow x g2
        have g6 := wrapU64 (x : Int) (by omega)
        have i1 : ¬ (x : Int) < 0 := by omega
        have i2 : ¬ v.length ≤ x := by omega
        have hkpi : k < pi.length := by omega
        obtain ⟨px, hpx⟩ : ∃ px, px = 2 ^ x := ⟨_, rfl⟩
        rw [← hpx] at g3 g5
        have g7 := wrap_in ((mf k : Int) + (px : Int)) (by omega)
        have g8 : (mf (k + 1) : Int) = (mf k : Int) + (px : Int) := by omega
        cases k with
        | zero =>
          have hwz := wrap_in 1 (by omega)
          repeat' (first 
           | (with_reducible first | refine awp_scope ?_ | refine awp_seq ?_ | refine awp_block ?_)
           | ((with_reducible first | refine awp_label ?_ | refine awp_skip ?_); try simp only [thenA, inBlockA, noGotoA])
           | (with_reducible refine awp_exit ?_; simp only [thenA, inBlockA, noGotoA, if_true, Nat.reduceEqDiff, if_false, ↓reduceIte])
           | (with_reducible refine awp_ret ?_; (try simp only [thenA, inBlockA, noGotoA]); (try simp [-List.reduceReplicate, Nat.add_one_le_iff, -getElem?_pos, -getElem?_neg, List.getElem?_cons_zero, List.getElem?_cons_succ, iC, bC, l1, hkl, hwk, g1, i1, i2, g5, g6, g7]))
           | ((with_reducible first | refine awp_reg 133 hX [0, 2, 3, 4, 5, 6, 7, 8, 9, 16, 22, 28, 36, 54, 62, 66, 98] ?_ | refine awp_drw 133 hX [0, 2, 3, 4, 5, 6, 7, 8, 9, 16, 22, 28, 36, 54, 62, 66, 98] Tab.mixed (by kernel_rfl) ?_ | refine DEv_cut _ _ _ _ _ _ _ _ _ _ _ _ (by kernel_rfl) ?_ | change postOf _ _ _ _ _); simp [-List.reduceReplicate, Nat.add_one_le_iff, -getElem?_pos, -getElem?_neg, List.getElem?_cons_zero, List.getElem?_cons_succ, iC, bC, l1, hkl, hwk, g1, i1, i2, g5, g6, g7])
           | (with_reducible refine awp_if_b rfl (fun hc => ?_) (fun hc => ?_) <;> (try simp [-getElem?_pos, -getElem?_neg] at hc) <;> (try (exfalso; omega)))
           | ((with_reducible first | refine GuardK_b (fun hc => ?_) (fun hc => ?_) | refine DGuard_b _ _ _ _ _ _ _ _ _ _ (fun hc => ?_) (fun hc => ?_)) <;> (try simp only [Bool.not_eq_true', Bool.not_eq_false', decide_eq_true_eq, decide_eq_false_iff_not] at hc) <;> (first | (exfalso; omega) | skip) <;> simp [-List.reduceReplicate, Nat.add_one_le_iff, -getElem?_pos, -getElem?_neg, List.getElem?_cons_zero, List.getElem?_cons_succ, iC, bC, l1, hkl, hwk, g1, i1, i2, g5, g6, g7, hc])
           | ((with_reducible first | refine hother _ _ rfl ?_ | refine hother2 _ _ rfl ?_); simp only [inBlockA, thenA, noGotoA, Nat.reduceEqDiff, if_false, if_true, ↓reduceIte])
           | (with_reducible refine And.intro (by omega) ?_)
           | fail)
          refine next _ _ (()) (by omega) (by first | trivial | omega | assumption) (by simp [-List.reduceReplicate, keep, iC, g8, hwz]) (by simp [-List.reduceReplicate, iC, g8, hwz])
        | succ j =>
          obtain ⟨y, hy⟩ : ∃ y, p[j]? = some y := ⟨_, List.getElem?_eq_getElem (by omega)⟩
          have y1 := hget j y hy
          have y2 := hup j y x hy hx
          have y3 : ¬ x ≤ y := by omega
          have hwj := wrap_in (j : Int) (by omega)
          have hwz := wrap_in ((j : Int) + 1 + 1) (by omega)
          repeat' (first 
           | (with_reducible first | refine awp_scope ?_ | refine awp_seq ?_ | refine awp_block ?_)
           | ((with_reducible first | refine awp_label ?_ | refine awp_skip ?_); try simp only [thenA, inBlockA, noGotoA])
           | (with_reducible refine awp_exit ?_; simp only [thenA, inBlockA, noGotoA, if_true, Nat.reduceEqDiff, if_false, ↓reduceIte])
           | (with_reducible refine awp_ret ?_; (try simp only [thenA, inBlockA, noGotoA]); (try simp [-List.reduceReplicate, Nat.add_one_le_iff, -getElem?_pos, -getElem?_neg, List.getElem?_cons_zero, List.getElem?_cons_succ, iC, bC, l1, hkl, hwk, g1, i1, i2, g5, g6, g7, y1, y3, hwj]))
           | ((with_reducible first | refine awp_reg 133 hX [0, 2, 3, 4, 5, 6, 7, 8, 9, 16, 22, 28, 36, 54, 62, 66, 98] ?_ | refine awp_drw 133 hX [0, 2, 3, 4, 5, 6, 7, 8, 9, 16, 22, 28, 36, 54, 62, 66, 98] Tab.mixed (by kernel_rfl) ?_ | refine DEv_cut _ _ _ _ _ _ _ _ _ _ _ _ (by kernel_rfl) ?_ | change postOf _ _ _ _ _); simp [-List.reduceReplicate, Nat.add_one_le_iff, -getElem?_pos, -getElem?_neg, List.getElem?_cons_zero, List.getElem?_cons_succ, iC, bC, l1, hkl, hwk, g1, i1, i2, g5, g6, g7, y1, y3, hwj])
           | (with_reducible refine awp_if_b rfl (fun hc => ?_) (fun hc => ?_) <;> (try simp [-getElem?_pos, -getElem?_neg] at hc) <;> (try (exfalso; omega)))
           | ((with_reducible first | refine GuardK_b (fun hc => ?_) (fun hc => ?_) | refine DGuard_b _ _ _ _ _ _ _ _ _ _ (fun hc => ?_) (fun hc => ?_)) <;> (try simp only [Bool.not_eq_true', Bool.not_eq_false', decide_eq_true_eq, decide_eq_false_iff_not] at hc) <;> (first | (exfalso; omega) | skip) <;> simp [-List.reduceReplicate, Nat.add_one_le_iff, -getElem?_pos, -getElem?_neg, List.getElem?_cons_zero, List.getElem?_cons_succ, iC, bC, l1, hkl, hwk, g1, i1, i2, g5, g6, g7, y1, y3, hwj, hc])
           | ((with_reducible first | refine hother _ _ rfl ?_ | refine hother2 _ _ rfl ?_); simp only [inBlockA, thenA, noGotoA, Nat.reduceEqDiff, if_false, if_true, ↓reduceIte])
           | (with_reducible refine And.intro (by omega) ?_)
           | fail)
          refine next _ _ (()) (by omega) (by first | trivial | omega | assumption) (by simp [-List.reduceReplicate, keep, iC, g8, hwz]) (by simp [-List.reduceReplicate, iC, g8, hwz])
      · have hk2 : k = p.length := by omega
        subst hk2
        rw [hmall] at *
        have s1 := same_den pi pt [] (by omega)
        unfold intsC at s1
        rw [l1, l2] at s1
        cases hs : sndTo v v.length
        · rw [hs] at q1
          repeat' (first 
           | (with_reducible first | refine awp_scope ?_ | refine awp_seq ?_ | refine awp_block ?_)
           | ((with_reducible first | refine awp_label ?_ | refine awp_skip ?_); try simp only [thenA, inBlockA, noGotoA])
           | (with_reducible refine awp_exit ?_; simp only [thenA, inBlockA, noGotoA, if_true, Nat.reduceEqDiff, if_false, ↓reduceIte])
           | (with_reducible refine awp_ret ?_; (try simp only [thenA, inBlockA, noGotoA]); (try simp [-List.reduceReplicate, Nat.add_one_le_iff, -getElem?_pos, -getElem?_neg, List.getElem?_cons_zero, List.getElem?_cons_succ, iC, bC, l1, hv1]))
           | ((with_reducible first | refine awp_reg 133 hX [0, 2, 3, 4, 5, 6, 7, 8, 9, 16, 22, 28, 36, 54, 62, 66, 98] ?_ | refine awp_drw 133 hX [0, 2, 3, 4, 5, 6, 7, 8, 9, 16, 22, 28, 36, 54, 62, 66, 98] Tab.mixed (by kernel_rfl) ?_ | refine DEv_cut _ _ _ _ _ _ _ _ _ _ _ _ (by kernel_rfl) ?_ | change postOf _ _ _ _ _); simp [-List.reduceReplicate, Nat.add_one_le_iff, -getElem?_pos, -getElem?_neg, List.getElem?_cons_zero, List.getElem?_cons_succ, iC, bC, l1, hv1])
           | ((first | (refine (q1 _).det ?_) | (refine ⟨_, _, q1 _, fun _ => rfl, ?_⟩) | (refine (s1).det ?_) | (refine ⟨_, _, s1, fun _ => rfl, ?_⟩) | (refine (d1 _).det ?_) | (refine ⟨_, _, d1 _, fun _ => rfl, ?_⟩) | ((with_reducible refine Den.at_ (f := 22) ?_); refine (awake46_den _).det ?_) | ((with_reducible refine drawn_at (f := 22) ?_); refine ⟨_, _, awake46_den _, fun _ => rfl, ?_⟩)); try simp [-List.reduceReplicate, Nat.add_one_le_iff, -getElem?_pos, -getElem?_neg, List.getElem?_cons_zero, List.getElem?_cons_succ, iC, bC, l1, hv1])
           | (with_reducible refine awp_if_b rfl (fun hc => ?_) (fun hc => ?_) <;> (try simp [-getElem?_pos, -getElem?_neg] at hc) <;> (try (exfalso; omega)))
           | ((with_reducible first | refine GuardK_b (fun hc => ?_) (fun hc => ?_) | refine DGuard_b _ _ _ _ _ _ _ _ _ _ (fun hc => ?_) (fun hc => ?_)) <;> (try simp only [Bool.not_eq_true', Bool.not_eq_false', decide_eq_true_eq, decide_eq_false_iff_not] at hc) <;> (first | (exfalso; omega) | skip) <;> simp [-List.reduceReplicate, Nat.add_one_le_iff, -getElem?_pos, -getElem?_neg, List.getElem?_cons_zero, List.getElem?_cons_succ, iC, bC, l1, hv1, hc])
           | ((with_reducible first | refine hother _ _ rfl ?_ | refine hother2 _ _ rfl ?_); simp only [inBlockA, thenA, noGotoA, Nat.reduceEqDiff, if_false, if_true, ↓reduceIte])
           | (with_reducible refine And.intro (by omega) ?_)
           | fail)
        · have e := hsnd2 hs
          rw [hs] at q1
          subst e
          repeat' (first 
           | (with_reducible first | refine awp_scope ?_ | refine awp_seq ?_ | refine awp_block ?_)
           | ((with_reducible first | refine awp_label ?_ | refine awp_skip ?_); try simp only [thenA, inBlockA, noGotoA])
           | (with_reducible refine awp_exit ?_; simp only [thenA, inBlockA, noGotoA, if_true, Nat.reduceEqDiff, if_false, ↓reduceIte])
           | (with_reducible refine awp_ret ?_; (try simp only [thenA, inBlockA, noGotoA]); (try simp [-List.reduceReplicate, Nat.add_one_le_iff, -getElem?_pos, -getElem?_neg, List.getElem?_cons_zero, List.getElem?_cons_succ, iC, bC, l1, hv1]))
           | ((with_reducible first | refine awp_reg 133 hX [0, 2, 3, 4, 5, 6, 7, 8, 9, 16, 22, 28, 36, 54, 62, 66, 98] ?_ | refine awp_drw 133 hX [0, 2, 3, 4, 5, 6, 7, 8, 9, 16, 22, 28, 36, 54, 62, 66, 98] Tab.mixed (by kernel_rfl) ?_ | refine DEv_cut _ _ _ _ _ _ _ _ _ _ _ _ (by kernel_rfl) ?_ | change postOf _ _ _ _ _); simp [-List.reduceReplicate, Nat.add_one_le_iff, -getElem?_pos, -getElem?_neg, List.getElem?_cons_zero, List.getElem?_cons_succ, iC, bC, l1, hv1])
           | ((first | (refine (q1 _).det ?_) | (refine ⟨_, _, q1 _, fun _ => rfl, ?_⟩) | (refine (s1).det ?_) | (refine ⟨_, _, s1, fun _ => rfl, ?_⟩) | (refine (d1 _).det ?_) | (refine ⟨_, _, d1 _, fun _ => rfl, ?_⟩) | ((with_reducible refine Den.at_ (f := 22) ?_); refine (awake46_den _).det ?_) | ((with_reducible refine drawn_at (f := 22) ?_); refine ⟨_, _, awake46_den _, fun _ => rfl, ?_⟩)); try simp [-List.reduceReplicate, Nat.add_one_le_iff, -getElem?_pos, -getElem?_neg, List.getElem?_cons_zero, List.getElem?_cons_succ, iC, bC, l1, hv1])
           | (with_reducible refine awp_if_b rfl (fun hc => ?_) (fun hc => ?_) <;> (try simp [-getElem?_pos, -getElem?_neg] at hc) <;> (try (exfalso; omega)))
           | ((with_reducible first | refine GuardK_b (fun hc => ?_) (fun hc => ?_) | refine DGuard_b _ _ _ _ _ _ _ _ _ _ (fun hc => ?_) (fun hc => ?_)) <;> (try simp only [Bool.not_eq_true', Bool.not_eq_false', decide_eq_true_eq, decide_eq_false_iff_not] at hc) <;> (first | (exfalso; omega) | skip) <;> simp [-List.reduceReplicate, Nat.add_one_le_iff, -getElem?_pos, -getElem?_neg, List.getElem?_cons_zero, List.getElem?_cons_succ, iC, bC, l1, hv1, hc])
           | ((with_reducible first | refine hother _ _ rfl ?_ | refine hother2 _ _ rfl ?_); simp only [inBlockA, thenA, noGotoA, Nat.reduceEqDiff, if_false, if_true, ↓reduceIte])
           | (with_reducible refine And.intro (by omega) ?_)
           | fail)
end Go.Av
