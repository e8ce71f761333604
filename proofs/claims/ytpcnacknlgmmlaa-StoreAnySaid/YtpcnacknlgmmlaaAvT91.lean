/- 1 texts of the program logic over abstract values, joined: each is proved without any condition beyond its own words. -/
import Derived.Test.YtpcnacknlgmmlaaAvT90
import Derived.Test.YtpcnacknlgmmlaaAvEngine4
set_option exponentiation.threshold 1000
set_option linter.unusedVariables false
set_option linter.unusedSimpArgs false
set_option maxRecDepth 100000
set_option maxHeartbeats 4000000
namespace Go.Av
open Go Go.Proofs Go.Proofs.Ytpcnacknlgmmlaa Go.RowKit
attribute [local simp] List.getElem?_cons_zero List.getElem?_cons_succ
/-! ### StoreAny -/
attribute [local simp] Try.underlying40 Try.underlying9 Try.underlying3 Try.underlying4 Try.underlying22
theorem mod_lt3 (x : Int) (n : Nat) (h : 0 < n) (hn : n < 1000000) : ∃ b : Nat, b < n ∧ IntKind.i64.wrap ((IntKind.u64.wrap x).tmod (n : Int)) = (b : Int) := by
  have h0 : 0 ≤ IntKind.u64.wrap x := by
    simp [IntKind.wrap, IntKind.signed, IntKind.bits]
    omega
  rw [Int.tmod_eq_emod_of_nonneg h0]
  have h1 := Int.emod_nonneg (IntKind.u64.wrap x) (show (n : Int) ≠ 0 by omega)
  have h2 := Int.emod_lt_of_pos (IntKind.u64.wrap x) (show (0 : Int) < n by omega)
  exact ⟨((IntKind.u64.wrap x) % (n : Int)).toNat, by omega, by rw [wrap_in _ (by omega)]; omega⟩
theorem swp_set {α : Type} [Inhabited α] (l : List α) (i j : Nat) (hi : i < l.length) (hj : j < l.length) (x y : α) (h1 : l[i]? = some x) (h2 : l[j]? = some y) : Hp.swp l i j = (l.set i y).set j x := by
  unfold Hp.swp Hp.at'
  simp [List.getD, h1, h2]
/-- Two stores. -/
def st2 (n : Int) (a b : List ByteArray) : List Ob := [oddOb (.map (entS a)), stO n (.mm 0), oddOb (.map (entS b)), stO n (.mm 2)]
theorem okSt2 (n : Int) (a b : List ByteArray) : okOb (st2 n a b) := rfl
theorem newA_den (n : Int) : Den Try.prog 9 [.c (iC n)] [] (fun r ob' => r = .mp 1 0 0 ∧ ob' = stObs n []) := new_den n []
theorem newB_den (n : Int) : Den Try.prog 9 [.c (iC n)] (stObs n []) (fun r ob' => r = .mp 3 0 0 ∧ ob' = st2 n [] []) := new_den n (stObs n [])
theorem lenA_den (n : Int) (a b : List ByteArray) : Den Try.prog 13 [.mp 1 0 0] (st2 n a b) (fun r ob' => r = .c (iC a.length) ∧ ob' = st2 n a b) := by
  have h := len_den 1 0 n (entS a) (st2 n a b) rfl rfl
  rwa [entS_len] at h
theorem lenB_den (n : Int) (a b : List ByteArray) : Den Try.prog 13 [.mp 3 0 0] (st2 n a b) (fun r ob' => r = .c (iC b.length) ∧ ob' = st2 n a b) := by
  have h := len_den 3 2 n (entS b) (st2 n a b) rfl rfl
  rwa [entS_len] at h
open Classical in
noncomputable def insD (d : List ByteArray) (s : ByteArray) : List ByteArray := if s ∈ d then d else d ++ [s]
theorem insD_mem (d : List ByteArray) (s x : ByteArray) : x ∈ insD d s ↔ x ∈ d ∨ x = s := by
  unfold insD
  split
  · rename_i h
    exact ⟨fun h1 => .inl h1, fun h1 => h1.elim id fun e => by rw [e]; exact h⟩
  · simp
theorem insD_len (d : List ByteArray) (s : ByteArray) : (insD d s).length ≤ d.length + 1 := by
  unfold insD; split <;> simp
theorem insD_nodup (d : List ByteArray) (s : ByteArray) (h : d.Nodup) : (insD d s).Nodup := by
  unfold insD
  split
  · exact h
  · rename_i hn
    refine List.nodup_append.2 ⟨h, by simp, fun a ha b hb hab => ?_⟩
    simp at hb
    subst hb; subst hab
    exact hn ha
theorem addA_den (n : Int) (a b : List ByteArray) (s : ByteArray) (hs8 : s.size ≤ 281474976710656) (hn : (a.length : Int) < n) : Den Try.prog 10 [.mp 1 0 0, .c (sC s)] (st2 n a b) (fun r ob' => ∃ t, r = .tup [.c (bC t), .c (iC 0)] ∧ ob' = st2 n (insD a s) b) := by
  unfold insD
  split
  · rename_i hm
    exact (add_in 1 0 n a s _ rfl rfl hm).mono fun r ob' h => ⟨false, h⟩
  · rename_i hm
    exact (add_new 1 0 n a s _ hs8 rfl rfl hm (by omega)).mono fun r ob' h => ⟨true, h⟩
theorem addB_den (n : Int) (a b : List ByteArray) (s : ByteArray) (hs8 : s.size ≤ 281474976710656) (hn : (b.length : Int) < n) : Den Try.prog 10 [.mp 3 0 0, .c (sC s)] (st2 n a b) (fun r ob' => ∃ t, r = .tup [.c (bC t), .c (iC 0)] ∧ ob' = st2 n a (insD b s)) := by
  unfold insD
  split
  · rename_i hm
    exact (add_in 3 2 n b s _ rfl rfl hm).mono fun r ob' h => ⟨false, h⟩
  · rename_i hm
    exact (add_new 3 2 n b s _ hs8 rfl rfl hm (by omega)).mono fun r ob' h => ⟨true, h⟩
def csL (l : List ByteArray) : List C := l.map fun s => .v (.string s)
theorem csL_len (l : List ByteArray) : (csL l).length = l.length := by simp [csL]
theorem csL_at (l : List ByteArray) (i : Nat) (s : ByteArray) (h : l[i]? = some s) : (csL l)[i]? = some (.v (.string s)) := by simp [csL, h]
theorem storeAny_den (l : List ByteArray) (sw : List Int) (hl : l.length ≤ 8796093021952 ∧ ∀ s ∈ l, s.size ≤ 140737488351232) : DenV Try.prog 4 [.c (strC l), .c (intsC sw)] (.c (bC true)) := by
  refine Den.frame rfl rfl ?_
  have m1 := much53_den l hl.1 (fun s hs => Nat.le_trans (hl.2 s hs) (by omega))
  have aw := awake53_den
  have hno := @much53_no l
  have hat := csL_at
  have hlm := csL_len
  have he : strC l = .sl (csL l) l.length false := rfl
  rw [he] at m1 ⊢
  generalize much53 l = mu at *
  by_cases hsl : 200 < sw.length
  · have h9 : (200 : Int) < sw.length := by omega
    refine den_of Try.func4 rfl rfl (by simp [Try.ntmps4]) (fun X hX hO => ?_)
    rw [Try.ntmps4] at hX
    simp only [Try.results4]
    cases mu with
    | true =>
      repeat' (first 
       | (with_reducible first | refine awp_scope ?_ | refine awp_seq ?_ | refine awp_block ?_)
       | ((with_reducible first | refine awp_label ?_ | refine awp_skip ?_ | refine awp_exit ?_ | refine hother _ _ rfl ?_); try simp only [thenA, inBlockA, noGotoA, if_true, Nat.reduceEqDiff, if_false, ↓reduceIte])
       | ((with_reducible first | refine awp_reg 122 hX [0, 1, 4, 5, 6, 7, 8, 9, 10, 11, 13, 15, 27, 41, 75, 106] ?_ | refine awp_drw (id := 8) 122 hX [0, 1, 4, 5, 6, 7, 8, 9, 10, 11, 13, 15, 27, 41, 75, 106] Tab.mixed (by kernel_rfl) ?_ | refine DEv_cut _ _ _ _ _ _ _ _ _ _ _ _ (by kernel_rfl) ?_ | change postOf _ _ _ _ _); simp [-List.reduceReplicate, Nat.add_one_le_iff, -getElem?_pos, -getElem?_neg, bC, iC, intsC])
       | ((first | (with_reducible refine awp_ret ?_; try simp only [thenA, inBlockA, noGotoA]) | (refine (m1 _).det ?_) | (refine ⟨_, _, m1 _, fun _ => rfl, ?_⟩) | (refine (aw _).det ?_) | (refine ⟨_, _, aw _, fun _ => rfl, ?_⟩)); try simp [-List.reduceReplicate, Nat.add_one_le_iff, -getElem?_pos, -getElem?_neg, bC, iC, intsC])
       | (with_reducible refine awp_if_b rfl (fun hc => ?_) (fun hc => ?_) <;> (try simp [-getElem?_pos, -getElem?_neg] at hc) <;> (try (exfalso; omega)))
       | ((with_reducible first | refine GuardK_b (fun hc => ?_) (fun hc => ?_) | refine DGuard_b _ _ _ _ _ _ _ _ _ _ (fun hc => ?_) (fun hc => ?_)) <;> (try simp only [Bool.not_eq_true', Bool.not_eq_false', decide_eq_true_eq, decide_eq_false_iff_not] at hc) <;> (first | (exfalso; omega) | skip) <;> simp [-List.reduceReplicate, Nat.add_one_le_iff, -getElem?_pos, -getElem?_neg, bC, iC, intsC, hc])
       | (with_reducible refine And.intro (by omega) ?_)
       | fail)
    | false =>
      repeat' (first 
       | (with_reducible first | refine awp_scope ?_ | refine awp_seq ?_ | refine awp_block ?_)
       | ((with_reducible first | refine awp_label ?_ | refine awp_skip ?_ | refine awp_exit ?_ | refine hother _ _ rfl ?_); try simp only [thenA, inBlockA, noGotoA, if_true, Nat.reduceEqDiff, if_false, ↓reduceIte])
       | ((with_reducible first | refine awp_reg 122 hX [0, 1, 4, 5, 6, 7, 8, 9, 10, 11, 13, 15, 27, 41, 75, 106] ?_ | refine awp_drw (id := 8) 122 hX [0, 1, 4, 5, 6, 7, 8, 9, 10, 11, 13, 15, 27, 41, 75, 106] Tab.mixed (by kernel_rfl) ?_ | refine DEv_cut _ _ _ _ _ _ _ _ _ _ _ _ (by kernel_rfl) ?_ | change postOf _ _ _ _ _); simp [-List.reduceReplicate, Nat.add_one_le_iff, -getElem?_pos, -getElem?_neg, bC, iC, intsC, h9])
       | ((first | (with_reducible refine awp_ret ?_; try simp only [thenA, inBlockA, noGotoA]) | (refine (m1 _).det ?_) | (refine ⟨_, _, m1 _, fun _ => rfl, ?_⟩) | (refine (aw _).det ?_) | (refine ⟨_, _, aw _, fun _ => rfl, ?_⟩)); try simp [-List.reduceReplicate, Nat.add_one_le_iff, -getElem?_pos, -getElem?_neg, bC, iC, intsC, h9])
       | (with_reducible refine awp_if_b rfl (fun hc => ?_) (fun hc => ?_) <;> (try simp [-getElem?_pos, -getElem?_neg] at hc) <;> (try (exfalso; omega)))
       | ((with_reducible first | refine GuardK_b (fun hc => ?_) (fun hc => ?_) | refine DGuard_b _ _ _ _ _ _ _ _ _ _ (fun hc => ?_) (fun hc => ?_)) <;> (try simp only [Bool.not_eq_true', Bool.not_eq_false', decide_eq_true_eq, decide_eq_false_iff_not] at hc) <;> (first | (exfalso; omega) | skip) <;> simp [-List.reduceReplicate, Nat.add_one_le_iff, -getElem?_pos, -getElem?_neg, bC, iC, intsC, h9, hc])
       | (with_reducible refine And.intro (by omega) ?_)
       | fail)
  have h9 : ¬ (200 : Int) < sw.length := by omega
  refine den_of Try.func4 rfl rfl (by simp [Try.ntmps4]) (fun X hX hO => ?_)
  rw [Try.ntmps4] at hX
  simp only [Try.results4]
  cases mu with
  | true =>
    repeat' (first 
     | (with_reducible first | refine awp_scope ?_ | refine awp_seq ?_ | refine awp_block ?_)
     | ((with_reducible first | refine awp_label ?_ | refine awp_skip ?_ | refine awp_exit ?_ | refine hother _ _ rfl ?_); try simp only [thenA, inBlockA, noGotoA, if_true, Nat.reduceEqDiff, if_false, ↓reduceIte])
     | ((with_reducible first | refine awp_reg 122 hX [0, 1, 4, 5, 6, 7, 8, 9, 10, 11, 13, 15, 27, 41, 75, 106] ?_ | refine awp_drw (id := 8) 122 hX [0, 1, 4, 5, 6, 7, 8, 9, 10, 11, 13, 15, 27, 41, 75, 106] Tab.mixed (by kernel_rfl) ?_ | refine DEv_cut _ _ _ _ _ _ _ _ _ _ _ _ (by kernel_rfl) ?_ | change postOf _ _ _ _ _); simp [-List.reduceReplicate, Nat.add_one_le_iff, -getElem?_pos, -getElem?_neg, bC, iC, intsC])
     | ((first | (with_reducible refine awp_ret ?_; try simp only [thenA, inBlockA, noGotoA]) | (refine (m1 _).det ?_) | (refine ⟨_, _, m1 _, fun _ => rfl, ?_⟩) | (refine (aw _).det ?_) | (refine ⟨_, _, aw _, fun _ => rfl, ?_⟩)); try simp [-List.reduceReplicate, Nat.add_one_le_iff, -getElem?_pos, -getElem?_neg, bC, iC, intsC])
     | (with_reducible refine awp_if_b rfl (fun hc => ?_) (fun hc => ?_) <;> (try simp [-getElem?_pos, -getElem?_neg] at hc) <;> (try (exfalso; omega)))
     | ((with_reducible first | refine GuardK_b (fun hc => ?_) (fun hc => ?_) | refine DGuard_b _ _ _ _ _ _ _ _ _ _ (fun hc => ?_) (fun hc => ?_)) <;> (try simp only [Bool.not_eq_true', Bool.not_eq_false', decide_eq_true_eq, decide_eq_false_iff_not] at hc) <;> (first | (exfalso; omega) | skip) <;> simp [-List.reduceReplicate, Nat.add_one_le_iff, -getElem?_pos, -getElem?_neg, bC, iC, intsC, hc])
     | (with_reducible refine And.intro (by omega) ?_)
     | fail)
  | false =>
    obtain ⟨hl1, hl2⟩ := hno rfl
    by_cases hz : l.length = 0
    · rw [hz] at m1
      repeat' (first 
       | (with_reducible first | refine awp_scope ?_ | refine awp_seq ?_ | refine awp_block ?_)
       | ((with_reducible first | refine awp_label ?_ | refine awp_skip ?_ | refine awp_exit ?_ | refine hother _ _ rfl ?_); try simp only [thenA, inBlockA, noGotoA, if_true, Nat.reduceEqDiff, if_false, ↓reduceIte])
       | ((with_reducible first | refine awp_reg 122 hX [0, 1, 4, 5, 6, 7, 8, 9, 10, 11, 13, 15, 27, 41, 75, 106] ?_ | refine awp_drw (id := 8) 122 hX [0, 1, 4, 5, 6, 7, 8, 9, 10, 11, 13, 15, 27, 41, 75, 106] Tab.mixed (by kernel_rfl) ?_ | refine DEv_cut _ _ _ _ _ _ _ _ _ _ _ _ (by kernel_rfl) ?_ | change postOf _ _ _ _ _); simp [-List.reduceReplicate, Nat.add_one_le_iff, -getElem?_pos, -getElem?_neg, bC, iC, intsC, h9, hz])
       | ((first | (with_reducible refine awp_ret ?_; try simp only [thenA, inBlockA, noGotoA]) | (refine (m1 _).det ?_) | (refine ⟨_, _, m1 _, fun _ => rfl, ?_⟩) | (refine (aw _).det ?_) | (refine ⟨_, _, aw _, fun _ => rfl, ?_⟩)); try simp [-List.reduceReplicate, Nat.add_one_le_iff, -getElem?_pos, -getElem?_neg, bC, iC, intsC, h9, hz])
       | (with_reducible refine awp_if_b rfl (fun hc => ?_) (fun hc => ?_) <;> (try simp [-getElem?_pos, -getElem?_neg] at hc) <;> (try (exfalso; omega)))
       | ((with_reducible first | refine GuardK_b (fun hc => ?_) (fun hc => ?_) | refine DGuard_b _ _ _ _ _ _ _ _ _ _ (fun hc => ?_) (fun hc => ?_)) <;> (try simp only [Bool.not_eq_true', Bool.not_eq_false', decide_eq_true_eq, decide_eq_false_iff_not] at hc) <;> (first | (exfalso; omega) | skip) <;> simp [-List.reduceReplicate, Nat.add_one_le_iff, -getElem?_pos, -getElem?_neg, bC, iC, intsC, h9, hz, hc])
       | (with_reducible refine And.intro (by omega) ?_)
       | fail)
    obtain ⟨n, hn⟩ : ∃ n, l.length = n := ⟨_, rfl⟩
    rw [hn] at m1 hz hl1 ⊢
    have hln := hlm l
    rw [hn] at hln
    have hz2 : ¬ (n : Int) = 0 := by omega
    have hz3 : ¬ 0 = (n : Int) := by omega
    have n1 := newA_den n
    have n2 := newB_den n
    have hst : st2 n [] [] = [oddOb (.map []), stO n (.mm 0), oddOb (.map []), stO n (.mm 2)] := rfl
    rw [hst] at n2
    have hrm : n * 16 ≤ 140737488355328 := by omega
    repeat' (first 
     | (with_reducible first | refine awp_scope ?_ | refine awp_seq ?_ | refine awp_block ?_)
     | ((with_reducible first | refine awp_label ?_ | refine awp_skip ?_ | refine awp_exit ?_ | refine hother _ _ rfl ?_); try simp only [thenA, inBlockA, noGotoA, if_true, Nat.reduceEqDiff, if_false, ↓reduceIte])
     | ((with_reducible first | refine awp_reg 122 hX [0, 1, 4, 5, 6, 7, 8, 9, 10, 11, 13, 15, 27, 41, 75, 106] ?_ | refine awp_drw (id := 8) 122 hX [0, 1, 4, 5, 6, 7, 8, 9, 10, 11, 13, 15, 27, 41, 75, 106] Tab.mixed (by kernel_rfl) ?_ | refine DEv_cut _ _ _ _ _ _ _ _ _ _ _ _ (by kernel_rfl) ?_ | change postOf _ _ _ _ _); simp [-List.reduceReplicate, Nat.add_one_le_iff, -getElem?_pos, -getElem?_neg, bC, iC, intsC, h9, hz, hz2, hz3, roomB, hln, hrm])
     | ((first | (with_reducible refine awp_ret ?_; try simp only [thenA, inBlockA, noGotoA]) | (refine (m1 _).det ?_) | (refine ⟨_, _, m1 _, fun _ => rfl, ?_⟩) | (refine (aw _).det ?_) | (refine ⟨_, _, aw _, fun _ => rfl, ?_⟩) | (refine (n1).det ?_) | (refine ⟨_, _, n1, fun _ => rfl, ?_⟩) | (refine (n2).det ?_) | (refine ⟨_, _, n2, fun _ => rfl, ?_⟩)); try simp [-List.reduceReplicate, Nat.add_one_le_iff, -getElem?_pos, -getElem?_neg, bC, iC, intsC, h9, hz, hz2, hz3, roomB, hln, hrm])
     | (with_reducible refine awp_if_b rfl (fun hc => ?_) (fun hc => ?_) <;> (try simp [-getElem?_pos, -getElem?_neg] at hc) <;> (try (exfalso; omega)))
     | ((with_reducible first | refine GuardK_b (fun hc => ?_) (fun hc => ?_) | refine DGuard_b _ _ _ _ _ _ _ _ _ _ (fun hc => ?_) (fun hc => ?_)) <;> (try simp only [Bool.not_eq_true', Bool.not_eq_false', decide_eq_true_eq, decide_eq_false_iff_not] at hc) <;> (first | (exfalso; omega) | skip) <;> simp [-List.reduceReplicate, Nat.add_one_le_iff, -getElem?_pos, -getElem?_neg, bC, iC, intsC, h9, hz, hz2, hz3, roomB, hln, hrm, hc])
     | (with_reducible refine And.intro (by omega) ?_)
     | fail)
    refine awp_forU [0, 1, 5, 6, 7, 8] (fun j (m : List ByteArray) => [(8, .c (iC j))]) (fun j (m : List ByteArray) => [oddOb (.map []), stO n (.mm 0), oddOb (.map []), stO n (.mm 2), ⟨9, 1, false, 0, up (csL m), none⟩]) (fun j (m : List ByteArray) => m.Perm l) (sw.length) (l) (.refl _) (by simp [-List.reduceReplicate, keep, iC, oddOb]) (by simp [-List.reduceReplicate, iC, oddOb]) ?_
    rintro j m Q1 hi hH next hother
    conv => arg 5; arg 1; simp only [List.cons_append, List.nil_append, keep, get, Nat.reduceEqDiff, if_true, if_false, ↓reduceIte]
    have hwj := wrap_in ((j : Int) + 1) (by omega)
    have hml : m.length = n := by rw [hH.length_eq, hn]
    have hcm : (csL m).length = n := by rw [csL_len, hml]
    by_cases hjl : j < sw.length
    · obtain ⟨s, hs⟩ := getI sw (j : Nat) (by omega) (by omega)
      simp only [Int.toNat_natCast] at hs
      obtain ⟨b, hb, eb⟩ := mod_lt3 s n (by omega) (by omega)
      obtain ⟨a, ha, ea⟩ : ∃ a : Nat, a < n ∧ (j : Int).tmod (n : Int) = (a : Int) := ⟨j % n, Nat.mod_lt _ (by omega), by rw [Int.tmod_eq_emod_of_nonneg (by omega)]; simp⟩
      have wk := wrapU64 (n : Int) (by omega)
      obtain ⟨x, hx⟩ : ∃ x, m[a]? = some x := ⟨_, List.getElem?_eq_getElem (by omega)⟩
      obtain ⟨y, hy⟩ : ∃ y, m[b]? = some y := ⟨_, List.getElem?_eq_getElem (by omega)⟩
      have hx2 := csL_at m a x hx
      have hy2 := csL_at m b y hy
      have s1 : (up (csL m)).set a (M.c (.v (.string y))) = up (csL (m.set a y)) := by simp [up, csL, List.map_set]
      have s2 : (up (csL (m.set a y))).set b (M.c (.v (.string x))) = up (csL ((m.set a y).set b x)) := by simp [up, csL, List.map_set]
      have l1 : (csL (m.set a y)).length = n := by rw [csL_len, List.length_set, hml]
      have hperm : ((m.set a y).set b x).Perm l := by
        rw [← swp_set m a b (by omega) (by omega) x y hx hy]
        exact (Hp.swp_perm m (by omega) (by omega)).trans hH
      have hnext := fun fr' ob' => next fr' ob' ((m.set a y).set b x) hjl hperm
      repeat' (first 
       | (with_reducible first | refine awp_scope ?_ | refine awp_seq ?_ | refine awp_block ?_)
       | ((with_reducible first | refine awp_label ?_ | refine awp_skip ?_ | refine awp_exit ?_ | refine hother _ _ rfl ?_); try simp only [thenA, inBlockA, noGotoA, if_true, Nat.reduceEqDiff, if_false, ↓reduceIte])
       | ((with_reducible first | refine awp_reg 122 hX [0, 1, 4, 5, 6, 7, 8, 9, 10, 11, 13, 15, 27, 41, 75, 106] ?_ | refine awp_drw (id := 8) 122 hX [0, 1, 4, 5, 6, 7, 8, 9, 10, 11, 13, 15, 27, 41, 75, 106] Tab.mixed (by kernel_rfl) ?_ | refine DEv_cut _ _ _ _ _ _ _ _ _ _ _ _ (by kernel_rfl) ?_ | change postOf _ _ _ _ _); simp [-List.reduceReplicate, Nat.add_one_le_iff, -getElem?_pos, -getElem?_neg, iC, hjl, hs, hcm, hz, eb, ea, wk])
       | ((first | (with_reducible refine awp_ret ?_; try simp only [thenA, inBlockA, noGotoA])); try simp [-List.reduceReplicate, Nat.add_one_le_iff, -getElem?_pos, -getElem?_neg, iC, hjl, hs, hcm, hz, eb, ea, wk])
       | (with_reducible refine awp_if_b rfl (fun hc => ?_) (fun hc => ?_) <;> (try simp [-getElem?_pos, -getElem?_neg] at hc) <;> (try (exfalso; omega)))
       | ((with_reducible first | refine GuardK_b (fun hc => ?_) (fun hc => ?_) | refine DGuard_b _ _ _ _ _ _ _ _ _ _ (fun hc => ?_) (fun hc => ?_)) <;> (try simp only [Bool.not_eq_true', Bool.not_eq_false', decide_eq_true_eq, decide_eq_false_iff_not] at hc) <;> (first | (exfalso; omega) | skip) <;> simp [-List.reduceReplicate, Nat.add_one_le_iff, -getElem?_pos, -getElem?_neg, iC, hjl, hs, hcm, hz, eb, ea, wk, hc])
       | (with_reducible refine And.intro (by omega) ?_)
       | fail)
      clear next
      generalize csL ((m.set a y).set b x) = cs2 at *
      generalize csL (m.set a y) = cs1 at *
      generalize csL m = cs0 at *
      have g1 : ∀ h : a < (up cs0).length, (up cs0)[a] = M.c (.v (.string x)) := fun h => by have := List.getElem?_eq_getElem h; rw [show (up cs0)[a]? = some (M.c (.v (.string x))) by simp [up, hx2]] at this; exact (Option.some.inj this).symm
      have g2 : ∀ h : b < (up cs0).length, (up cs0)[b] = M.c (.v (.string y)) := fun h => by have := List.getElem?_eq_getElem h; rw [show (up cs0)[b]? = some (M.c (.v (.string y))) by simp [up, hy2]] at this; exact (Option.some.inj this).symm
      have a1 : a + 1 ≤ n := ha
      have b1 : b + 1 ≤ n := hb
      refine awp_drawS (id := 9) 122 hX [0, 1, 4, 5, 6, 7, 8, 9, 10, 11, 13, 15, 27, 41, 75, 106] Tab.mixed (by kernel_rfl) [.ms 4 0 0 n, .c (iC a), .ms 4 0 0 n, .c (iC b), .ms 4 0 0 n, .c (iC b), .mp 4 0 b, .c (.v (.string y)), .ms 4 0 0 n, .c (iC a), .mp 4 0 a, .c (.v (.string x)), .mp 4 0 a, .junk, .mp 4 0 b, .junk] (fun p => [oddOb (.map []), stO n (.mm 0), oddOb (.map []), stO n (.mm 2), ⟨9, 1, false, 0, up (if p 15 then cs2 else if p 13 then cs1 else cs0), none⟩]) (by simp [iC, ha, hb, hx2, hy2, s1, s2, l1, hcm, g1, g2, a1, b1, stO, oddOb]) (fun p q hpq => ?_) ?_ ?_
      · simp only [hpq 13 (by decide), hpq 15 (by decide)]
      · intro i o p hl hp hcl hno
        match i, hl with
        | 0, hl =>
          obtain rfl := Option.some.inj hl
          have c13 : p 13 = false := by cases h : p 13 with | false => rfl | true => exact absurd (List.contains_iff_mem.1 (by kernel_rfl)) (hno 13 _ rfl h)
          have c15 : p 15 = false := by cases h : p 15 with | false => rfl | true => exact absurd (List.contains_iff_mem.1 (by kernel_rfl)) (hno 15 _ rfl h)
          all_goals refine ⟨_, rfl, ?_⟩
          all_goals simp [StepS, frP, -exists_and_left, hp, c13, c15, iC, ha, hb, hx2, hy2, s1, s2, l1, hcm, g1, g2, a1, b1, stO, oddOb]
        | 1, hl =>
          obtain rfl := Option.some.inj hl
          have c13 : p 13 = false := by cases h : p 13 with | false => rfl | true => exact absurd (List.contains_iff_mem.1 (by kernel_rfl)) (hno 13 _ rfl h)
          have c15 : p 15 = false := by cases h : p 15 with | false => rfl | true => exact absurd (List.contains_iff_mem.1 (by kernel_rfl)) (hno 15 _ rfl h)
          all_goals refine ⟨_, rfl, ?_⟩
          all_goals simp [StepS, frP, -exists_and_left, hp, c13, c15, iC, ha, hb, hx2, hy2, s1, s2, l1, hcm, g1, g2, a1, b1, stO, oddOb]
        | 2, hl =>
          obtain rfl := Option.some.inj hl
          have c15 : p 15 = false := by cases h : p 15 with | false => rfl | true => exact absurd (List.contains_iff_mem.1 (by kernel_rfl)) (hno 15 _ rfl h)
          all_goals rcases Bool.eq_false_or_eq_true (p 13) with c13 | c13
          all_goals refine ⟨_, rfl, ?_⟩
          all_goals simp [StepS, frP, -exists_and_left, hp, c15, c13, iC, ha, hb, hx2, hy2, s1, s2, l1, hcm, g1, g2, a1, b1, stO, oddOb]
        | 3, hl =>
          obtain rfl := Option.some.inj hl
          have c15 : p 15 = false := by cases h : p 15 with | false => rfl | true => exact absurd (List.contains_iff_mem.1 (by kernel_rfl)) (hno 15 _ rfl h)
          all_goals rcases Bool.eq_false_or_eq_true (p 13) with c13 | c13
          all_goals refine ⟨_, rfl, ?_⟩
          all_goals simp [StepS, frP, -exists_and_left, hp, c15, c13, iC, ha, hb, hx2, hy2, s1, s2, l1, hcm, g1, g2, a1, b1, stO, oddOb]
        | 4, hl =>
          obtain rfl := Option.some.inj hl
          have c13 : p 13 = false := by cases h : p 13 with | false => rfl | true => exact absurd (List.contains_iff_mem.1 (by kernel_rfl)) (hno 13 _ rfl h)
          have c15 : p 15 = false := by cases h : p 15 with | false => rfl | true => exact absurd (List.contains_iff_mem.1 (by kernel_rfl)) (hno 15 _ rfl h)
          all_goals refine ⟨_, rfl, ?_⟩
          all_goals simp [StepS, frP, -exists_and_left, hp, c13, c15, iC, ha, hb, hx2, hy2, s1, s2, l1, hcm, g1, g2, a1, b1, stO, oddOb]
        | 5, hl =>
          obtain rfl := Option.some.inj hl
          have c13 : p 13 = false := by cases h : p 13 with | false => rfl | true => exact absurd (List.contains_iff_mem.1 (by kernel_rfl)) (hno 13 _ rfl h)
          have c15 : p 15 = false := by cases h : p 15 with | false => rfl | true => exact absurd (List.contains_iff_mem.1 (by kernel_rfl)) (hno 15 _ rfl h)
          all_goals refine ⟨_, rfl, ?_⟩
          all_goals simp [StepS, frP, -exists_and_left, hp, c13, c15, iC, ha, hb, hx2, hy2, s1, s2, l1, hcm, g1, g2, a1, b1, stO, oddOb]
        | 6, hl =>
          obtain rfl := Option.some.inj hl
          have c13 : p 13 = false := by cases h : p 13 with | false => rfl | true => exact absurd (List.contains_iff_mem.1 (by kernel_rfl)) (hno 13 _ rfl h)
          have c15 : p 15 = false := by cases h : p 15 with | false => rfl | true => exact absurd (List.contains_iff_mem.1 (by kernel_rfl)) (hno 15 _ rfl h)
          all_goals refine ⟨_, rfl, ?_⟩
          all_goals simp [StepS, frP, -exists_and_left, hp, c13, c15, iC, ha, hb, hx2, hy2, s1, s2, l1, hcm, g1, g2, a1, b1, stO, oddOb]
        | 7, hl =>
          obtain rfl := Option.some.inj hl
          have c13 : p 13 = false := by cases h : p 13 with | false => rfl | true => exact absurd (List.contains_iff_mem.1 (by kernel_rfl)) (hno 13 _ rfl h)
          have c15 : p 15 = false := by cases h : p 15 with | false => rfl | true => exact absurd (List.contains_iff_mem.1 (by kernel_rfl)) (hno 15 _ rfl h)
          all_goals refine ⟨_, rfl, ?_⟩
          all_goals simp [StepS, frP, -exists_and_left, hp, c13, c15, iC, ha, hb, hx2, hy2, s1, s2, l1, hcm, g1, g2, a1, b1, stO, oddOb]
        | 8, hl =>
          obtain rfl := Option.some.inj hl
          have c13 : p 13 = false := by cases h : p 13 with | false => rfl | true => exact absurd (List.contains_iff_mem.1 (by kernel_rfl)) (hno 13 _ rfl h)
          have c15 : p 15 = false := by cases h : p 15 with | false => rfl | true => exact absurd (List.contains_iff_mem.1 (by kernel_rfl)) (hno 15 _ rfl h)
          all_goals refine ⟨_, rfl, ?_⟩
          all_goals simp [StepS, frP, -exists_and_left, hp, c13, c15, iC, ha, hb, hx2, hy2, s1, s2, l1, hcm, g1, g2, a1, b1, stO, oddOb]
        | 9, hl =>
          obtain rfl := Option.some.inj hl
          have c13 : p 13 = false := by cases h : p 13 with | false => rfl | true => exact absurd (List.contains_iff_mem.1 (by kernel_rfl)) (hno 13 _ rfl h)
          have c15 : p 15 = false := by cases h : p 15 with | false => rfl | true => exact absurd (List.contains_iff_mem.1 (by kernel_rfl)) (hno 15 _ rfl h)
          all_goals refine ⟨_, rfl, ?_⟩
          all_goals simp [StepS, frP, -exists_and_left, hp, c13, c15, iC, ha, hb, hx2, hy2, s1, s2, l1, hcm, g1, g2, a1, b1, stO, oddOb]
        | 10, hl =>
          obtain rfl := Option.some.inj hl
          have c13 : p 13 = false := by cases h : p 13 with | false => rfl | true => exact absurd (List.contains_iff_mem.1 (by kernel_rfl)) (hno 13 _ rfl h)
          have c15 : p 15 = false := by cases h : p 15 with | false => rfl | true => exact absurd (List.contains_iff_mem.1 (by kernel_rfl)) (hno 15 _ rfl h)
          all_goals refine ⟨_, rfl, ?_⟩
          all_goals simp [StepS, frP, -exists_and_left, hp, c13, c15, iC, ha, hb, hx2, hy2, s1, s2, l1, hcm, g1, g2, a1, b1, stO, oddOb]
        | 11, hl =>
          obtain rfl := Option.some.inj hl
          have c13 : p 13 = false := by cases h : p 13 with | false => rfl | true => exact absurd (List.contains_iff_mem.1 (by kernel_rfl)) (hno 13 _ rfl h)
          have c15 : p 15 = false := by cases h : p 15 with | false => rfl | true => exact absurd (List.contains_iff_mem.1 (by kernel_rfl)) (hno 15 _ rfl h)
          all_goals refine ⟨_, rfl, ?_⟩
          all_goals simp [StepS, frP, -exists_and_left, hp, c13, c15, iC, ha, hb, hx2, hy2, s1, s2, l1, hcm, g1, g2, a1, b1, stO, oddOb]
        | 12, hl =>
          obtain rfl := Option.some.inj hl
          have c13 : p 13 = false := by cases h : p 13 with | false => rfl | true => exact absurd (List.contains_iff_mem.1 (by kernel_rfl)) (hno 13 _ rfl h)
          have c15 : p 15 = false := by cases h : p 15 with | false => rfl | true => exact absurd (List.contains_iff_mem.1 (by kernel_rfl)) (hno 15 _ rfl h)
          all_goals refine ⟨_, rfl, ?_⟩
          all_goals simp [StepS, frP, -exists_and_left, hp, c13, c15, iC, ha, hb, hx2, hy2, s1, s2, l1, hcm, g1, g2, a1, b1, stO, oddOb]
        | 13, hl =>
          obtain rfl := Option.some.inj hl
          have c15 : p 15 = false := by cases h : p 15 with | false => rfl | true => exact absurd (List.contains_iff_mem.1 (by kernel_rfl)) (hno 15 _ rfl h)
          all_goals refine ⟨_, rfl, ?_⟩
          all_goals simp [StepS, frP, -exists_and_left, hp, c15, iC, ha, hb, hx2, hy2, s1, s2, l1, hcm, g1, g2, a1, b1, stO, oddOb]
        | 14, hl =>
          obtain rfl := Option.some.inj hl
          have c13 : p 13 = true := hcl 13 (List.contains_iff_mem.1 (by kernel_rfl))
          have c15 : p 15 = false := by cases h : p 15 with | false => rfl | true => exact absurd (List.contains_iff_mem.1 (by kernel_rfl)) (hno 15 _ rfl h)
          all_goals refine ⟨_, rfl, ?_⟩
          all_goals simp [StepS, frP, -exists_and_left, hp, c13, c15, iC, ha, hb, hx2, hy2, s1, s2, l1, hcm, g1, g2, a1, b1, stO, oddOb]
        | 15, hl =>
          obtain rfl := Option.some.inj hl
          have c13 : p 13 = true := hcl 13 (List.contains_iff_mem.1 (by kernel_rfl))
          all_goals refine ⟨_, rfl, ?_⟩
          all_goals simp [StepS, frP, -exists_and_left, hp, c13, iC, ha, hb, hx2, hy2, s1, s2, l1, hcm, g1, g2, a1, b1, stO, oddOb]
        | n + 16, hl => simp at hl
      simp [frP, iC, ha, hb, hx2, hy2, s1, s2, l1, hcm, g1, g2, a1, b1, stO, oddOb]
      repeat' (first 
       | (with_reducible first | refine awp_scope ?_ | refine awp_seq ?_ | refine awp_block ?_)
       | ((with_reducible first | refine awp_label ?_ | refine awp_skip ?_ | refine awp_exit ?_ | refine hother _ _ rfl ?_); try simp only [thenA, inBlockA, noGotoA, if_true, Nat.reduceEqDiff, if_false, ↓reduceIte])
       | ((with_reducible first | refine awp_reg 122 hX [0, 1, 4, 5, 6, 7, 8, 9, 10, 11, 13, 15, 27, 41, 75, 106] ?_ | refine awp_drw (id := 8) 122 hX [0, 1, 4, 5, 6, 7, 8, 9, 10, 11, 13, 15, 27, 41, 75, 106] Tab.mixed (by kernel_rfl) ?_ | refine DEv_cut _ _ _ _ _ _ _ _ _ _ _ _ (by kernel_rfl) ?_ | change postOf _ _ _ _ _); simp [-List.reduceReplicate, Nat.add_one_le_iff, -getElem?_pos, -getElem?_neg, iC, hwj])
       | ((first | (with_reducible refine awp_ret ?_; try simp only [thenA, inBlockA, noGotoA])); try simp [-List.reduceReplicate, Nat.add_one_le_iff, -getElem?_pos, -getElem?_neg, iC, hwj])
       | (with_reducible refine awp_if_b rfl (fun hc => ?_) (fun hc => ?_) <;> (try simp [-getElem?_pos, -getElem?_neg] at hc) <;> (try (exfalso; omega)))
       | ((with_reducible first | refine GuardK_b (fun hc => ?_) (fun hc => ?_) | refine DGuard_b _ _ _ _ _ _ _ _ _ _ (fun hc => ?_) (fun hc => ?_)) <;> (try simp only [Bool.not_eq_true', Bool.not_eq_false', decide_eq_true_eq, decide_eq_false_iff_not] at hc) <;> (first | (exfalso; omega) | skip) <;> simp [-List.reduceReplicate, Nat.add_one_le_iff, -getElem?_pos, -getElem?_neg, iC, hwj, hc])
       | (with_reducible refine And.intro (by omega) ?_)
       | fail)
      exact hnext _ _ (by simp [keep, iC]) (by simp [oddOb, stO, iC])
    · have hj2 : j = sw.length := by omega
      have hexit := hother; clear next hother
      repeat' (first 
       | (with_reducible first | refine awp_scope ?_ | refine awp_seq ?_ | refine awp_block ?_)
       | ((with_reducible first | refine awp_label ?_ | refine awp_skip ?_ | refine awp_exit ?_ | refine hother _ _ rfl ?_); try simp only [thenA, inBlockA, noGotoA, if_true, Nat.reduceEqDiff, if_false, ↓reduceIte])
       | ((with_reducible first | refine awp_reg 122 hX [0, 1, 4, 5, 6, 7, 8, 9, 10, 11, 13, 15, 27, 41, 75, 106] ?_ | refine awp_drw (id := 8) 122 hX [0, 1, 4, 5, 6, 7, 8, 9, 10, 11, 13, 15, 27, 41, 75, 106] Tab.mixed (by kernel_rfl) ?_ | refine DEv_cut _ _ _ _ _ _ _ _ _ _ _ _ (by kernel_rfl) ?_ | change postOf _ _ _ _ _); simp [-List.reduceReplicate, Nat.add_one_le_iff, -getElem?_pos, -getElem?_neg, iC, hjl])
       | ((first | (with_reducible refine awp_ret ?_; try simp only [thenA, inBlockA, noGotoA])); try simp [-List.reduceReplicate, Nat.add_one_le_iff, -getElem?_pos, -getElem?_neg, iC, hjl])
       | (with_reducible refine awp_if_b rfl (fun hc => ?_) (fun hc => ?_) <;> (try simp [-getElem?_pos, -getElem?_neg] at hc) <;> (try (exfalso; omega)))
       | ((with_reducible first | refine GuardK_b (fun hc => ?_) (fun hc => ?_) | refine DGuard_b _ _ _ _ _ _ _ _ _ _ (fun hc => ?_) (fun hc => ?_)) <;> (try simp only [Bool.not_eq_true', Bool.not_eq_false', decide_eq_true_eq, decide_eq_false_iff_not] at hc) <;> (first | (exfalso; omega) | skip) <;> simp [-List.reduceReplicate, Nat.add_one_le_iff, -getElem?_pos, -getElem?_neg, iC, hjl, hc])
       | (with_reducible refine And.intro (by omega) ?_)
       | fail)
      refine hexit _ _ rfl ?_
      simp only [inBlockA, thenA, ↓reduceIte]
      clear hexit
      refine awp_frz2 7 [] [oddOb (.map []), stO n (.mm 0), oddOb (.map []), stO n (.mm 2)] [] ⟨9, 1, false, 0, up (csL m), none⟩ (csL m) n hO rfl rfl rfl (by simp [ltB]) rfl ?_
      refine awp_keep [0, 5, 6, 7] ?_
      simp
      repeat' (first 
       | (with_reducible first | refine awp_scope ?_ | refine awp_seq ?_ | refine awp_block ?_)
       | ((with_reducible first | refine awp_label ?_ | refine awp_skip ?_ | refine awp_exit ?_ | refine hother _ _ rfl ?_); try simp only [thenA, inBlockA, noGotoA, if_true, Nat.reduceEqDiff, if_false, ↓reduceIte])
       | ((with_reducible first | refine awp_reg 122 hX [0, 1, 4, 5, 6, 7, 8, 9, 10, 11, 13, 15, 27, 41, 75, 106] ?_ | refine awp_drw (id := 8) 122 hX [0, 1, 4, 5, 6, 7, 8, 9, 10, 11, 13, 15, 27, 41, 75, 106] Tab.mixed (by kernel_rfl) ?_ | refine DEv_cut _ _ _ _ _ _ _ _ _ _ _ _ (by kernel_rfl) ?_ | change postOf _ _ _ _ _); simp [-List.reduceReplicate, Nat.add_one_le_iff, -getElem?_pos, -getElem?_neg, iC])
       | ((first | (with_reducible refine awp_ret ?_; try simp only [thenA, inBlockA, noGotoA])); try simp [-List.reduceReplicate, Nat.add_one_le_iff, -getElem?_pos, -getElem?_neg, iC])
       | (with_reducible refine awp_if_b rfl (fun hc => ?_) (fun hc => ?_) <;> (try simp [-getElem?_pos, -getElem?_neg] at hc) <;> (try (exfalso; omega)))
       | ((with_reducible first | refine GuardK_b (fun hc => ?_) (fun hc => ?_) | refine DGuard_b _ _ _ _ _ _ _ _ _ _ (fun hc => ?_) (fun hc => ?_)) <;> (try simp only [Bool.not_eq_true', Bool.not_eq_false', decide_eq_true_eq, decide_eq_false_iff_not] at hc) <;> (first | (exfalso; omega) | skip) <;> simp [-List.reduceReplicate, Nat.add_one_le_iff, -getElem?_pos, -getElem?_neg, iC, hc])
       | (with_reducible refine And.intro (by omega) ?_)
       | fail)
      refine awp_forU [0, 5, 6, 7, 11] (fun i (d : List ByteArray × List ByteArray) => [(11, .c (iC i))]) (fun i (d : List ByteArray × List ByteArray) => st2 n d.1 d.2) (fun i (d : List ByteArray × List ByteArray) => d.1.Nodup ∧ d.2.Nodup ∧ d.1.length ≤ i ∧ d.2.length ≤ i ∧ (∀ x, x ∈ d.1 ↔ x ∈ l.take i) ∧ (∀ x, x ∈ d.2 ↔ x ∈ m.take i)) (n) (([], [])) (by simp) (by simp [-List.reduceReplicate, keep, iC, hst, oddOb]) (by simp [-List.reduceReplicate, iC, hst, oddOb]) ?_
      rintro i d Q1 hi hH next hother
      conv => arg 5; arg 1; simp only [List.cons_append, List.nil_append, keep, get, Nat.reduceEqDiff, if_true, if_false, ↓reduceIte]
      have hwi := wrap_in ((i : Int) + 1) (by omega)
      obtain ⟨da, db⟩ := d
      obtain ⟨i1, i2, i3, i4, i5, i6⟩ := hH
      simp only at i1 i2 i3 i4 i5 i6
      by_cases hlt : i < n
      · obtain ⟨s, hs⟩ : ∃ s, l[i]? = some s := ⟨_, List.getElem?_eq_getElem (by omega)⟩
        obtain ⟨t, ht⟩ : ∃ s, m[i]? = some s := ⟨_, List.getElem?_eq_getElem (by omega)⟩
        obtain ⟨u, hu⟩ : ∃ s, m[0]? = some s := ⟨_, List.getElem?_eq_getElem (by omega)⟩
        have gs := csL_at l i s hs
        have gt := csL_at m i t ht
        have gu := csL_at m 0 u hu
        have z1 := hl2 s (List.mem_of_getElem? hs)
        have z2 := hl2 t (hH.mem_iff.1 (List.mem_of_getElem? ht))
        have hui : u ∈ insD db t := by
          rw [insD_mem, i6]
          rcases Nat.eq_zero_or_pos i with h0 | h0
          · subst h0; rw [hu] at ht; exact .inr (Option.some.inj ht)
          · left
            refine List.mem_of_getElem? (i := 0) ?_
            rw [List.getElem?_take_of_lt h0]; exact hu
        have c1 := addA_den n da db s (by omega) (by omega)
        have c2 := addB_den n (insD da s) db t (by omega) (by omega)
        have c3 : Den Try.prog 10 [.mp 3 0 0, .c (sC u)] (st2 n (insD da s) (insD db t)) (fun r ob' => r = .tup [.c (bC false), .c (iC 0)] ∧ ob' = st2 n (insD da s) (insD db t)) := add_in 3 2 n (insD db t) u _ rfl rfl hui
        have nx : (insD da s).Nodup ∧ (insD db t).Nodup ∧ (insD da s).length ≤ i + 1 ∧ (insD db t).length ≤ i + 1 ∧ (∀ x, x ∈ insD da s ↔ x ∈ l.take (i + 1)) ∧ (∀ x, x ∈ insD db t ↔ x ∈ m.take (i + 1)) := by
          refine ⟨insD_nodup _ _ i1, insD_nodup _ _ i2, Nat.le_trans (insD_len _ _) (by omega), Nat.le_trans (insD_len _ _) (by omega), fun x => ?_, fun x => ?_⟩
          · rw [insD_mem, i5, List.take_add_one, hs]; simp
          · rw [insD_mem, i6, List.take_add_one, ht]; simp
        generalize insD da s = da2 at *
        generalize insD db t = db2 at *
        repeat' (first 
         | (with_reducible first | refine awp_scope ?_ | refine awp_seq ?_ | refine awp_block ?_)
         | ((with_reducible first | refine awp_label ?_ | refine awp_skip ?_ | refine awp_exit ?_ | refine hother _ _ rfl ?_); try simp only [thenA, inBlockA, noGotoA, if_true, Nat.reduceEqDiff, if_false, ↓reduceIte])
         | ((with_reducible first | refine awp_reg 122 hX [0, 1, 4, 5, 6, 7, 8, 9, 10, 11, 13, 15, 27, 41, 75, 106] ?_ | refine awp_drw (id := 8) 122 hX [0, 1, 4, 5, 6, 7, 8, 9, 10, 11, 13, 15, 27, 41, 75, 106] Tab.mixed (by kernel_rfl) ?_ | refine DEv_cut _ _ _ _ _ _ _ _ _ _ _ _ (by kernel_rfl) ?_ | change postOf _ _ _ _ _); simp [-List.reduceReplicate, Nat.add_one_le_iff, -getElem?_pos, -getElem?_neg, bC, iC, sC, hlt, hwi, gs, gt, gu, hln, hcm, hz])
         | ((first | (with_reducible refine awp_ret ?_; try simp only [thenA, inBlockA, noGotoA]) | (refine (c1).mono ?_; rintro _ _ ⟨b1, rfl, rfl⟩) | (refine ⟨_, _, c1, fun _ => rfl, ?_⟩) | (refine (c2).mono ?_; rintro _ _ ⟨b2, rfl, rfl⟩) | (refine ⟨_, _, c2, fun _ => rfl, ?_⟩) | (refine (c3).det ?_) | (refine ⟨_, _, c3, fun _ => rfl, ?_⟩)); try simp [-List.reduceReplicate, Nat.add_one_le_iff, -getElem?_pos, -getElem?_neg, bC, iC, sC, hlt, hwi, gs, gt, gu, hln, hcm, hz])
         | (with_reducible refine awp_if_b rfl (fun hc => ?_) (fun hc => ?_) <;> (try simp [-getElem?_pos, -getElem?_neg] at hc) <;> (try (exfalso; omega)))
         | ((with_reducible first | refine GuardK_b (fun hc => ?_) (fun hc => ?_) | refine DGuard_b _ _ _ _ _ _ _ _ _ _ (fun hc => ?_) (fun hc => ?_)) <;> (try simp only [Bool.not_eq_true', Bool.not_eq_false', decide_eq_true_eq, decide_eq_false_iff_not] at hc) <;> (first | (exfalso; omega) | skip) <;> simp [-List.reduceReplicate, Nat.add_one_le_iff, -getElem?_pos, -getElem?_neg, bC, iC, sC, hlt, hwi, gs, gt, gu, hln, hcm, hz, hc])
         | (with_reducible refine And.intro (by omega) ?_)
         | fail)
        refine next _ _ ((da2, db2)) (by omega) (by first | trivial | omega | assumption) (by simp [-List.reduceReplicate, keep, iC]) (by simp [-List.reduceReplicate, iC])
      · have hi2 : i = n := by omega
        subst hi2
        have hpd : da.Perm db := by
          refine (List.perm_ext_iff_of_nodup i1 i2).2 fun x => ?_
          rw [i5, i6, ← hn, List.take_length, hn, ← hml, List.take_length]
          exact (hH.mem_iff).symm
        have c1 := all_den 1 0 i da (st2 i da db) rfl rfl (okSt2 _ _ _) (by omega)
        have c2 := all_den 3 2 i db (st2 i da db) rfl rfl (okSt2 _ _ _) (by omega)
        have c3 := same90_den da db (by omega) (sortB_perm hpd) (st2 i da db)
        have c4 := lenA_den i da db
        have c5 := lenB_den i da db
        have hle := hpd.length_eq
        rw [hle] at c1 c3 c4
        repeat' (first 
         | (with_reducible first | refine awp_scope ?_ | refine awp_seq ?_ | refine awp_block ?_)
         | ((with_reducible first | refine awp_label ?_ | refine awp_skip ?_ | refine awp_exit ?_ | refine hother _ _ rfl ?_); try simp only [thenA, inBlockA, noGotoA, if_true, Nat.reduceEqDiff, if_false, ↓reduceIte])
         | ((with_reducible first | refine awp_reg 122 hX [0, 1, 4, 5, 6, 7, 8, 9, 10, 11, 13, 15, 27, 41, 75, 106] ?_ | refine awp_drw (id := 8) 122 hX [0, 1, 4, 5, 6, 7, 8, 9, 10, 11, 13, 15, 27, 41, 75, 106] Tab.mixed (by kernel_rfl) ?_ | refine DEv_cut _ _ _ _ _ _ _ _ _ _ _ _ (by kernel_rfl) ?_ | change postOf _ _ _ _ _); simp [-List.reduceReplicate, Nat.add_one_le_iff, -getElem?_pos, -getElem?_neg, bC, iC, hlt])
         | ((first | (with_reducible refine awp_ret ?_; try simp only [thenA, inBlockA, noGotoA]) | (refine (c1).det ?_) | (refine ⟨_, _, c1, fun _ => rfl, ?_⟩) | (refine (c2).det ?_) | (refine ⟨_, _, c2, fun _ => rfl, ?_⟩) | (refine (c3).det ?_) | (refine ⟨_, _, c3, fun _ => rfl, ?_⟩) | (refine (c4).det ?_) | (refine ⟨_, _, c4, fun _ => rfl, ?_⟩) | (refine (c5).det ?_) | (refine ⟨_, _, c5, fun _ => rfl, ?_⟩) | (refine (aw _).det ?_) | (refine ⟨_, _, aw _, fun _ => rfl, ?_⟩)); try simp [-List.reduceReplicate, Nat.add_one_le_iff, -getElem?_pos, -getElem?_neg, bC, iC, hlt])
         | (with_reducible refine awp_if_b rfl (fun hc => ?_) (fun hc => ?_) <;> (try simp [-getElem?_pos, -getElem?_neg] at hc) <;> (try (exfalso; omega)))
         | ((with_reducible first | refine GuardK_b (fun hc => ?_) (fun hc => ?_) | refine DGuard_b _ _ _ _ _ _ _ _ _ _ (fun hc => ?_) (fun hc => ?_)) <;> (try simp only [Bool.not_eq_true', Bool.not_eq_false', decide_eq_true_eq, decide_eq_false_iff_not] at hc) <;> (first | (exfalso; omega) | skip) <;> simp [-List.reduceReplicate, Nat.add_one_le_iff, -getElem?_pos, -getElem?_neg, bC, iC, hlt, hc])
         | (with_reducible refine And.intro (by omega) ?_)
         | fail)
end Go.Av
