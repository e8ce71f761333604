import Derived.Test.YtofomnllcmgfeaaAvT46
set_option linter.unusedVariables false
set_option linter.unusedSimpArgs false
set_option maxRecDepth 100000
set_option maxHeartbeats 4000000
namespace Go.Av
open Go Go.Proofs Go.Proofs.Ytofomnllcmgfeaa Go.RowKit
/-! ### cup.Order -/
open Go.Hp
def runOf (keys : List ByteArray) (v : List (List Int)) (i : Nat) : Run := ⟨i, winsTo v i v.length, keyN keys i⟩
def runs (keys : List ByteArray) (v : List (List Int)) (m : Nat) : List Run := (List.range m).map (runOf keys v)
theorem runs_succ (keys : List ByteArray) (v : List (List Int)) (m : Nat) : runs keys v (m + 1) = runs keys v m ++ [runOf keys v m] := by simp [runs, List.range_succ]
def ordR (keys : List ByteArray) (v : List (List Int)) : List Run := (runs keys v (min keys.length v.length)).mergeSort fun a b => !rlt b a
theorem ordR_ok (keys : List ByteArray) (v : List (List Int)) : (ordR keys v).Perm (runs keys v (min keys.length v.length)) ∧ (ordR keys v).Pairwise fun a b => rlt b a = false := by
  refine ⟨List.mergeSort_perm _ _, ?_⟩
  have := List.pairwise_mergeSort (le := fun a b => !rlt b a) (fun a b c h1 h2 => by
    simp only [Bool.not_eq_true'] at *
    exact rlt_ord.tr a b c h1 h2) (fun a b => by
    rcases rlt_ord.tot a b with h | h <;> simp [h]) (runs keys v (min keys.length v.length))
  exact this.imp fun h => by simpa using h
def ordI (keys : List ByteArray) (v : List (List Int)) : List Int := (ordR keys v).map (·.at_)
def hpTo (keys : List ByteArray) (v : List (List Int)) : Nat → List Run
  | 0 => []
  | i + 1 => pushL rlt (hpTo keys v i) (runOf keys v i)
theorem hpTo_ok (keys : List ByteArray) (v : List (List Int)) : ∀ m, Heap rlt (hpTo keys v m) m ∧ (hpTo keys v m).Perm (runs keys v m) ∧ (hpTo keys v m).length = m := by
  intro m
  induction m with
  | zero => exact ⟨fun i h0 h => by omega, by simp [hpTo, runs], rfl⟩
  | succ m ih =>
    obtain ⟨h1, h2, h3⟩ := ih
    have hh : Heap rlt (hpTo keys v m) (hpTo keys v m).length := by rw [h3]; exact h1
    obtain ⟨k1, k2, k3⟩ := pushL_ok rlt_ord (x := runOf keys v m) hh
    rw [h3] at k1 k3
    refine ⟨k1, ?_, k3⟩
    rw [runs_succ]
    exact k2.trans (h2.append (.refl _))
def heapO (keys : List ByteArray) (v : List (List Int)) (i : Nat) : List Ob := if i = 0 then [boxE] else [boxO i (i - 1), garO (runOf keys v 0), rowO (hpTo keys v i) (i - 1)]
theorem gar_ok (r : Run) (n : Nat) : (garO r).cs.all (ltB n) = true := up_all _ _
theorem row_ok (l : List Run) (g n : Nat) : (rowO l g).cs.all (ltB n) = true := up_all _ _
theorem hpushAt_den (keys : List ByteArray) (v : List (List Int)) (i : Nat) (hi : i ≤ 100000) : Den Try.prog 61 [hM, .c (.ifc 97 true (runrC (runOf keys v i)))] (heapO keys v i) (fun r ob' => r = .tup [] ∧ ob' = heapO keys v (i + 1)) := by
  by_cases h0 : i = 0
  · subst h0
    exact hpush0_den _
  · have hl := (hpTo_ok keys v i).2.2
    have := hpush_den (garO (runOf keys v 0)) (gar_ok _ _) (hpTo keys v i) (i - 1) (runOf keys v i) (by omega)
    rw [hl, show i - 1 + 1 = i by omega] at this
    unfold heapO
    rw [if_neg h0, if_neg (by omega)]
    exact this
set_option maxHeartbeats 8000000 in
theorem order_den (keys : List ByteArray) (v : List (List Int)) (hk : keys.length ≤ 100000) (hv : v.length ≤ 100000) : DenV Try.prog 31 [.c (strsC keys), .c (rowsC v)] (.c (intsC (ordI keys v))) := by
  refine Den.frame rfl rfl ?_
  have p1 := cupWins_den v [] (by omega)
  have hw := winsAll_len v v.length
  have hwg := fun i (h : i < v.length) => winsAll_get v v.length i h
  have hp0 : heapO keys v 0 = [boxE] := rfl
  obtain ⟨m, hm⟩ : ∃ m, m = min keys.length v.length := ⟨_, rfl⟩
  have hm2 : IntKind.i64.wrap 0 = 0 := rfl
  refine den_of Try.func31 rfl rfl (by simp [Try.ntmps31]) (fun X hX hO => ?_)
  rw [Try.ntmps31] at hX
  simp only [Try.results31]
  have hmin : (if v.length < keys.length then (v.length : Int) else (keys.length : Int)) = (m : Int) := by split <;> omega
  repeat' (first 
   | (with_reducible first | refine awp_scope ?_ | refine awp_seq ?_ | refine awp_block ?_)
   | ((with_reducible first | refine awp_label ?_ | refine awp_skip ?_); try simp only [thenA, inBlockA, noGotoA])
   | (with_reducible refine awp_exit ?_; simp only [thenA, inBlockA, noGotoA, if_true, Nat.reduceEqDiff, if_false, ↓reduceIte])
   | (with_reducible refine awp_ret ?_; (try simp only [thenA, inBlockA, noGotoA]); (try simp [-List.reduceReplicate, Nat.add_one_le_iff, -getElem?_pos, -getElem?_neg, List.getElem?_cons_zero, List.getElem?_cons_succ, strsC, intsC, hw, hmin]))
   | ((with_reducible first | refine awp_reg 57 hX [0, 1, 4, 5, 6, 7, 8, 9, 10, 19, 20, 21, 42, 50] ?_ | refine DEv_cut _ _ _ _ _ _ _ _ _ _ _ _ (by kernel_rfl) ?_ | change postOf _ _ _ _ _); simp [-List.reduceReplicate, Nat.add_one_le_iff, -getElem?_pos, -getElem?_neg, List.getElem?_cons_zero, List.getElem?_cons_succ, strsC, intsC, hw, hmin])
   | ((first | (refine (p1).det ?_) | (refine ⟨_, _, p1, fun _ => rfl, ?_⟩)); try simp [-List.reduceReplicate, Nat.add_one_le_iff, -getElem?_pos, -getElem?_neg, List.getElem?_cons_zero, List.getElem?_cons_succ, strsC, intsC, hw, hmin])
   | (with_reducible refine awp_if_b rfl (fun hc => ?_) (fun hc => ?_) <;> (try simp [-getElem?_pos, -getElem?_neg] at hc) <;> (try (exfalso; omega)))
   | ((with_reducible first | refine GuardK_b (fun hc => ?_) (fun hc => ?_) | refine DGuard_b _ _ _ _ _ _ _ _ _ _ (fun hc => ?_) (fun hc => ?_)) <;> (try simp only [Bool.not_eq_true', Bool.not_eq_false', decide_eq_true_eq, decide_eq_false_iff_not] at hc) <;> (first | (exfalso; omega) | skip) <;> simp [-List.reduceReplicate, Nat.add_one_le_iff, -getElem?_pos, -getElem?_neg, List.getElem?_cons_zero, List.getElem?_cons_succ, strsC, intsC, hw, hmin, hc])
   | ((with_reducible first | refine hother _ _ rfl ?_); simp only [inBlockA, thenA, noGotoA, Nat.reduceEqDiff, if_false, if_true, ↓reduceIte])
   | (with_reducible refine And.intro (by omega) ?_)
   | fail)
  refine awp_forU [0, 5, 6, 19, 20] (fun i (_u : Unit) => [(20, .c (iC i))]) (fun i (_u : Unit) => heapO keys v i) (fun i (_u : Unit) => True) (m) (()) (by first | trivial | (simp; done) | omega | (intros; simp at *; done)) (by simp [-List.reduceReplicate, keep, iC, hp0, boxE]) (by simp [-List.reduceReplicate, iC, hp0, boxE]) ?_
  rintro i _u Q1 hi hH next hother
  conv => arg 5; arg 1; simp only [List.cons_append, List.nil_append, keep, get, Nat.reduceEqDiff, if_true, if_false, ↓reduceIte]
  have hwi := wrap_in ((i : Int) + 1) (by omega)
  by_cases hlt : i < m
  · have q1 := hpushAt_den keys v i (by omega)
    have g1 := hwg i (by omega)
    obtain ⟨ki, hki⟩ := getI keys (i : Nat) (by omega) (by omega)
    simp only [Int.toNat_natCast] at hki
    have eki : keyN keys i = ki := by simp [keyN, hki]
    have er : runrC (runOf keys v i) = [iC i, iC (winsTo v i v.length), sC ki] := by simp [runrC, runOf, eki]
    have i1 : i < keys.length := by omega
    have i2 : i < v.length := by omega
    rw [er] at q1
    generalize heapO keys v (i + 1) = o2 at *
    generalize heapO keys v i = o1 at *
    repeat' (first 
     | (with_reducible first | refine awp_scope ?_ | refine awp_seq ?_ | refine awp_block ?_)
     | ((with_reducible first | refine awp_label ?_ | refine awp_skip ?_); try simp only [thenA, inBlockA, noGotoA])
     | (with_reducible refine awp_exit ?_; simp only [thenA, inBlockA, noGotoA, if_true, Nat.reduceEqDiff, if_false, ↓reduceIte])
     | (with_reducible refine awp_ret ?_; (try simp only [thenA, inBlockA, noGotoA]); (try simp [-List.reduceReplicate, Nat.add_one_le_iff, -getElem?_pos, -getElem?_neg, List.getElem?_cons_zero, List.getElem?_cons_succ, strsC, intsC, iC, sC, hlt, hwi, g1, hki, i1, i2, hw]))
     | ((with_reducible first | refine awp_reg 57 hX [0, 1, 4, 5, 6, 7, 8, 9, 10, 19, 20, 21, 42, 50] ?_ | refine DEv_cut _ _ _ _ _ _ _ _ _ _ _ _ (by kernel_rfl) ?_ | change postOf _ _ _ _ _); simp [-List.reduceReplicate, Nat.add_one_le_iff, -getElem?_pos, -getElem?_neg, List.getElem?_cons_zero, List.getElem?_cons_succ, strsC, intsC, iC, sC, hlt, hwi, g1, hki, i1, i2, hw])
     | (with_reducible refine awp_if_b rfl (fun hc => ?_) (fun hc => ?_) <;> (try simp [-getElem?_pos, -getElem?_neg] at hc) <;> (try (exfalso; omega)))
     | ((with_reducible first | refine GuardK_b (fun hc => ?_) (fun hc => ?_) | refine DGuard_b _ _ _ _ _ _ _ _ _ _ (fun hc => ?_) (fun hc => ?_)) <;> (try simp only [Bool.not_eq_true', Bool.not_eq_false', decide_eq_true_eq, decide_eq_false_iff_not] at hc) <;> (first | (exfalso; omega) | skip) <;> simp [-List.reduceReplicate, Nat.add_one_le_iff, -getElem?_pos, -getElem?_neg, List.getElem?_cons_zero, List.getElem?_cons_succ, strsC, intsC, iC, sC, hlt, hwi, g1, hki, i1, i2, hw, hc])
     | ((with_reducible first | refine hother _ _ rfl ?_); simp only [inBlockA, thenA, noGotoA, Nat.reduceEqDiff, if_false, if_true, ↓reduceIte])
     | (with_reducible refine And.intro (by omega) ?_)
     | fail)
    refine awp_drwc (id := 6) 57 hX [0, 1, 4, 5, 6, 7, 8, 9, 10, 19, 20, 21, 42, 50] [13] Tab.mixed (by kernel_rfl) ?_
    simp [-List.reduceReplicate, -getElem?_pos, -getElem?_neg, List.getElem?_cons_zero, List.getElem?_cons_succ, strsC, intsC, iC, sC, hlt, hwi, g1, hki, i1, i2, hw]
    refine ⟨_, _, q1, fun h => by simp [mayB] at h, ?_⟩
    repeat' (first 
     | (with_reducible first | refine awp_scope ?_ | refine awp_seq ?_ | refine awp_block ?_)
     | ((with_reducible first | refine awp_label ?_ | refine awp_skip ?_); try simp only [thenA, inBlockA, noGotoA])
     | (with_reducible refine awp_exit ?_; simp only [thenA, inBlockA, noGotoA, if_true, Nat.reduceEqDiff, if_false, ↓reduceIte])
     | (with_reducible refine awp_ret ?_; (try simp only [thenA, inBlockA, noGotoA]); (try simp [-List.reduceReplicate, Nat.add_one_le_iff, -getElem?_pos, -getElem?_neg, List.getElem?_cons_zero, List.getElem?_cons_succ, iC, hwi]))
     | ((with_reducible first | refine awp_reg 57 hX [0, 1, 4, 5, 6, 7, 8, 9, 10, 19, 20, 21, 42, 50] ?_ | refine DEv_cut _ _ _ _ _ _ _ _ _ _ _ _ (by kernel_rfl) ?_ | change postOf _ _ _ _ _); simp [-List.reduceReplicate, Nat.add_one_le_iff, -getElem?_pos, -getElem?_neg, List.getElem?_cons_zero, List.getElem?_cons_succ, iC, hwi])
     | (with_reducible refine awp_if_b rfl (fun hc => ?_) (fun hc => ?_) <;> (try simp [-getElem?_pos, -getElem?_neg] at hc) <;> (try (exfalso; omega)))
     | ((with_reducible first | refine GuardK_b (fun hc => ?_) (fun hc => ?_) | refine DGuard_b _ _ _ _ _ _ _ _ _ _ (fun hc => ?_) (fun hc => ?_)) <;> (try simp only [Bool.not_eq_true', Bool.not_eq_false', decide_eq_true_eq, decide_eq_false_iff_not] at hc) <;> (first | (exfalso; omega) | skip) <;> simp [-List.reduceReplicate, Nat.add_one_le_iff, -getElem?_pos, -getElem?_neg, List.getElem?_cons_zero, List.getElem?_cons_succ, iC, hwi, hc])
     | ((with_reducible first | refine hother _ _ rfl ?_); simp only [inBlockA, thenA, noGotoA, Nat.reduceEqDiff, if_false, if_true, ↓reduceIte])
     | (with_reducible refine And.intro (by omega) ?_)
     | fail)
    refine next _ _ (()) (by omega) (by first | trivial | omega | assumption) (by simp [-List.reduceReplicate, keep, iC]) (by simp [-List.reduceReplicate, iC])
  · have hi2 : i = m := by omega
    subst hi2
    obtain ⟨k1, k2, k3⟩ := hpTo_ok keys v i
    obtain ⟨s1, s2⟩ := ordR_ok keys v
    rw [← hm] at s1
    by_cases hm0 : i = 0
    · subst hm0
      have ho : ordI keys v = [] := by
        have : ordR keys v = [] := List.perm_nil.1 (by simpa [runs] using s1)
        simp [ordI, this]
      have hlen0 : DenV Try.prog 62 [.c (.sl [] 0 true)] (.c (iC 0)) := by
        refine Den.frame rfl rfl ?_
        refine den_of Try.func62 rfl rfl (by simp [Try.ntmps62]) (fun X hX hO => ?_)
        rw [Try.ntmps62] at hX
        simp only [Try.results62]
        repeat' (first 
         | (with_reducible first | refine awp_scope ?_ | refine awp_seq ?_ | refine awp_block ?_)
         | ((with_reducible first | refine awp_label ?_ | refine awp_skip ?_); try simp only [thenA, inBlockA, noGotoA])
         | (with_reducible refine awp_exit ?_; simp only [thenA, inBlockA, noGotoA, if_true, Nat.reduceEqDiff, if_false, ↓reduceIte])
         | (with_reducible refine awp_ret ?_; (try simp only [thenA, inBlockA, noGotoA]); (try simp [-List.reduceReplicate, Nat.add_one_le_iff, -getElem?_pos, -getElem?_neg, List.getElem?_cons_zero, List.getElem?_cons_succ, iC]))
         | ((with_reducible first | refine awp_reg 5 hX [0, 2] ?_ | change postOf _ _ _ _ _); simp [-List.reduceReplicate, Nat.add_one_le_iff, -getElem?_pos, -getElem?_neg, List.getElem?_cons_zero, List.getElem?_cons_succ, iC])
         | (with_reducible refine awp_if_b rfl (fun hc => ?_) (fun hc => ?_) <;> (try simp [-getElem?_pos, -getElem?_neg] at hc) <;> (try (exfalso; omega)))
         | ((with_reducible first | refine GuardK_b (fun hc => ?_) (fun hc => ?_)) <;> (try simp only [Bool.not_eq_true', Bool.not_eq_false', decide_eq_true_eq, decide_eq_false_iff_not] at hc) <;> (first | (exfalso; omega) | skip) <;> simp [-List.reduceReplicate, Nat.add_one_le_iff, -getElem?_pos, -getElem?_neg, List.getElem?_cons_zero, List.getElem?_cons_succ, iC, hc])
         | ((with_reducible first | refine hother _ _ rfl ?_); simp only [inBlockA, thenA, noGotoA, Nat.reduceEqDiff, if_false, if_true, ↓reduceIte])
         | (with_reducible refine And.intro (by omega) ?_)
         | fail)
      rw [hp0]
      clear next
      repeat' (first 
       | (with_reducible first | refine awp_scope ?_ | refine awp_seq ?_ | refine awp_block ?_)
       | ((with_reducible first | refine awp_label ?_ | refine awp_skip ?_); try simp only [thenA, inBlockA, noGotoA])
       | (with_reducible refine awp_exit ?_; simp only [thenA, inBlockA, noGotoA, if_true, Nat.reduceEqDiff, if_false, ↓reduceIte])
       | (with_reducible refine awp_ret ?_; (try simp only [thenA, inBlockA, noGotoA]); (try simp [-List.reduceReplicate, Nat.add_one_le_iff, -getElem?_pos, -getElem?_neg, List.getElem?_cons_zero, List.getElem?_cons_succ, iC, boxE]))
       | ((with_reducible first | refine awp_reg 57 hX [0, 1, 4, 5, 6, 7, 8, 9, 10, 19, 20, 21, 42, 50] ?_ | refine DEv_cut _ _ _ _ _ _ _ _ _ _ _ _ (by kernel_rfl) ?_ | change postOf _ _ _ _ _); simp [-List.reduceReplicate, Nat.add_one_le_iff, -getElem?_pos, -getElem?_neg, List.getElem?_cons_zero, List.getElem?_cons_succ, iC, boxE])
       | (with_reducible refine awp_if_b rfl (fun hc => ?_) (fun hc => ?_) <;> (try simp [-getElem?_pos, -getElem?_neg] at hc) <;> (try (exfalso; omega)))
       | ((with_reducible first | refine GuardK_b (fun hc => ?_) (fun hc => ?_) | refine DGuard_b _ _ _ _ _ _ _ _ _ _ (fun hc => ?_) (fun hc => ?_)) <;> (try simp only [Bool.not_eq_true', Bool.not_eq_false', decide_eq_true_eq, decide_eq_false_iff_not] at hc) <;> (first | (exfalso; omega) | skip) <;> simp [-List.reduceReplicate, Nat.add_one_le_iff, -getElem?_pos, -getElem?_neg, List.getElem?_cons_zero, List.getElem?_cons_succ, iC, boxE, hc])
       | ((with_reducible first | refine hother _ _ rfl ?_); simp only [inBlockA, thenA, noGotoA, Nat.reduceEqDiff, if_false, if_true, ↓reduceIte])
       | (with_reducible refine And.intro (by omega) ?_)
       | fail)
      refine awp_nil 8 3 1 (by simp) ?_
      simp
      refine awp_forU [6, 8] (fun j (_u : Unit) => []) (fun j (_u : Unit) => [boxE, ⟨3, 1, true, 0, [], none⟩]) (fun j (_u : Unit) => True) (0) (()) (by first | trivial | (simp; done) | omega | (intros; simp at *; done)) (by simp [-List.reduceReplicate, keep, iC, boxE]) (by simp [-List.reduceReplicate, iC, boxE]) ?_
      rintro j _u Q1 hi hH next hother
      conv => arg 5; arg 1; simp only [List.cons_append, List.nil_append, keep, get, Nat.reduceEqDiff, if_true, if_false, ↓reduceIte]
      have hj0 : j = 0 := by omega
      subst hj0
      have hexit := hother; clear hother
      repeat' (first 
       | (with_reducible first | refine awp_scope ?_ | refine awp_seq ?_ | refine awp_block ?_)
       | ((with_reducible first | refine awp_label ?_ | refine awp_skip ?_); try simp only [thenA, inBlockA, noGotoA])
       | (with_reducible refine awp_exit ?_; simp only [thenA, inBlockA, noGotoA, if_true, Nat.reduceEqDiff, if_false, ↓reduceIte])
       | (with_reducible refine awp_ret ?_; (try simp only [thenA, inBlockA, noGotoA]); (try simp [-List.reduceReplicate, Nat.add_one_le_iff, -getElem?_pos, -getElem?_neg, List.getElem?_cons_zero, List.getElem?_cons_succ, iC, boxE]))
       | ((with_reducible first | refine awp_reg 57 hX [0, 1, 4, 5, 6, 7, 8, 9, 10, 19, 20, 21, 42, 50] ?_ | refine DEv_cut _ _ _ _ _ _ _ _ _ _ _ _ (by kernel_rfl) ?_ | change postOf _ _ _ _ _); simp [-List.reduceReplicate, Nat.add_one_le_iff, -getElem?_pos, -getElem?_neg, List.getElem?_cons_zero, List.getElem?_cons_succ, iC, boxE])
       | ((first | (refine (hlen0 _).det ?_) | (refine ⟨_, _, hlen0 _, fun _ => rfl, ?_⟩)); try simp [-List.reduceReplicate, Nat.add_one_le_iff, -getElem?_pos, -getElem?_neg, List.getElem?_cons_zero, List.getElem?_cons_succ, iC, boxE])
       | (with_reducible refine awp_if_b rfl (fun hc => ?_) (fun hc => ?_) <;> (try simp [-getElem?_pos, -getElem?_neg] at hc) <;> (try (exfalso; omega)))
       | ((with_reducible first | refine GuardK_b (fun hc => ?_) (fun hc => ?_) | refine DGuard_b _ _ _ _ _ _ _ _ _ _ (fun hc => ?_) (fun hc => ?_)) <;> (try simp only [Bool.not_eq_true', Bool.not_eq_false', decide_eq_true_eq, decide_eq_false_iff_not] at hc) <;> (first | (exfalso; omega) | skip) <;> simp [-List.reduceReplicate, Nat.add_one_le_iff, -getElem?_pos, -getElem?_neg, List.getElem?_cons_zero, List.getElem?_cons_succ, iC, boxE, hc])
       | ((with_reducible first | refine hother _ _ rfl ?_); simp only [inBlockA, thenA, noGotoA, Nat.reduceEqDiff, if_false, if_true, ↓reduceIte])
       | (with_reducible refine And.intro (by omega) ?_)
       | fail)
      refine hexit _ _ rfl ?_
      simp only [inBlockA, thenA, ↓reduceIte]
      refine awp_frz2 8 [] [⟨94, 1, false, 0, [.c (.sl [] 0 true)], none⟩] [] _ [] _ hO rfl rfl rfl (by simp [ltB]) (by simp [ltB]) ?_
      repeat' (first 
       | (with_reducible first | refine awp_scope ?_ | refine awp_seq ?_ | refine awp_block ?_)
       | ((with_reducible first | refine awp_label ?_ | refine awp_skip ?_); try simp only [thenA, inBlockA, noGotoA])
       | (with_reducible refine awp_exit ?_; simp only [thenA, inBlockA, noGotoA, if_true, Nat.reduceEqDiff, if_false, ↓reduceIte])
       | (with_reducible refine awp_ret ?_; (try simp only [thenA, inBlockA, noGotoA]); (try simp [-List.reduceReplicate, Nat.add_one_le_iff, -getElem?_pos, -getElem?_neg, List.getElem?_cons_zero, List.getElem?_cons_succ, ho, intsC]))
       | ((with_reducible first | refine awp_reg 57 hX [0, 1, 4, 5, 6, 7, 8, 9, 10, 19, 20, 21, 42, 50] ?_ | refine DEv_cut _ _ _ _ _ _ _ _ _ _ _ _ (by kernel_rfl) ?_ | change postOf _ _ _ _ _); simp [-List.reduceReplicate, Nat.add_one_le_iff, -getElem?_pos, -getElem?_neg, List.getElem?_cons_zero, List.getElem?_cons_succ, ho, intsC])
       | (with_reducible refine awp_if_b rfl (fun hc => ?_) (fun hc => ?_) <;> (try simp [-getElem?_pos, -getElem?_neg] at hc) <;> (try (exfalso; omega)))
       | ((with_reducible first | refine GuardK_b (fun hc => ?_) (fun hc => ?_) | refine DGuard_b _ _ _ _ _ _ _ _ _ _ (fun hc => ?_) (fun hc => ?_)) <;> (try simp only [Bool.not_eq_true', Bool.not_eq_false', decide_eq_true_eq, decide_eq_false_iff_not] at hc) <;> (first | (exfalso; omega) | skip) <;> simp [-List.reduceReplicate, Nat.add_one_le_iff, -getElem?_pos, -getElem?_neg, List.getElem?_cons_zero, List.getElem?_cons_succ, ho, intsC, hc])
       | ((with_reducible first | refine hother _ _ rfl ?_); simp only [inBlockA, thenA, noGotoA, Nat.reduceEqDiff, if_false, if_true, ↓reduceIte])
       | (with_reducible refine And.intro (by omega) ?_)
       | fail)
    · have hh : Heap rlt (hpTo keys v i) (hpTo keys v i).length := by rw [k3]; exact k1
      have hout0 := out_start hh k2
      rw [k3] at hout0
      have hobj : heapO keys v i = [boxP i (i - 1), garO (runOf keys v 0), rowO (hpTo keys v i) (i - 1)] := by
        unfold heapO boxP boxO
        rw [if_neg hm0, if_neg hm0]
      rw [hobj]
      have hgar := gar_ok (runOf keys v 0)
      generalize garO (runOf keys v 0) = gb at *
      generalize hpTo keys v i = L0 at *
      clear next hobj
      obtain ⟨go, hgo⟩ : ∃ go, go = i - 1 := ⟨_, rfl⟩
      rw [← hgo]
      have hfin : ∀ o L : List Run, Out rlt (runs keys v i) o L 0 → o = ordR keys v := fun o L h => by
        obtain ⟨e1, e2⟩ := out_end h
        exact sorted_one rlt_anti e2 s2 (e1.trans s1.symm)
      repeat' (first 
       | (with_reducible first | refine awp_scope ?_ | refine awp_seq ?_ | refine awp_block ?_)
       | ((with_reducible first | refine awp_label ?_ | refine awp_skip ?_); try simp only [thenA, inBlockA, noGotoA])
       | (with_reducible refine awp_exit ?_; simp only [thenA, inBlockA, noGotoA, if_true, Nat.reduceEqDiff, if_false, ↓reduceIte])
       | (with_reducible refine awp_ret ?_; (try simp only [thenA, inBlockA, noGotoA]); (try simp [-List.reduceReplicate, Nat.add_one_le_iff, -getElem?_pos, -getElem?_neg, List.getElem?_cons_zero, List.getElem?_cons_succ, iC]))
       | ((with_reducible first | refine awp_reg 57 hX [0, 1, 4, 5, 6, 7, 8, 9, 10, 19, 20, 21, 42, 50] ?_ | refine DEv_cut _ _ _ _ _ _ _ _ _ _ _ _ (by kernel_rfl) ?_ | change postOf _ _ _ _ _); simp [-List.reduceReplicate, Nat.add_one_le_iff, -getElem?_pos, -getElem?_neg, List.getElem?_cons_zero, List.getElem?_cons_succ, iC])
       | (with_reducible refine awp_if_b rfl (fun hc => ?_) (fun hc => ?_) <;> (try simp [-getElem?_pos, -getElem?_neg] at hc) <;> (try (exfalso; omega)))
       | ((with_reducible first | refine GuardK_b (fun hc => ?_) (fun hc => ?_) | refine DGuard_b _ _ _ _ _ _ _ _ _ _ (fun hc => ?_) (fun hc => ?_)) <;> (try simp only [Bool.not_eq_true', Bool.not_eq_false', decide_eq_true_eq, decide_eq_false_iff_not] at hc) <;> (first | (exfalso; omega) | skip) <;> simp [-List.reduceReplicate, Nat.add_one_le_iff, -getElem?_pos, -getElem?_neg, List.getElem?_cons_zero, List.getElem?_cons_succ, iC, hc])
       | ((with_reducible first | refine hother _ _ rfl ?_); simp only [inBlockA, thenA, noGotoA, Nat.reduceEqDiff, if_false, if_true, ↓reduceIte])
       | (with_reducible refine And.intro (by omega) ?_)
       | fail)
      refine awp_nil 8 3 1 (by simp) ?_
      simp
      have lenE : DenV Try.prog 62 [.c (.sl [] 0 false)] (.c (iC 0)) := by
        refine Den.frame rfl rfl ?_
        refine den_of Try.func62 rfl rfl (by simp [Try.ntmps62]) (fun X hX hO => ?_)
        rw [Try.ntmps62] at hX
        simp only [Try.results62]
        repeat' (first 
         | (with_reducible first | refine awp_scope ?_ | refine awp_seq ?_ | refine awp_block ?_)
         | ((with_reducible first | refine awp_label ?_ | refine awp_skip ?_); try simp only [thenA, inBlockA, noGotoA])
         | (with_reducible refine awp_exit ?_; simp only [thenA, inBlockA, noGotoA, if_true, Nat.reduceEqDiff, if_false, ↓reduceIte])
         | (with_reducible refine awp_ret ?_; (try simp only [thenA, inBlockA, noGotoA]); (try simp [-List.reduceReplicate, Nat.add_one_le_iff, -getElem?_pos, -getElem?_neg, List.getElem?_cons_zero, List.getElem?_cons_succ, iC]))
         | ((with_reducible first | refine awp_reg 5 hX [0, 2] ?_ | change postOf _ _ _ _ _); simp [-List.reduceReplicate, Nat.add_one_le_iff, -getElem?_pos, -getElem?_neg, List.getElem?_cons_zero, List.getElem?_cons_succ, iC])
         | (with_reducible refine awp_if_b rfl (fun hc => ?_) (fun hc => ?_) <;> (try simp [-getElem?_pos, -getElem?_neg] at hc) <;> (try (exfalso; omega)))
         | ((with_reducible first | refine GuardK_b (fun hc => ?_) (fun hc => ?_)) <;> (try simp only [Bool.not_eq_true', Bool.not_eq_false', decide_eq_true_eq, decide_eq_false_iff_not] at hc) <;> (first | (exfalso; omega) | skip) <;> simp [-List.reduceReplicate, Nat.add_one_le_iff, -getElem?_pos, -getElem?_neg, List.getElem?_cons_zero, List.getElem?_cons_succ, iC, hc])
         | ((with_reducible first | refine hother _ _ rfl ?_); simp only [inBlockA, thenA, noGotoA, Nat.reduceEqDiff, if_false, if_true, ↓reduceIte])
         | (with_reducible refine And.intro (by omega) ?_)
         | fail)
      refine awp_forU [6, 8] (fun j (p : List Run × List Run × Nat × Bool × List Ob) => [(8, .ms 3 p.2.2.1 0 j)]) (fun j (p : List Run × List Run × Nat × Bool × List Ob) => [boxP (i - j) go, gb, rowO p.1 go, ⟨3, 1, p.2.2.2.1, p.2.2.1, up (p.2.1.map fun x => iC x.at_), none⟩] ++ p.2.2.2.2) (fun j (p : List Run × List Run × Nat × Bool × List Ob) => Out rlt (runs keys v i) p.2.1 p.1 (i - j) ∧ p.2.1.length = j ∧ p.1.length = i) (i) ((L0, [], 0, true, [])) (⟨hout0, rfl, k3⟩) (by simp [-List.reduceReplicate, keep, iC]) (by simp [-List.reduceReplicate, iC]) ?_
      rintro j p Q1 hi hH next hother
      conv => arg 5; arg 1; simp only [List.cons_append, List.nil_append, keep, get, Nat.reduceEqDiff, if_true, if_false, ↓reduceIte]
      obtain ⟨L, o, g1, n1, gar⟩ := p
      obtain ⟨ho1, ho2, ho3⟩ := hH
      simp only at ho1 ho2 ho3
      have boxok : ∀ n, (boxP n go).cs.all (ltB 4) = true := fun n => by unfold boxP; by_cases h : n = 0 <;> simp [h, ltB]
      refine awp_drop [boxP (i - j) go, gb, rowO L go, ⟨3, 1, n1, g1, up (o.map fun x => iC x.at_), none⟩] gar (by rw [hO.1]; simp) rfl (by simp [ltB]) (by simp only [List.all_cons, List.all_nil, Bool.and_true, Bool.and_eq_true]; exact ⟨boxok _, hgar 4, row_ok _ _ _, up_all _ _⟩) ?_
      by_cases hlt : j < i
      · obtain ⟨k, hk⟩ : ∃ k, i - j = k + 1 := ⟨i - j - 1, by omega⟩
        rw [hk] at ho1 ⊢
        have hk2 : i - (j + 1) = k := by omega
        rw [hk2] at next
        have hbox : boxP (k + 1) go = ⟨94, 1, false, 0, [.ms 2 go 0 (k + 1)], none⟩ := rfl
        obtain ⟨st1, st2⟩ := out_step rlt_ord ho1
        have hrow : rowO L go = ⟨97, 3, false, go, up (rowC L), none⟩ := rfl
        have hkl := ho1.len
        have q1 := (rowLen_den ⟨94, 1, false, 0, [.ms 2 go 0 (k + 1)], none⟩ gb (rowC L) go (k + 1)).frame1 [⟨3, 1, n1, g1, up (o.map fun x => iC x.at_), none⟩] rfl (by simp only [List.all_cons, List.all_nil, Bool.and_true, Bool.and_eq_true]; exact ⟨rfl, hgar 3, up_all _ _⟩) rfl
        have hall : [boxO (k + 1) go, gb, rowO L go].all (fun o => o.cs.all (ltB 3)) = true := by
          simp only [List.all_cons, List.all_nil, Bool.and_true, Bool.and_eq_true]
          exact ⟨rfl, hgar 3, row_ok _ _ _⟩
        have q2 := Den.frame1 (ob2 := [boxP k go, gb, rowO (popL rlt L k) go]) [⟨3, 1, n1, g1, up (o.map fun x => iC x.at_), none⟩] rfl hall rfl (hpop_den gb (hgar 3) L go k (by omega) (by omega))
        rw [st2] at q2
        have hbo : boxO (k + 1) go = ⟨94, 1, false, 0, [.ms 2 go 0 (k + 1)], none⟩ := rfl
        simp only [List.cons_append, List.nil_append, hbo] at q1 q2
        have hlen2 : (popL rlt L k).length = i := by rw [popL_len]; exact ho3
        have nx : Out rlt (runs keys v i) (o ++ [at' L 0]) (popL rlt L k) k ∧ (o ++ [at' L 0]).length = j + 1 ∧ (popL rlt L k).length = i := ⟨st1, by simp [ho2], hlen2⟩
        have hrr : ∀ r, (runrC r).length = 3 := fun _ => rfl
        have hr0 : runrC (at' L 0) = [iC (at' L 0).at_, iC (at' L 0).wins, sC (at' L 0).key] := rfl
        have hol : (o.map fun x => iC x.at_).length = j := by simp [ho2]
        rw [hbox]
        rw [hrow] at q2 ⊢
        have hmapx : (o ++ [at' L 0]).map (fun x => iC x.at_) = o.map (fun x => iC x.at_) ++ [iC (at' L 0).at_] := by simp
        have hnext := fun fr' ob' g' n' gar' => next fr' ob' (popL rlt L k, o ++ [at' L 0], g', n', gar') hlt nx
        simp only [hmapx] at hnext
        clear next
        generalize (o.map fun x => iC x.at_) = oc at *
        generalize at' L 0 = x at *
        generalize rowO (popL rlt L k) go = ro2 at *
        generalize boxP k go = bp2 at *
        generalize rowC L = cs at *
        have c1 : (0 : Int) < (k : Int) + 1 := by omega
        repeat' (first 
         | (with_reducible first | refine awp_scope ?_ | refine awp_seq ?_ | refine awp_block ?_)
         | ((with_reducible first | refine awp_label ?_ | refine awp_skip ?_); try simp only [thenA, inBlockA, noGotoA])
         | (with_reducible refine awp_exit ?_; simp only [thenA, inBlockA, noGotoA, if_true, Nat.reduceEqDiff, if_false, ↓reduceIte])
         | (with_reducible refine awp_ret ?_; (try simp only [thenA, inBlockA, noGotoA]); (try simp [-List.reduceReplicate, Nat.add_one_le_iff, -getElem?_pos, -getElem?_neg, List.getElem?_cons_zero, List.getElem?_cons_succ, iC, bC, c1, hr0, hrr, roomB]))
         | ((with_reducible first | refine awp_reg 57 hX [0, 1, 4, 5, 6, 7, 8, 9, 10, 19, 20, 21, 42, 50] ?_ | refine DEv_cut _ _ _ _ _ _ _ _ _ _ _ _ (by kernel_rfl) ?_ | change postOf _ _ _ _ _); simp [-List.reduceReplicate, Nat.add_one_le_iff, -getElem?_pos, -getElem?_neg, List.getElem?_cons_zero, List.getElem?_cons_succ, iC, bC, c1, hr0, hrr, roomB])
         | ((first | (refine (q1).det ?_) | (refine ⟨_, _, q1, fun _ => rfl, ?_⟩) | (refine (q2).det ?_) | (refine ⟨_, _, q2, fun _ => rfl, ?_⟩)); try simp [-List.reduceReplicate, Nat.add_one_le_iff, -getElem?_pos, -getElem?_neg, List.getElem?_cons_zero, List.getElem?_cons_succ, iC, bC, c1, hr0, hrr, roomB])
         | (with_reducible refine awp_if_b rfl (fun hc => ?_) (fun hc => ?_) <;> (try simp [-getElem?_pos, -getElem?_neg] at hc) <;> (try (exfalso; omega)))
         | ((with_reducible first | refine GuardK_b (fun hc => ?_) (fun hc => ?_) | refine DGuard_b _ _ _ _ _ _ _ _ _ _ (fun hc => ?_) (fun hc => ?_)) <;> (try simp only [Bool.not_eq_true', Bool.not_eq_false', decide_eq_true_eq, decide_eq_false_iff_not] at hc) <;> (first | (exfalso; omega) | skip) <;> simp [-List.reduceReplicate, Nat.add_one_le_iff, -getElem?_pos, -getElem?_neg, List.getElem?_cons_zero, List.getElem?_cons_succ, iC, bC, c1, hr0, hrr, roomB, hc])
         | ((with_reducible first | refine hother _ _ rfl ?_); simp only [inBlockA, thenA, noGotoA, Nat.reduceEqDiff, if_false, if_true, ↓reduceIte])
         | (with_reducible refine And.intro (by omega) ?_)
         | fail)
        exact hnext _ _ _ _ [_] (by simp [keep, iC]) rfl
      · have hj2 : j = i := by omega
        subst hj2
        have hexit := hother; clear hother
        rw [Nat.sub_self] at ho1 ⊢
        have hres := hfin o L ho1
        have hbox0 : boxP 0 go = ⟨94, 1, false, 0, [.c (.sl [] 0 false)], none⟩ := rfl
        have hoI : ordI keys v = o.map (·.at_) := by unfold ordI; rw [hres]
        rw [hbox0]
        have hrow : rowO L go = ⟨97, 3, false, go, up (rowC L), none⟩ := rfl
        have hrk := row_ok L go 3
        generalize rowO L go = ro at *
        repeat' (first 
         | (with_reducible first | refine awp_scope ?_ | refine awp_seq ?_ | refine awp_block ?_)
         | ((with_reducible first | refine awp_label ?_ | refine awp_skip ?_); try simp only [thenA, inBlockA, noGotoA])
         | (with_reducible refine awp_exit ?_; simp only [thenA, inBlockA, noGotoA, if_true, Nat.reduceEqDiff, if_false, ↓reduceIte])
         | (with_reducible refine awp_ret ?_; (try simp only [thenA, inBlockA, noGotoA]); (try simp [-List.reduceReplicate, Nat.add_one_le_iff, -getElem?_pos, -getElem?_neg, List.getElem?_cons_zero, List.getElem?_cons_succ, iC]))
         | ((with_reducible first | refine awp_reg 57 hX [0, 1, 4, 5, 6, 7, 8, 9, 10, 19, 20, 21, 42, 50] ?_ | refine DEv_cut _ _ _ _ _ _ _ _ _ _ _ _ (by kernel_rfl) ?_ | change postOf _ _ _ _ _); simp [-List.reduceReplicate, Nat.add_one_le_iff, -getElem?_pos, -getElem?_neg, List.getElem?_cons_zero, List.getElem?_cons_succ, iC])
         | ((first | (refine (lenE _).det ?_) | (refine ⟨_, _, lenE _, fun _ => rfl, ?_⟩)); try simp [-List.reduceReplicate, Nat.add_one_le_iff, -getElem?_pos, -getElem?_neg, List.getElem?_cons_zero, List.getElem?_cons_succ, iC])
         | (with_reducible refine awp_if_b rfl (fun hc => ?_) (fun hc => ?_) <;> (try simp [-getElem?_pos, -getElem?_neg] at hc) <;> (try (exfalso; omega)))
         | ((with_reducible first | refine GuardK_b (fun hc => ?_) (fun hc => ?_) | refine DGuard_b _ _ _ _ _ _ _ _ _ _ (fun hc => ?_) (fun hc => ?_)) <;> (try simp only [Bool.not_eq_true', Bool.not_eq_false', decide_eq_true_eq, decide_eq_false_iff_not] at hc) <;> (first | (exfalso; omega) | skip) <;> simp [-List.reduceReplicate, Nat.add_one_le_iff, -getElem?_pos, -getElem?_neg, List.getElem?_cons_zero, List.getElem?_cons_succ, iC, hc])
         | ((with_reducible first | refine hother _ _ rfl ?_); simp only [inBlockA, thenA, noGotoA, Nat.reduceEqDiff, if_false, if_true, ↓reduceIte])
         | (with_reducible refine And.intro (by omega) ?_)
         | fail)
        refine hexit _ _ rfl ?_
        simp only [inBlockA, thenA, ↓reduceIte]
        refine awp_frz2 8 [] [⟨94, 1, false, 0, [.c (.sl [] 0 false)], none⟩, gb, ro] [] _ (o.map fun x => iC x.at_) _ hO rfl rfl rfl (by simp [ltB]) (by simp only [List.all_cons, List.all_nil, Bool.and_true, Bool.and_eq_true]; exact ⟨rfl, hgar 3, hrk⟩) ?_
        repeat' (first 
         | (with_reducible first | refine awp_scope ?_ | refine awp_seq ?_ | refine awp_block ?_)
         | ((with_reducible first | refine awp_label ?_ | refine awp_skip ?_); try simp only [thenA, inBlockA, noGotoA])
         | (with_reducible refine awp_exit ?_; simp only [thenA, inBlockA, noGotoA, if_true, Nat.reduceEqDiff, if_false, ↓reduceIte])
         | (with_reducible refine awp_ret ?_; (try simp only [thenA, inBlockA, noGotoA]); (try simp [-List.reduceReplicate, Nat.add_one_le_iff, -getElem?_pos, -getElem?_neg, List.getElem?_cons_zero, List.getElem?_cons_succ, hoI, intsC, ho2]))
         | ((with_reducible first | refine awp_reg 57 hX [0, 1, 4, 5, 6, 7, 8, 9, 10, 19, 20, 21, 42, 50] ?_ | refine DEv_cut _ _ _ _ _ _ _ _ _ _ _ _ (by kernel_rfl) ?_ | change postOf _ _ _ _ _); simp [-List.reduceReplicate, Nat.add_one_le_iff, -getElem?_pos, -getElem?_neg, List.getElem?_cons_zero, List.getElem?_cons_succ, hoI, intsC, ho2])
         | (with_reducible refine awp_if_b rfl (fun hc => ?_) (fun hc => ?_) <;> (try simp [-getElem?_pos, -getElem?_neg] at hc) <;> (try (exfalso; omega)))
         | ((with_reducible first | refine GuardK_b (fun hc => ?_) (fun hc => ?_) | refine DGuard_b _ _ _ _ _ _ _ _ _ _ (fun hc => ?_) (fun hc => ?_)) <;> (try simp only [Bool.not_eq_true', Bool.not_eq_false', decide_eq_true_eq, decide_eq_false_iff_not] at hc) <;> (first | (exfalso; omega) | skip) <;> simp [-List.reduceReplicate, Nat.add_one_le_iff, -getElem?_pos, -getElem?_neg, List.getElem?_cons_zero, List.getElem?_cons_succ, hoI, intsC, ho2, hc])
         | ((with_reducible first | refine hother _ _ rfl ?_); simp only [inBlockA, thenA, noGotoA, Nat.reduceEqDiff, if_false, if_true, ↓reduceIte])
         | (with_reducible refine And.intro (by omega) ?_)
         | fail)
        all_goals (trace_state; sorry)
end Go.Av
