/- 1 texts of the program logic over abstract values, joined: each is proved without any condition beyond its own words. -/
import Derived.Test.YtpcnacknlgmmlaaAvTO1
import Derived.Test.YtpcnacknlgmmlaaAvT8
import Derived.Test.YtpcnacknlgmmlaaAvShelf
import Derived.Test.YtpcnacknlgmmlaaAvEngine4
import Derived.Test.YtpcnacknlgmmlaaAvEngine1
set_option exponentiation.threshold 1000
set_option linter.unusedVariables false
set_option linter.unusedSimpArgs false
set_option maxRecDepth 100000
set_option maxHeartbeats 4000000
namespace Go.Av
open Go Go.Proofs Go.Proofs.Ytpcnacknlgmmlaa Go.RowKit
attribute [local simp] List.getElem?_cons_zero List.getElem?_cons_succ
/-! ### store: a set of texts with an end -/
theorem cloneL_den (s : ByteArray) (hs : s.size ≤ 281474976710656) : DenV Try.prog 39 [.c (sC s)] (.c (sC s)) := by
  refine Den.of_below (by kernel_rfl) rfl fun w E vals hl ha hst => ?_
  have h0 := ha 0 _ rfl
  obtain ⟨va, rfl⟩ : ∃ va, vals = #[va] := by
    obtain ⟨l⟩ := vals
    match l, hl with
    | [a], _ => exact ⟨a, rfl⟩
  obtain rfl : va = .string s := arg_v h0
  exact (Try.stringslite_Clone s w hs).mono fun e w' ⟨he, hw⟩ => ⟨by rw [he], hw⟩
theorem clone_den (s : ByteArray) (hs : s.size ≤ 281474976710656) : DenV Try.prog 21 [.c (sC s)] (.c (sC s)) := by
  refine Den.frame rfl rfl ?_
  refine den_of Try.func21 rfl rfl (by simp [Try.ntmps21]) (fun X hX hO => ?_)
  rw [Try.ntmps21] at hX
  simp only [Try.results21]
  repeat' (first 
   | (with_reducible first | refine awp_scope ?_ | refine awp_seq ?_ | refine awp_block ?_)
   | ((with_reducible first | refine awp_label ?_ | refine awp_skip ?_ | refine awp_exit ?_); try simp only [thenA, inBlockA, noGotoA, if_true, Nat.reduceEqDiff, if_false, ↓reduceIte])
   | ((with_reducible first | refine awp_reg 5 hX [0, 2] ?_ | change postOf _ _ _ _ _); simp [-List.reduceReplicate, Nat.add_one_le_iff, -getElem?_pos, -getElem?_neg, sC])
   | ((first | (with_reducible refine awp_ret ?_; try simp only [thenA, inBlockA, noGotoA]) | ((with_reducible refine Den.at_ (f := 39) ?_); refine (cloneL_den s hs _).det ?_)); try simp [-List.reduceReplicate, Nat.add_one_le_iff, -getElem?_pos, -getElem?_neg, sC])
   | (with_reducible refine awp_if_b rfl (fun hc => ?_) (fun hc => ?_) <;> (try simp [-getElem?_pos, -getElem?_neg] at hc) <;> (try (exfalso; omega)))
   | (with_reducible refine And.intro (by omega) ?_)
   | fail)
def stO (most : Int) (m : M) : Ob := ⟨42, 2, false, 0, [.c (iC most), m], none⟩
theorem zv_int : zeroV Try.prog 3 = some (.c (.v (.int .i64 0))) := by kernel_rfl
theorem new_den (n : Int) (ob : List Ob) : Den Try.prog 9 [.c (iC n)] ob (fun r ob' => r = .mp (ob.length + 1) 0 0 ∧ ob' = ob ++ [oddOb (.map []), stO n (.mm ob.length)]) := by
  refine den_of Try.func9 rfl rfl (by simp [Try.ntmps9]) (fun X hX hO => ?_)
  rw [Try.ntmps9] at hX
  simp only [Try.results9]
  repeat' (first 
   | (with_reducible first | refine awp_scope ?_ | refine awp_seq ?_ | refine awp_block ?_)
   | ((with_reducible first | refine awp_label ?_ | refine awp_skip ?_ | refine awp_exit ?_); try simp only [thenA, inBlockA, noGotoA, if_true, Nat.reduceEqDiff, if_false, ↓reduceIte])
   | ((with_reducible first | refine awp_reg 7 hX [0, 2] ?_ | change postOf _ _ _ _ _); simp [-List.reduceReplicate, Nat.add_one_le_iff, -getElem?_pos, -getElem?_neg, iC, stO])
   | ((first | (with_reducible refine awp_ret ?_; try simp only [thenA, inBlockA, noGotoA])); try simp [-List.reduceReplicate, Nat.add_one_le_iff, -getElem?_pos, -getElem?_neg, iC, stO])
   | (with_reducible refine awp_if_b rfl (fun hc => ?_) (fun hc => ?_) <;> (try simp [-getElem?_pos, -getElem?_neg] at hc) <;> (try (exfalso; omega)))
   | (with_reducible refine And.intro (by omega) ?_)
   | fail)
theorem len_den (i j : Nat) (n : Int) (es : List Ent) (ob : List Ob) (h1 : ob[i]? = some (stO n (.mm j))) (h2 : ob[j]? = some (oddOb (.map es))) : Den Try.prog 13 [.mp i 0 0] ob (fun r ob' => r = .c (iC es.length) ∧ ob' = ob) := by
  refine den_of Try.func13 rfl rfl (by simp [Try.ntmps13]) (fun X hX hO => ?_)
  rw [Try.ntmps13] at hX
  simp only [Try.results13]
  repeat' (first 
   | (with_reducible first | refine awp_scope ?_ | refine awp_seq ?_ | refine awp_block ?_)
   | ((with_reducible first | refine awp_label ?_ | refine awp_skip ?_ | refine awp_exit ?_); try simp only [thenA, inBlockA, noGotoA, if_true, Nat.reduceEqDiff, if_false, ↓reduceIte])
   | ((with_reducible first | refine awp_reg 10 hX [0, 2, 4] ?_ | change postOf _ _ _ _ _); simp [-List.reduceReplicate, Nat.add_one_le_iff, -getElem?_pos, -getElem?_neg, iC, stO, h1, h2])
   | ((first | (with_reducible refine awp_ret ?_; try simp only [thenA, inBlockA, noGotoA])); try simp [-List.reduceReplicate, Nat.add_one_le_iff, -getElem?_pos, -getElem?_neg, iC, stO, h1, h2])
   | (with_reducible refine awp_if_b rfl (fun hc => ?_) (fun hc => ?_) <;> (try simp [-getElem?_pos, -getElem?_neg] at hc) <;> (try (exfalso; omega)))
   | (with_reducible refine And.intro (by omega) ?_)
   | fail)
theorem has_zero (i : Nat) (n : Int) (s : ByteArray) (ob : List Ob) (h1 : ob[i]? = some (stO n (.c (.v (.map none))))) : Den Try.prog 14 [.mp i 0 0, .c (sC s)] ob (fun r ob' => r = .c (bC false) ∧ ob' = ob) := by
  refine den_of Try.func14 rfl rfl (by simp [Try.ntmps14]) (fun X hX hO => ?_)
  rw [Try.ntmps14] at hX
  simp only [Try.results14]
  have zv := zv_int
  repeat' (first 
   | (with_reducible first | refine awp_scope ?_ | refine awp_seq ?_ | refine awp_block ?_)
   | ((with_reducible first | refine awp_label ?_ | refine awp_skip ?_ | refine awp_exit ?_); try simp only [thenA, inBlockA, noGotoA, if_true, Nat.reduceEqDiff, if_false, ↓reduceIte])
   | ((with_reducible first | refine awp_reg 19 hX [0, 1, 4, 6, 8] ?_ | change postOf _ _ _ _ _); simp [-List.reduceReplicate, Nat.add_one_le_iff, -getElem?_pos, -getElem?_neg, bC, sC, stO, h1, zv])
   | ((first | (with_reducible refine awp_ret ?_; try simp only [thenA, inBlockA, noGotoA])); try simp [-List.reduceReplicate, Nat.add_one_le_iff, -getElem?_pos, -getElem?_neg, bC, sC, stO, h1, zv])
   | (with_reducible refine awp_if_b rfl (fun hc => ?_) (fun hc => ?_) <;> (try simp [-getElem?_pos, -getElem?_neg] at hc) <;> (try (exfalso; omega)))
   | (with_reducible refine And.intro (by omega) ?_)
   | fail)
/-- The map of a store that holds these texts, in the order in which they came. -/
def numS (k : Nat) : List ByteArray → List Ent
  | [] => []
  | s :: r => (s, false, [iC k]) :: numS (k + 1) r
def entS (l : List ByteArray) : List Ent := numS 0 l
theorem numS_len (l : List ByteArray) : ∀ k, (numS k l).length = l.length := by
  induction l with
  | nil => intro k; rfl
  | cons s r ih => intro k; simp [numS, ih]
theorem entS_len (l : List ByteArray) : (entS l).length = l.length := numS_len l 0
theorem numS_get (l : List ByteArray) : ∀ (k i : Nat), (numS k l)[i]? = (l[i]?).map fun s => (s, false, [iC ((k + i : Nat) : Int)]) := by
  induction l with
  | nil => intro k i; simp [numS]
  | cons s r ih =>
    intro k i
    cases i with
    | zero => simp [numS]
    | succ i => simp only [numS, List.getElem?_cons_succ]; rw [ih, show k + 1 + i = k + (i + 1) by omega]
theorem numS_none (l : List ByteArray) (s : ByteArray) (h : s ∉ l) : ∀ k, findE (numS k l) s = none := by
  induction l with
  | nil => intro k; rfl
  | cons x r ih =>
    intro k
    simp at h
    simp [numS, findE, Ne.symm h.1, ih h.2]
theorem numS_some (l : List ByteArray) (s : ByteArray) (h : s ∈ l) : ∀ k, ∃ i, findE (numS k l) s = some i ∧ i < l.length := by
  induction l with
  | nil => simp at h
  | cons x r ih =>
    intro k
    by_cases hx : x = s
    · exact ⟨0, by simp [numS, findE, hx], by simp⟩
    · obtain ⟨i, hi, hl⟩ := ih (by simpa [Ne.symm hx] using h) (k + 1)
      exact ⟨i + 1, by simp [numS, findE, hx, hi], by simpa using hl⟩
theorem entAt_none (l : List ByteArray) (s : ByteArray) (h : s ∉ l) : entAt (entS l) s = none := by
  simp [entAt, entS, numS_none l s h 0]
theorem entAt_some (l : List ByteArray) (s : ByteArray) (h : s ∈ l) : ∃ k : Int, entAt (entS l) s = some (.c (iC k)) := by
  obtain ⟨i, hi, hl⟩ := numS_some l s h 0
  refine ⟨((0 + i : Nat) : Int), ?_⟩
  simp only [entAt, entS, hi, numS_get]
  rw [List.getElem?_eq_getElem hl]
  rfl
theorem numS_append (l : List ByteArray) (s : ByteArray) : ∀ k, numS k (l ++ [s]) = numS k l ++ [(s, false, [iC ((k + l.length : Nat) : Int)])] := by
  induction l with
  | nil => intro k; simp [numS]
  | cons x r ih => intro k; simp only [numS, List.cons_append, ih, List.length_cons]; rw [show k + 1 + r.length = k + (r.length + 1) by omega]
theorem putE_new (l : List ByteArray) (s : ByteArray) (h : s ∉ l) : putE (entS l) s (false, [iC l.length]) = entS (l ++ [s]) := by
  simp only [putE, entS, numS_none l s h 0, numS_append, Nat.zero_add]
attribute [local simp] Try.underlying40 Try.underlying9 Try.underlying3
theorem has_in (i j : Nat) (n : Int) (l : List ByteArray) (s : ByteArray) (ob : List Ob) (h1 : ob[i]? = some (stO n (.mm j))) (h2 : ob[j]? = some (oddOb (.map (entS l)))) (hs : s ∈ l) : Den Try.prog 14 [.mp i 0 0, .c (sC s)] ob (fun r ob' => r = .c (bC true) ∧ ob' = ob) := by
  refine den_of Try.func14 rfl rfl (by simp [Try.ntmps14]) (fun X hX hO => ?_)
  rw [Try.ntmps14] at hX
  simp only [Try.results14]
  have zv := zv_int
  obtain ⟨k, hk⟩ := entAt_some l s hs
  generalize entS l = es at *
  simp only [iC] at hk
  repeat' (first 
   | (with_reducible first | refine awp_scope ?_ | refine awp_seq ?_ | refine awp_block ?_)
   | ((with_reducible first | refine awp_label ?_ | refine awp_skip ?_ | refine awp_exit ?_); try simp only [thenA, inBlockA, noGotoA, if_true, Nat.reduceEqDiff, if_false, ↓reduceIte])
   | ((with_reducible first | refine awp_reg 19 hX [0, 1, 4, 6, 8] ?_ | change postOf _ _ _ _ _); simp [-List.reduceReplicate, Nat.add_one_le_iff, -getElem?_pos, -getElem?_neg, bC, sC, stO, h1, h2, zv, hk, hs])
   | ((first | (with_reducible refine awp_ret ?_; try simp only [thenA, inBlockA, noGotoA])); try simp [-List.reduceReplicate, Nat.add_one_le_iff, -getElem?_pos, -getElem?_neg, bC, sC, stO, h1, h2, zv, hk, hs])
   | (with_reducible refine awp_if_b rfl (fun hc => ?_) (fun hc => ?_) <;> (try simp [-getElem?_pos, -getElem?_neg] at hc) <;> (try (exfalso; omega)))
   | (with_reducible refine And.intro (by omega) ?_)
   | fail)
theorem has_out (i j : Nat) (n : Int) (l : List ByteArray) (s : ByteArray) (ob : List Ob) (h1 : ob[i]? = some (stO n (.mm j))) (h2 : ob[j]? = some (oddOb (.map (entS l)))) (hs : s ∉ l) : Den Try.prog 14 [.mp i 0 0, .c (sC s)] ob (fun r ob' => r = .c (bC false) ∧ ob' = ob) := by
  refine den_of Try.func14 rfl rfl (by simp [Try.ntmps14]) (fun X hX hO => ?_)
  rw [Try.ntmps14] at hX
  simp only [Try.results14]
  have zv := zv_int
  have hk := entAt_none l s hs
  generalize entS l = es at *
  repeat' (first 
   | (with_reducible first | refine awp_scope ?_ | refine awp_seq ?_ | refine awp_block ?_)
   | ((with_reducible first | refine awp_label ?_ | refine awp_skip ?_ | refine awp_exit ?_); try simp only [thenA, inBlockA, noGotoA, if_true, Nat.reduceEqDiff, if_false, ↓reduceIte])
   | ((with_reducible first | refine awp_reg 19 hX [0, 1, 4, 6, 8] ?_ | change postOf _ _ _ _ _); simp [-List.reduceReplicate, Nat.add_one_le_iff, -getElem?_pos, -getElem?_neg, bC, sC, stO, h1, h2, zv, hk, hs])
   | ((first | (with_reducible refine awp_ret ?_; try simp only [thenA, inBlockA, noGotoA])); try simp [-List.reduceReplicate, Nat.add_one_le_iff, -getElem?_pos, -getElem?_neg, bC, sC, stO, h1, h2, zv, hk, hs])
   | (with_reducible refine awp_if_b rfl (fun hc => ?_) (fun hc => ?_) <;> (try simp [-getElem?_pos, -getElem?_neg] at hc) <;> (try (exfalso; omega)))
   | (with_reducible refine And.intro (by omega) ?_)
   | fail)
theorem add_zero (i : Nat) (n : Int) (s : ByteArray) (ob : List Ob) (h1 : ob[i]? = some (stO n (.c (.v (.map none))))) : Den Try.prog 10 [.mp i 0 0, .c (sC s)] ob (fun r ob' => r = .tup [.c (bC false), .c (iC 5)] ∧ ob' = ob) := by
  refine den_of Try.func10 rfl rfl (by simp [Try.ntmps10]) (fun X hX hO => ?_)
  rw [Try.ntmps10] at hX
  simp only [Try.results10]
  have pbn : pbin Try.prog .eql 40 (.map none) (.map none) = none := rfl
  repeat' (first 
   | (with_reducible first | refine awp_scope ?_ | refine awp_seq ?_ | refine awp_block ?_)
   | ((with_reducible first | refine awp_label ?_ | refine awp_skip ?_ | refine awp_exit ?_); try simp only [thenA, inBlockA, noGotoA, if_true, Nat.reduceEqDiff, if_false, ↓reduceIte])
   | ((with_reducible first | refine awp_reg 43 hX [0, 1, 4, 5, 6, 10] ?_ | refine awp_drw 43 hX [0, 1, 4, 5, 6, 10] Tab.mixed (by kernel_rfl) ?_ | refine DEv_cut _ _ _ _ _ _ _ _ _ _ _ _ (by kernel_rfl) ?_ | change postOf _ _ _ _ _); simp [-List.reduceReplicate, Nat.add_one_le_iff, -getElem?_pos, -getElem?_neg, bC, iC, sC, stO, h1, pbn])
   | ((first | (with_reducible refine awp_ret ?_; try simp only [thenA, inBlockA, noGotoA]) | ((with_reducible refine Den.at_ (f := 14) ?_); refine (has_zero i n s _ h1).det ?_) | ((with_reducible refine drawn_at (f := 14) ?_); refine ⟨_, _, has_zero i n s _ h1, fun _ => rfl, ?_⟩)); try simp [-List.reduceReplicate, Nat.add_one_le_iff, -getElem?_pos, -getElem?_neg, bC, iC, sC, stO, h1, pbn])
   | (with_reducible refine awp_if_b rfl (fun hc => ?_) (fun hc => ?_) <;> (try simp [-getElem?_pos, -getElem?_neg] at hc) <;> (try (exfalso; omega)))
   | ((with_reducible first | refine GuardK_b (fun hc => ?_) (fun hc => ?_) | refine DGuard_b _ _ _ _ _ _ _ _ _ _ (fun hc => ?_) (fun hc => ?_)) <;> (try simp only [Bool.not_eq_true', Bool.not_eq_false', decide_eq_true_eq, decide_eq_false_iff_not] at hc) <;> (first | (exfalso; omega) | skip) <;> simp [-List.reduceReplicate, Nat.add_one_le_iff, -getElem?_pos, -getElem?_neg, bC, iC, sC, stO, h1, pbn, hc])
   | (with_reducible refine And.intro (by omega) ?_)
   | fail)
theorem add_in (i j : Nat) (n : Int) (l : List ByteArray) (s : ByteArray) (ob : List Ob) (h1 : ob[i]? = some (stO n (.mm j))) (h2 : ob[j]? = some (oddOb (.map (entS l)))) (hs : s ∈ l) :
    Den Try.prog 10 [.mp i 0 0, .c (sC s)] ob (fun r ob' => r = .tup [.c (bC false), .c (iC 0)] ∧ ob' = ob) := by
  refine den_of Try.func10 rfl rfl (by simp [Try.ntmps10]) (fun X hX hO => ?_)
  rw [Try.ntmps10] at hX
  simp only [Try.results10]
  repeat' (first 
   | (with_reducible first | refine awp_scope ?_ | refine awp_seq ?_ | refine awp_block ?_)
   | ((with_reducible first | refine awp_label ?_ | refine awp_skip ?_ | refine awp_exit ?_); try simp only [thenA, inBlockA, noGotoA, if_true, Nat.reduceEqDiff, if_false, ↓reduceIte])
   | ((with_reducible first | refine awp_reg 43 hX [0, 1, 4, 5, 6, 10] ?_ | refine awp_drw 43 hX [0, 1, 4, 5, 6, 10] Tab.mixed (by kernel_rfl) ?_ | refine DEv_cut _ _ _ _ _ _ _ _ _ _ _ _ (by kernel_rfl) ?_ | change postOf _ _ _ _ _); simp [-List.reduceReplicate, Nat.add_one_le_iff, -getElem?_pos, -getElem?_neg, bC, iC, sC, stO, h1, h2, hs])
   | ((first | (with_reducible refine awp_ret ?_; try simp only [thenA, inBlockA, noGotoA]) | ((with_reducible refine Den.at_ (f := 14) ?_); refine (has_in i j n l s _ h1 h2 hs).det ?_) | ((with_reducible refine drawn_at (f := 14) ?_); refine ⟨_, _, has_in i j n l s _ h1 h2 hs, fun _ => rfl, ?_⟩)); try simp [-List.reduceReplicate, Nat.add_one_le_iff, -getElem?_pos, -getElem?_neg, bC, iC, sC, stO, h1, h2, hs])
   | (with_reducible refine awp_if_b rfl (fun hc => ?_) (fun hc => ?_) <;> (try simp [-getElem?_pos, -getElem?_neg] at hc) <;> (try (exfalso; omega)))
   | ((with_reducible first | refine GuardK_b (fun hc => ?_) (fun hc => ?_) | refine DGuard_b _ _ _ _ _ _ _ _ _ _ (fun hc => ?_) (fun hc => ?_)) <;> (try simp only [Bool.not_eq_true', Bool.not_eq_false', decide_eq_true_eq, decide_eq_false_iff_not] at hc) <;> (first | (exfalso; omega) | skip) <;> simp [-List.reduceReplicate, Nat.add_one_le_iff, -getElem?_pos, -getElem?_neg, bC, iC, sC, stO, h1, h2, hs, hc])
   | (with_reducible refine And.intro (by omega) ?_)
   | fail)
theorem add_full (i j : Nat) (n : Int) (l : List ByteArray) (s : ByteArray) (ob : List Ob) (h1 : ob[i]? = some (stO n (.mm j))) (h2 : ob[j]? = some (oddOb (.map (entS l)))) (hs : s ∉ l) (hn : n ≤ (l.length : Int)) :
    Den Try.prog 10 [.mp i 0 0, .c (sC s)] ob (fun r ob' => r = .tup [.c (bC false), .c (iC 5)] ∧ ob' = ob) := by
  refine den_of Try.func10 rfl rfl (by simp [Try.ntmps10]) (fun X hX hO => ?_)
  rw [Try.ntmps10] at hX
  simp only [Try.results10]
  have hl := entS_len l
  repeat' (first 
   | (with_reducible first | refine awp_scope ?_ | refine awp_seq ?_ | refine awp_block ?_)
   | ((with_reducible first | refine awp_label ?_ | refine awp_skip ?_ | refine awp_exit ?_); try simp only [thenA, inBlockA, noGotoA, if_true, Nat.reduceEqDiff, if_false, ↓reduceIte])
   | ((with_reducible first | refine awp_reg 43 hX [0, 1, 4, 5, 6, 10] ?_ | refine awp_drw 43 hX [0, 1, 4, 5, 6, 10] Tab.mixed (by kernel_rfl) ?_ | refine DEv_cut _ _ _ _ _ _ _ _ _ _ _ _ (by kernel_rfl) ?_ | change postOf _ _ _ _ _); simp [-List.reduceReplicate, Nat.add_one_le_iff, -getElem?_pos, -getElem?_neg, bC, iC, sC, stO, h1, h2, hs, hl, hn])
   | ((first | (with_reducible refine awp_ret ?_; try simp only [thenA, inBlockA, noGotoA]) | ((with_reducible refine Den.at_ (f := 14) ?_); refine (has_out i j n l s _ h1 h2 hs).det ?_) | ((with_reducible refine drawn_at (f := 14) ?_); refine ⟨_, _, has_out i j n l s _ h1 h2 hs, fun _ => rfl, ?_⟩)); try simp [-List.reduceReplicate, Nat.add_one_le_iff, -getElem?_pos, -getElem?_neg, bC, iC, sC, stO, h1, h2, hs, hl, hn])
   | (with_reducible refine awp_if_b rfl (fun hc => ?_) (fun hc => ?_) <;> (try simp [-getElem?_pos, -getElem?_neg] at hc) <;> (try (exfalso; omega)))
   | ((with_reducible first | refine GuardK_b (fun hc => ?_) (fun hc => ?_) | refine DGuard_b _ _ _ _ _ _ _ _ _ _ (fun hc => ?_) (fun hc => ?_)) <;> (try simp only [Bool.not_eq_true', Bool.not_eq_false', decide_eq_true_eq, decide_eq_false_iff_not] at hc) <;> (first | (exfalso; omega) | skip) <;> simp [-List.reduceReplicate, Nat.add_one_le_iff, -getElem?_pos, -getElem?_neg, bC, iC, sC, stO, h1, h2, hs, hl, hn, hc])
   | (with_reducible refine And.intro (by omega) ?_)
   | fail)
theorem add_new (i j : Nat) (n : Int) (l : List ByteArray) (s : ByteArray) (ob : List Ob) (hs8 : s.size ≤ 281474976710656) (h1 : ob[i]? = some (stO n (.mm j))) (h2 : ob[j]? = some (oddOb (.map (entS l)))) (hs : s ∉ l) (hn : ¬ n ≤ (l.length : Int)) :
    Den Try.prog 10 [.mp i 0 0, .c (sC s)] ob (fun r ob' => r = .tup [.c (bC true), .c (iC 0)] ∧ ob' = ob.set j (oddOb (.map (entS (l ++ [s]))))) := by
  refine den_of Try.func10 rfl rfl (by simp [Try.ntmps10]) (fun X hX hO => ?_)
  rw [Try.ntmps10] at hX
  simp only [Try.results10]
  have hl := entS_len l
  have hp := putE_new l s hs
  have ch := has_out i j n l s ob h1 h2 hs
  have cc := clone_den s hs8
  generalize entS (l ++ [s]) = es2 at *
  generalize entS l = es at *
  simp only [iC] at hp
  repeat' (first 
   | (with_reducible first | refine awp_scope ?_ | refine awp_seq ?_ | refine awp_block ?_)
   | ((with_reducible first | refine awp_label ?_ | refine awp_skip ?_ | refine awp_exit ?_); try simp only [thenA, inBlockA, noGotoA, if_true, Nat.reduceEqDiff, if_false, ↓reduceIte])
   | ((with_reducible first | refine awp_reg 43 hX [0, 1, 4, 5, 6, 10] ?_ | refine awp_drw 43 hX [0, 1, 4, 5, 6, 10] Tab.mixed (by kernel_rfl) ?_ | refine DEv_cut _ _ _ _ _ _ _ _ _ _ _ _ (by kernel_rfl) ?_ | change postOf _ _ _ _ _); simp [-List.reduceReplicate, Nat.add_one_le_iff, -getElem?_pos, -getElem?_neg, bC, iC, sC, stO, h1, h2, hs, hl, hn, hp])
   | ((first | (with_reducible refine awp_ret ?_; try simp only [thenA, inBlockA, noGotoA]) | (refine (ch).det ?_) | (refine ⟨_, _, ch, fun _ => rfl, ?_⟩) | (refine (cc _).det ?_) | (refine ⟨_, _, cc _, fun _ => rfl, ?_⟩)); try simp [-List.reduceReplicate, Nat.add_one_le_iff, -getElem?_pos, -getElem?_neg, bC, iC, sC, stO, h1, h2, hs, hl, hn, hp])
   | (with_reducible refine awp_if_b rfl (fun hc => ?_) (fun hc => ?_) <;> (try simp [-getElem?_pos, -getElem?_neg] at hc) <;> (try (exfalso; omega)))
   | ((with_reducible first | refine GuardK_b (fun hc => ?_) (fun hc => ?_) | refine DGuard_b _ _ _ _ _ _ _ _ _ _ (fun hc => ?_) (fun hc => ?_)) <;> (try simp only [Bool.not_eq_true', Bool.not_eq_false', decide_eq_true_eq, decide_eq_false_iff_not] at hc) <;> (first | (exfalso; omega) | skip) <;> simp [-List.reduceReplicate, Nat.add_one_le_iff, -getElem?_pos, -getElem?_neg, bC, iC, sC, stO, h1, h2, hs, hl, hn, hp, hc])
   | (with_reducible refine And.intro (by omega) ?_)
   | fail)
end Go.Av
