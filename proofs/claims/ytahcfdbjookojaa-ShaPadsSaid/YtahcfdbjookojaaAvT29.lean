import Derived.Test.YtahcfdbjookojaaAvT28
import Derived.Test.YtahcfdbjookojaaAvTO
set_option linter.unusedVariables false
set_option linter.unusedSimpArgs false
set_option maxRecDepth 100000
set_option maxHeartbeats 4000000
namespace Go.Av
open Go Go.Proofs Go.Proofs.Ytahcfdbjookojaa Go.RowKit
def holdsT (o : Ob) (t : ByteArray) : Prop := (o = st0 ∧ t = ⟨#[]⟩) ∨ o = stT t
theorem writeH_den (pre suf : List Ob) (o : Ob) (t b : ByteArray) (h : holdsT o t) (ht : t.size + b.size ≤ 1000000) :
    Den Try.prog 31 [.mp pre.length 0 0, .c (.v (.string b))] (pre ++ o :: suf) (fun r ob' => r = .tup [] ∧ ob' = pre ++ stT (t ++ b) :: suf) := by
  rcases h with ⟨rfl, rfl⟩ | rfl
  · rw [empty_app]
    exact write0_den pre suf b (by omega)
  · exact writeT_den pre suf t b ht
theorem sumH_den (ob : List Ob) (p : Nat) (o : Ob) (t : ByteArray) (h : holdsT o t) (hget : ob[p]? = some o) (ht : t.size ≤ 800000) :
    Den Try.prog 33 [.mp p 0 0] ob (fun r ob' => r = hashM (shaL t) ∧ ob' = ob) := by
  rcases h with ⟨rfl, rfl⟩ | rfl
  · exact sum0_den ob p hget
  · exact sumT_den ob p t hget ht
theorem lenT_den (ob : List Ob) (p : Nat) (t : ByteArray) (hget : ob[p]? = some (stT t)) : Den Try.prog 32 [.mp p 0 0] ob (fun r ob' => r = .c (u64C t.size) ∧ ob' = ob) :=
  stateLen_den ob p _ _ _ _ hget
def catTo (l : List ByteArray) : Nat → ByteArray
  | 0 => ⟨#[]⟩
  | i + 1 => catTo l i ++ l.getD i ⟨#[]⟩
theorem shaWrites_den (l : List ByteArray) (hml : ∀ s ∈ l, s.size ≤ maxLen) (ob : List Ob) : Den Try.prog 8 [.c (strC l)] ob (fun r ob' => r = .c (bC true) ∧ ob' = ob) := by
  refine Den.frame rfl rfl ?_ ob
  refine den_of Try.func8 rfl rfl (by simp [Try.ntmps8]) (fun X hX hO => ?_)
  rw [Try.ntmps8] at hX
  simp only [Try.results8]
  have hn := stateNew_den []
  change Den Try.prog _ _ _ (fun r ob' => r = _ ∧ ob' = _ ++ [st0]) at hn
  simp at hn
  repeat' (first 
    | with_reducible refine awp_scope ?_
    | with_reducible refine awp_seq ?_
    | with_reducible refine awp_block ?_
    | (with_reducible refine awp_label ?_; try simp only [thenA, inBlockA, noGotoA])
    | (with_reducible refine awp_skip ?_; try simp only [thenA, inBlockA, noGotoA])
    | (with_reducible refine awp_exit ?_; simp only [thenA, inBlockA, noGotoA, if_true, Nat.reduceEqDiff, if_false, ↓reduceIte])
    | (with_reducible refine awp_ret ?_; (try simp only [thenA, inBlockA, noGotoA]); (try simp [-List.reduceReplicate, Nat.add_one_le_iff, -getElem?_pos, -getElem?_neg, List.getElem?_cons_zero, List.getElem?_cons_succ, strC, bC]))
    | (with_reducible refine awp_reg 60 hX [0, 2, 3, 4, 5, 14, 25, 51] ?_; simp [-List.reduceReplicate, Nat.add_one_le_iff, -getElem?_pos, -getElem?_neg, List.getElem?_cons_zero, List.getElem?_cons_succ, strC, bC])
    | (with_reducible refine awp_drw 60 hX [0, 2, 3, 4, 5, 14, 25, 51] Tab.mixed (by kernel_rfl) ?_; simp [-List.reduceReplicate, Nat.add_one_le_iff, -getElem?_pos, -getElem?_neg, List.getElem?_cons_zero, List.getElem?_cons_succ, strC, bC])
    | (refine (hn).det ?_; try simp [-List.reduceReplicate, Nat.add_one_le_iff, -getElem?_pos, -getElem?_neg, List.getElem?_cons_zero, List.getElem?_cons_succ, strC, bC])
    | (refine ⟨_, _, hn, fun _ => rfl, ?_⟩; try simp [-List.reduceReplicate, Nat.add_one_le_iff, -getElem?_pos, -getElem?_neg, List.getElem?_cons_zero, List.getElem?_cons_succ, strC, bC])
    | (with_reducible refine awp_if_b rfl (fun hc => ?_) (fun hc => ?_) <;> (try simp [-getElem?_pos, -getElem?_neg] at hc) <;> (try (exfalso; omega)))
    | (with_reducible refine GuardK_b (fun hc => ?_) (fun hc => ?_) <;> (try simp only [Bool.not_eq_true', Bool.not_eq_false', decide_eq_true_eq, decide_eq_false_iff_not] at hc) <;> (first | (exfalso; omega) | skip) <;> simp [-List.reduceReplicate, Nat.add_one_le_iff, -getElem?_pos, -getElem?_neg, List.getElem?_cons_zero, List.getElem?_cons_succ, strC, bC, hc])
    | (with_reducible refine DGuard_b _ _ _ _ _ _ _ _ _ _ (fun hc => ?_) (fun hc => ?_) <;> (try simp only [Bool.not_eq_true', Bool.not_eq_false', decide_eq_true_eq, decide_eq_false_iff_not] at hc) <;> (first | (exfalso; omega) | skip) <;> simp [-List.reduceReplicate, Nat.add_one_le_iff, -getElem?_pos, -getElem?_neg, List.getElem?_cons_zero, List.getElem?_cons_succ, strC, bC, hc])
    | (with_reducible refine DEv_cut _ _ _ _ _ _ _ _ _ _ _ _ (by kernel_rfl) ?_; simp [-List.reduceReplicate, Nat.add_one_le_iff, -getElem?_pos, -getElem?_neg, List.getElem?_cons_zero, List.getElem?_cons_succ, strC, bC])
    | ((with_reducible refine hother _ _ rfl ?_); simp only [inBlockA, thenA, noGotoA, Nat.reduceEqDiff, if_false, if_true, ↓reduceIte])
    | ((with_reducible refine hother2 _ _ rfl ?_); simp only [inBlockA, thenA, noGotoA, Nat.reduceEqDiff, if_false, if_true, ↓reduceIte])
    | ((with_reducible refine hother3 _ _ rfl ?_); simp only [inBlockA, thenA, noGotoA, Nat.reduceEqDiff, if_false, if_true, ↓reduceIte])
    | (with_reducible refine And.intro (by omega) ?_)
    | (with_reducible change postOf _ _ _ _ _; simp [-List.reduceReplicate, Nat.add_one_le_iff, -getElem?_pos, -getElem?_neg, List.getElem?_cons_zero, List.getElem?_cons_succ, strC, bC])
    | fail)
  refine awp_forU [0, 3, 4, 5] (fun i (o : Ob) => [(3, .c (.v (.string (catTo l i)))), (5, .c (iC i))]) (fun i (o : Ob) => [o]) (fun i (o : Ob) => (holdsT o (catTo l i) ∧ (catTo l i).size ≤ 3000)) (min l.length 60) (st0) (⟨.inl ⟨rfl, rfl⟩, Nat.zero_le _⟩) (by simp [-List.reduceReplicate, keep, iC, catTo]) (by simp [-List.reduceReplicate, iC, catTo]) ?_
  rintro i o Q1 hi hH next hother
  conv => arg 5; arg 1; simp only [List.cons_append, List.nil_append, keep, get, Nat.reduceEqDiff, if_true, if_false, ↓reduceIte]
  obtain ⟨hH, hsz⟩ := hH
  have hwi := wrap_in ((i : Int) + 1) (by omega)
  have hcat : catTo l (i + 1) = catTo l i ++ l.getD i ⟨#[]⟩ := rfl
  by_cases hlt : i < min l.length 60
  · obtain ⟨b, hb⟩ := getI l (i : Nat) (by omega) (by omega)
    simp only [Int.toNat_natCast] at hb
    have hbm := hml b (List.mem_of_getElem? hb)
    unfold maxLen at hbm
    have hbd : l.getD i ⟨#[]⟩ = b := by rw [List.getD_eq_getElem?_getD, hb]; rfl
    rw [hbd] at hcat
    have c1 : i < l.length := by omega
    have c2 : (i : Int) < 60 := by omega
    have w1 := wrap_in (3000 - ((catTo l i).size : Int)) (by omega)
    generalize catTo l i = t at *
    by_cases hgt : 3000 - (t.size : Int) < b.size
    · repeat' (first 
        | with_reducible refine awp_scope ?_
        | with_reducible refine awp_seq ?_
        | with_reducible refine awp_block ?_
        | (with_reducible refine awp_label ?_; try simp only [thenA, inBlockA, noGotoA])
        | (with_reducible refine awp_skip ?_; try simp only [thenA, inBlockA, noGotoA])
        | (with_reducible refine awp_exit ?_; simp only [thenA, inBlockA, noGotoA, if_true, Nat.reduceEqDiff, if_false, ↓reduceIte])
        | (with_reducible refine awp_ret ?_; (try simp only [thenA, inBlockA, noGotoA]); (try simp [-List.reduceReplicate, Nat.add_one_le_iff, -getElem?_pos, -getElem?_neg, List.getElem?_cons_zero, List.getElem?_cons_succ, strC, bC, iC, c1, c2, hb, w1, hgt]))
        | (with_reducible refine awp_reg 60 hX [0, 2, 3, 4, 5, 14, 25, 51] ?_; simp [-List.reduceReplicate, Nat.add_one_le_iff, -getElem?_pos, -getElem?_neg, List.getElem?_cons_zero, List.getElem?_cons_succ, strC, bC, iC, c1, c2, hb, w1, hgt])
        | (with_reducible refine awp_drw 60 hX [0, 2, 3, 4, 5, 14, 25, 51] Tab.mixed (by kernel_rfl) ?_; simp [-List.reduceReplicate, Nat.add_one_le_iff, -getElem?_pos, -getElem?_neg, List.getElem?_cons_zero, List.getElem?_cons_succ, strC, bC, iC, c1, c2, hb, w1, hgt])
        | ((with_reducible refine Den.at_ (f := 21) ?_); refine (awake02_den _).det ?_; try simp [-List.reduceReplicate, Nat.add_one_le_iff, -getElem?_pos, -getElem?_neg, List.getElem?_cons_zero, List.getElem?_cons_succ, strC, bC, iC, c1, c2, hb, w1, hgt])
        | ((with_reducible refine drawn_at (f := 21) ?_); refine ⟨_, _, awake02_den _, fun _ => rfl, ?_⟩; try simp [-List.reduceReplicate, Nat.add_one_le_iff, -getElem?_pos, -getElem?_neg, List.getElem?_cons_zero, List.getElem?_cons_succ, strC, bC, iC, c1, c2, hb, w1, hgt])
        | (with_reducible refine awp_if_b rfl (fun hc => ?_) (fun hc => ?_) <;> (try simp [-getElem?_pos, -getElem?_neg] at hc) <;> (try (exfalso; omega)))
        | (with_reducible refine GuardK_b (fun hc => ?_) (fun hc => ?_) <;> (try simp only [Bool.not_eq_true', Bool.not_eq_false', decide_eq_true_eq, decide_eq_false_iff_not] at hc) <;> (first | (exfalso; omega) | skip) <;> simp [-List.reduceReplicate, Nat.add_one_le_iff, -getElem?_pos, -getElem?_neg, List.getElem?_cons_zero, List.getElem?_cons_succ, strC, bC, iC, c1, c2, hb, w1, hgt, hc])
        | (with_reducible refine DGuard_b _ _ _ _ _ _ _ _ _ _ (fun hc => ?_) (fun hc => ?_) <;> (try simp only [Bool.not_eq_true', Bool.not_eq_false', decide_eq_true_eq, decide_eq_false_iff_not] at hc) <;> (first | (exfalso; omega) | skip) <;> simp [-List.reduceReplicate, Nat.add_one_le_iff, -getElem?_pos, -getElem?_neg, List.getElem?_cons_zero, List.getElem?_cons_succ, strC, bC, iC, c1, c2, hb, w1, hgt, hc])
        | (with_reducible refine DEv_cut _ _ _ _ _ _ _ _ _ _ _ _ (by kernel_rfl) ?_; simp [-List.reduceReplicate, Nat.add_one_le_iff, -getElem?_pos, -getElem?_neg, List.getElem?_cons_zero, List.getElem?_cons_succ, strC, bC, iC, c1, c2, hb, w1, hgt])
        | ((with_reducible refine hother _ _ rfl ?_); simp only [inBlockA, thenA, noGotoA, Nat.reduceEqDiff, if_false, if_true, ↓reduceIte])
        | ((with_reducible refine hother2 _ _ rfl ?_); simp only [inBlockA, thenA, noGotoA, Nat.reduceEqDiff, if_false, if_true, ↓reduceIte])
        | ((with_reducible refine hother3 _ _ rfl ?_); simp only [inBlockA, thenA, noGotoA, Nat.reduceEqDiff, if_false, if_true, ↓reduceIte])
        | (with_reducible refine And.intro (by omega) ?_)
        | (with_reducible change postOf _ _ _ _ _; simp [-List.reduceReplicate, Nat.add_one_le_iff, -getElem?_pos, -getElem?_neg, List.getElem?_cons_zero, List.getElem?_cons_succ, strC, bC, iC, c1, c2, hb, w1, hgt])
        | fail)
    · have hts : (t ++ b).size = t.size + b.size := ByteArray.size_append
      have w2 : IntKind.u64.wrap ((t.size : Int) + (b.size : Int)) = (t.size : Int) + (b.size : Int) := wrapU64 _ (by omega)
      have c3 : t.size + b.size ≤ 9223372036854775807 := by omega
      have hl := shaL_len (t ++ b)
      have he := eq_hash1 _ hl
      have W := writeH_den [] [] o t b hH (by omega)
      have L := lenT_den [stT (t ++ b)] 0 (t ++ b) rfl
      have S := sumT_den [stT (t ++ b)] 0 (t ++ b) rfl (by omega)
      have R := sha02_den (t ++ b) (by omega)
      generalize hx : shaL (t ++ b) = x at *
      repeat' (first 
        | with_reducible refine awp_scope ?_
        | with_reducible refine awp_seq ?_
        | with_reducible refine awp_block ?_
        | (with_reducible refine awp_label ?_; try simp only [thenA, inBlockA, noGotoA])
        | (with_reducible refine awp_skip ?_; try simp only [thenA, inBlockA, noGotoA])
        | (with_reducible refine awp_exit ?_; simp only [thenA, inBlockA, noGotoA, if_true, Nat.reduceEqDiff, if_false, ↓reduceIte])
        | (with_reducible refine awp_ret ?_; (try simp only [thenA, inBlockA, noGotoA]); (try simp [-List.reduceReplicate, Nat.add_one_le_iff, -getElem?_pos, -getElem?_neg, List.getElem?_cons_zero, List.getElem?_cons_succ, strC, bC, iC, c1, c2, hb, w1, w2, hgt, hwi, c3, hashM, he, u64C, hts]))
        | (with_reducible refine awp_reg 60 hX [0, 2, 3, 4, 5, 14, 25, 51] ?_; simp [-List.reduceReplicate, Nat.add_one_le_iff, -getElem?_pos, -getElem?_neg, List.getElem?_cons_zero, List.getElem?_cons_succ, strC, bC, iC, c1, c2, hb, w1, w2, hgt, hwi, c3, hashM, he, u64C, hts])
        | (with_reducible refine awp_drw 60 hX [0, 2, 3, 4, 5, 14, 25, 51] Tab.mixed (by kernel_rfl) ?_; simp [-List.reduceReplicate, Nat.add_one_le_iff, -getElem?_pos, -getElem?_neg, List.getElem?_cons_zero, List.getElem?_cons_succ, strC, bC, iC, c1, c2, hb, w1, w2, hgt, hwi, c3, hashM, he, u64C, hts])
        | (refine (W).det ?_; try simp [-List.reduceReplicate, Nat.add_one_le_iff, -getElem?_pos, -getElem?_neg, List.getElem?_cons_zero, List.getElem?_cons_succ, strC, bC, iC, c1, c2, hb, w1, w2, hgt, hwi, c3, hashM, he, u64C, hts])
        | (refine ⟨_, _, W, fun _ => rfl, ?_⟩; try simp [-List.reduceReplicate, Nat.add_one_le_iff, -getElem?_pos, -getElem?_neg, List.getElem?_cons_zero, List.getElem?_cons_succ, strC, bC, iC, c1, c2, hb, w1, w2, hgt, hwi, c3, hashM, he, u64C, hts])
        | (refine (L).det ?_; try simp [-List.reduceReplicate, Nat.add_one_le_iff, -getElem?_pos, -getElem?_neg, List.getElem?_cons_zero, List.getElem?_cons_succ, strC, bC, iC, c1, c2, hb, w1, w2, hgt, hwi, c3, hashM, he, u64C, hts])
        | (refine ⟨_, _, L, fun _ => rfl, ?_⟩; try simp [-List.reduceReplicate, Nat.add_one_le_iff, -getElem?_pos, -getElem?_neg, List.getElem?_cons_zero, List.getElem?_cons_succ, strC, bC, iC, c1, c2, hb, w1, w2, hgt, hwi, c3, hashM, he, u64C, hts])
        | (refine (S).det ?_; try simp [-List.reduceReplicate, Nat.add_one_le_iff, -getElem?_pos, -getElem?_neg, List.getElem?_cons_zero, List.getElem?_cons_succ, strC, bC, iC, c1, c2, hb, w1, w2, hgt, hwi, c3, hashM, he, u64C, hts])
        | (refine ⟨_, _, S, fun _ => rfl, ?_⟩; try simp [-List.reduceReplicate, Nat.add_one_le_iff, -getElem?_pos, -getElem?_neg, List.getElem?_cons_zero, List.getElem?_cons_succ, strC, bC, iC, c1, c2, hb, w1, w2, hgt, hwi, c3, hashM, he, u64C, hts])
        | (refine (R _).det ?_; try simp [-List.reduceReplicate, Nat.add_one_le_iff, -getElem?_pos, -getElem?_neg, List.getElem?_cons_zero, List.getElem?_cons_succ, strC, bC, iC, c1, c2, hb, w1, w2, hgt, hwi, c3, hashM, he, u64C, hts])
        | (refine ⟨_, _, R _, fun _ => rfl, ?_⟩; try simp [-List.reduceReplicate, Nat.add_one_le_iff, -getElem?_pos, -getElem?_neg, List.getElem?_cons_zero, List.getElem?_cons_succ, strC, bC, iC, c1, c2, hb, w1, w2, hgt, hwi, c3, hashM, he, u64C, hts])
        | (with_reducible refine awp_if_b rfl (fun hc => ?_) (fun hc => ?_) <;> (try simp [-getElem?_pos, -getElem?_neg] at hc) <;> (try (exfalso; omega)))
        | (with_reducible refine GuardK_b (fun hc => ?_) (fun hc => ?_) <;> (try simp only [Bool.not_eq_true', Bool.not_eq_false', decide_eq_true_eq, decide_eq_false_iff_not] at hc) <;> (first | (exfalso; omega) | skip) <;> simp [-List.reduceReplicate, Nat.add_one_le_iff, -getElem?_pos, -getElem?_neg, List.getElem?_cons_zero, List.getElem?_cons_succ, strC, bC, iC, c1, c2, hb, w1, w2, hgt, hwi, c3, hashM, he, u64C, hts, hc])
        | (with_reducible refine DGuard_b _ _ _ _ _ _ _ _ _ _ (fun hc => ?_) (fun hc => ?_) <;> (try simp only [Bool.not_eq_true', Bool.not_eq_false', decide_eq_true_eq, decide_eq_false_iff_not] at hc) <;> (first | (exfalso; omega) | skip) <;> simp [-List.reduceReplicate, Nat.add_one_le_iff, -getElem?_pos, -getElem?_neg, List.getElem?_cons_zero, List.getElem?_cons_succ, strC, bC, iC, c1, c2, hb, w1, w2, hgt, hwi, c3, hashM, he, u64C, hts, hc])
        | (with_reducible refine DEv_cut _ _ _ _ _ _ _ _ _ _ _ _ (by kernel_rfl) ?_; simp [-List.reduceReplicate, Nat.add_one_le_iff, -getElem?_pos, -getElem?_neg, List.getElem?_cons_zero, List.getElem?_cons_succ, strC, bC, iC, c1, c2, hb, w1, w2, hgt, hwi, c3, hashM, he, u64C, hts])
        | ((with_reducible refine hother _ _ rfl ?_); simp only [inBlockA, thenA, noGotoA, Nat.reduceEqDiff, if_false, if_true, ↓reduceIte])
        | ((with_reducible refine hother2 _ _ rfl ?_); simp only [inBlockA, thenA, noGotoA, Nat.reduceEqDiff, if_false, if_true, ↓reduceIte])
        | ((with_reducible refine hother3 _ _ rfl ?_); simp only [inBlockA, thenA, noGotoA, Nat.reduceEqDiff, if_false, if_true, ↓reduceIte])
        | (with_reducible refine And.intro (by omega) ?_)
        | (with_reducible change postOf _ _ _ _ _; simp [-List.reduceReplicate, Nat.add_one_le_iff, -getElem?_pos, -getElem?_neg, List.getElem?_cons_zero, List.getElem?_cons_succ, strC, bC, iC, c1, c2, hb, w1, w2, hgt, hwi, c3, hashM, he, u64C, hts])
        | fail)
      exact next _ _ (stT (t ++ b)) hlt ⟨.inr (by rw [hcat]), by rw [hcat]; omega⟩ (by rw [hcat]; simp [keep, iC]) rfl
  · have hi : i = min l.length 60 := by omega
    have R := sha02_den (catTo l i) (by omega)
    have S := sumH_den [o] 0 o (catTo l i) hH rfl (by omega)
    have hl := shaL_len (catTo l i)
    have he := eq_hash1 _ hl
    generalize shaL (catTo l i) = x at *
    by_cases c1 : i < l.length
    · have c2 : ¬ (i : Int) < 60 := by omega
      repeat' (first 
        | with_reducible refine awp_scope ?_
        | with_reducible refine awp_seq ?_
        | with_reducible refine awp_block ?_
        | (with_reducible refine awp_label ?_; try simp only [thenA, inBlockA, noGotoA])
        | (with_reducible refine awp_skip ?_; try simp only [thenA, inBlockA, noGotoA])
        | (with_reducible refine awp_exit ?_; simp only [thenA, inBlockA, noGotoA, if_true, Nat.reduceEqDiff, if_false, ↓reduceIte])
        | (with_reducible refine awp_ret ?_; (try simp only [thenA, inBlockA, noGotoA]); (try simp [-List.reduceReplicate, Nat.add_one_le_iff, -getElem?_pos, -getElem?_neg, List.getElem?_cons_zero, List.getElem?_cons_succ, strC, bC, iC, c1, c2, hashM, he]))
        | (with_reducible refine awp_reg 60 hX [0, 2, 3, 4, 5, 14, 25, 51] ?_; simp [-List.reduceReplicate, Nat.add_one_le_iff, -getElem?_pos, -getElem?_neg, List.getElem?_cons_zero, List.getElem?_cons_succ, strC, bC, iC, c1, c2, hashM, he])
        | (with_reducible refine awp_drw 60 hX [0, 2, 3, 4, 5, 14, 25, 51] Tab.mixed (by kernel_rfl) ?_; simp [-List.reduceReplicate, Nat.add_one_le_iff, -getElem?_pos, -getElem?_neg, List.getElem?_cons_zero, List.getElem?_cons_succ, strC, bC, iC, c1, c2, hashM, he])
        | (refine (S).det ?_; try simp [-List.reduceReplicate, Nat.add_one_le_iff, -getElem?_pos, -getElem?_neg, List.getElem?_cons_zero, List.getElem?_cons_succ, strC, bC, iC, c1, c2, hashM, he])
        | (refine ⟨_, _, S, fun _ => rfl, ?_⟩; try simp [-List.reduceReplicate, Nat.add_one_le_iff, -getElem?_pos, -getElem?_neg, List.getElem?_cons_zero, List.getElem?_cons_succ, strC, bC, iC, c1, c2, hashM, he])
        | (refine (R _).det ?_; try simp [-List.reduceReplicate, Nat.add_one_le_iff, -getElem?_pos, -getElem?_neg, List.getElem?_cons_zero, List.getElem?_cons_succ, strC, bC, iC, c1, c2, hashM, he])
        | (refine ⟨_, _, R _, fun _ => rfl, ?_⟩; try simp [-List.reduceReplicate, Nat.add_one_le_iff, -getElem?_pos, -getElem?_neg, List.getElem?_cons_zero, List.getElem?_cons_succ, strC, bC, iC, c1, c2, hashM, he])
        | ((with_reducible refine Den.at_ (f := 21) ?_); refine (awake02_den _).det ?_; try simp [-List.reduceReplicate, Nat.add_one_le_iff, -getElem?_pos, -getElem?_neg, List.getElem?_cons_zero, List.getElem?_cons_succ, strC, bC, iC, c1, c2, hashM, he])
        | ((with_reducible refine drawn_at (f := 21) ?_); refine ⟨_, _, awake02_den _, fun _ => rfl, ?_⟩; try simp [-List.reduceReplicate, Nat.add_one_le_iff, -getElem?_pos, -getElem?_neg, List.getElem?_cons_zero, List.getElem?_cons_succ, strC, bC, iC, c1, c2, hashM, he])
        | (with_reducible refine awp_if_b rfl (fun hc => ?_) (fun hc => ?_) <;> (try simp [-getElem?_pos, -getElem?_neg] at hc) <;> (try (exfalso; omega)))
        | (with_reducible refine GuardK_b (fun hc => ?_) (fun hc => ?_) <;> (try simp only [Bool.not_eq_true', Bool.not_eq_false', decide_eq_true_eq, decide_eq_false_iff_not] at hc) <;> (first | (exfalso; omega) | skip) <;> simp [-List.reduceReplicate, Nat.add_one_le_iff, -getElem?_pos, -getElem?_neg, List.getElem?_cons_zero, List.getElem?_cons_succ, strC, bC, iC, c1, c2, hashM, he, hc])
        | (with_reducible refine DGuard_b _ _ _ _ _ _ _ _ _ _ (fun hc => ?_) (fun hc => ?_) <;> (try simp only [Bool.not_eq_true', Bool.not_eq_false', decide_eq_true_eq, decide_eq_false_iff_not] at hc) <;> (first | (exfalso; omega) | skip) <;> simp [-List.reduceReplicate, Nat.add_one_le_iff, -getElem?_pos, -getElem?_neg, List.getElem?_cons_zero, List.getElem?_cons_succ, strC, bC, iC, c1, c2, hashM, he, hc])
        | (with_reducible refine DEv_cut _ _ _ _ _ _ _ _ _ _ _ _ (by kernel_rfl) ?_; simp [-List.reduceReplicate, Nat.add_one_le_iff, -getElem?_pos, -getElem?_neg, List.getElem?_cons_zero, List.getElem?_cons_succ, strC, bC, iC, c1, c2, hashM, he])
        | ((with_reducible refine hother _ _ rfl ?_); simp only [inBlockA, thenA, noGotoA, Nat.reduceEqDiff, if_false, if_true, ↓reduceIte])
        | ((with_reducible refine hother2 _ _ rfl ?_); simp only [inBlockA, thenA, noGotoA, Nat.reduceEqDiff, if_false, if_true, ↓reduceIte])
        | ((with_reducible refine hother3 _ _ rfl ?_); simp only [inBlockA, thenA, noGotoA, Nat.reduceEqDiff, if_false, if_true, ↓reduceIte])
        | (with_reducible refine And.intro (by omega) ?_)
        | (with_reducible change postOf _ _ _ _ _; simp [-List.reduceReplicate, Nat.add_one_le_iff, -getElem?_pos, -getElem?_neg, List.getElem?_cons_zero, List.getElem?_cons_succ, strC, bC, iC, c1, c2, hashM, he])
        | fail)
    · repeat' (first 
        | with_reducible refine awp_scope ?_
        | with_reducible refine awp_seq ?_
        | with_reducible refine awp_block ?_
        | (with_reducible refine awp_label ?_; try simp only [thenA, inBlockA, noGotoA])
        | (with_reducible refine awp_skip ?_; try simp only [thenA, inBlockA, noGotoA])
        | (with_reducible refine awp_exit ?_; simp only [thenA, inBlockA, noGotoA, if_true, Nat.reduceEqDiff, if_false, ↓reduceIte])
        | (with_reducible refine awp_ret ?_; (try simp only [thenA, inBlockA, noGotoA]); (try simp [-List.reduceReplicate, Nat.add_one_le_iff, -getElem?_pos, -getElem?_neg, List.getElem?_cons_zero, List.getElem?_cons_succ, strC, bC, iC, c1, hashM, he]))
        | (with_reducible refine awp_reg 60 hX [0, 2, 3, 4, 5, 14, 25, 51] ?_; simp [-List.reduceReplicate, Nat.add_one_le_iff, -getElem?_pos, -getElem?_neg, List.getElem?_cons_zero, List.getElem?_cons_succ, strC, bC, iC, c1, hashM, he])
        | (with_reducible refine awp_drw 60 hX [0, 2, 3, 4, 5, 14, 25, 51] Tab.mixed (by kernel_rfl) ?_; simp [-List.reduceReplicate, Nat.add_one_le_iff, -getElem?_pos, -getElem?_neg, List.getElem?_cons_zero, List.getElem?_cons_succ, strC, bC, iC, c1, hashM, he])
        | (refine (S).det ?_; try simp [-List.reduceReplicate, Nat.add_one_le_iff, -getElem?_pos, -getElem?_neg, List.getElem?_cons_zero, List.getElem?_cons_succ, strC, bC, iC, c1, hashM, he])
        | (refine ⟨_, _, S, fun _ => rfl, ?_⟩; try simp [-List.reduceReplicate, Nat.add_one_le_iff, -getElem?_pos, -getElem?_neg, List.getElem?_cons_zero, List.getElem?_cons_succ, strC, bC, iC, c1, hashM, he])
        | (refine (R _).det ?_; try simp [-List.reduceReplicate, Nat.add_one_le_iff, -getElem?_pos, -getElem?_neg, List.getElem?_cons_zero, List.getElem?_cons_succ, strC, bC, iC, c1, hashM, he])
        | (refine ⟨_, _, R _, fun _ => rfl, ?_⟩; try simp [-List.reduceReplicate, Nat.add_one_le_iff, -getElem?_pos, -getElem?_neg, List.getElem?_cons_zero, List.getElem?_cons_succ, strC, bC, iC, c1, hashM, he])
        | ((with_reducible refine Den.at_ (f := 21) ?_); refine (awake02_den _).det ?_; try simp [-List.reduceReplicate, Nat.add_one_le_iff, -getElem?_pos, -getElem?_neg, List.getElem?_cons_zero, List.getElem?_cons_succ, strC, bC, iC, c1, hashM, he])
        | ((with_reducible refine drawn_at (f := 21) ?_); refine ⟨_, _, awake02_den _, fun _ => rfl, ?_⟩; try simp [-List.reduceReplicate, Nat.add_one_le_iff, -getElem?_pos, -getElem?_neg, List.getElem?_cons_zero, List.getElem?_cons_succ, strC, bC, iC, c1, hashM, he])
        | (with_reducible refine awp_if_b rfl (fun hc => ?_) (fun hc => ?_) <;> (try simp [-getElem?_pos, -getElem?_neg] at hc) <;> (try (exfalso; omega)))
        | (with_reducible refine GuardK_b (fun hc => ?_) (fun hc => ?_) <;> (try simp only [Bool.not_eq_true', Bool.not_eq_false', decide_eq_true_eq, decide_eq_false_iff_not] at hc) <;> (first | (exfalso; omega) | skip) <;> simp [-List.reduceReplicate, Nat.add_one_le_iff, -getElem?_pos, -getElem?_neg, List.getElem?_cons_zero, List.getElem?_cons_succ, strC, bC, iC, c1, hashM, he, hc])
        | (with_reducible refine DGuard_b _ _ _ _ _ _ _ _ _ _ (fun hc => ?_) (fun hc => ?_) <;> (try simp only [Bool.not_eq_true', Bool.not_eq_false', decide_eq_true_eq, decide_eq_false_iff_not] at hc) <;> (first | (exfalso; omega) | skip) <;> simp [-List.reduceReplicate, Nat.add_one_le_iff, -getElem?_pos, -getElem?_neg, List.getElem?_cons_zero, List.getElem?_cons_succ, strC, bC, iC, c1, hashM, he, hc])
        | (with_reducible refine DEv_cut _ _ _ _ _ _ _ _ _ _ _ _ (by kernel_rfl) ?_; simp [-List.reduceReplicate, Nat.add_one_le_iff, -getElem?_pos, -getElem?_neg, List.getElem?_cons_zero, List.getElem?_cons_succ, strC, bC, iC, c1, hashM, he])
        | ((with_reducible refine hother _ _ rfl ?_); simp only [inBlockA, thenA, noGotoA, Nat.reduceEqDiff, if_false, if_true, ↓reduceIte])
        | ((with_reducible refine hother2 _ _ rfl ?_); simp only [inBlockA, thenA, noGotoA, Nat.reduceEqDiff, if_false, if_true, ↓reduceIte])
        | ((with_reducible refine hother3 _ _ rfl ?_); simp only [inBlockA, thenA, noGotoA, Nat.reduceEqDiff, if_false, if_true, ↓reduceIte])
        | (with_reducible refine And.intro (by omega) ?_)
        | (with_reducible change postOf _ _ _ _ _; simp [-List.reduceReplicate, Nat.add_one_le_iff, -getElem?_pos, -getElem?_neg, List.getElem?_cons_zero, List.getElem?_cons_succ, strC, bC, iC, c1, hashM, he])
        | fail)
end Go.Av
