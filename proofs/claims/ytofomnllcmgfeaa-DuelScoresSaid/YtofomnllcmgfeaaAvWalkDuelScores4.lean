/- 4 texts of the program logic over abstract values, joined: each is proved without any condition beyond its own words. -/
import Derived.Test.YtofomnllcmgfeaaAvWalkDuelScores2
import Derived.Test.YtofomnllcmgfeaaAvWalkDuelScores3
import Derived.Test.YtofomnllcmgfeaaAvEngine3
set_option linter.unusedVariables false
set_option linter.unusedSimpArgs false
set_option maxRecDepth 100000
set_option maxHeartbeats 4000000
namespace Go.Av
open Go Go.Proofs Go.Proofs.Ytofomnllcmgfeaa Go.RowKit
/-! ### the document's score and verdict -/
open Go.Av.Up (pl hit)
set_option maxHeartbeats 4000000 in
theorem value40_den (zs : List Int) (lv : Nat) (hl : lv ≤ 255) (hn : zs.length ≤ 1000000) : DenV Try.prog 70 [.c (intsC zs), .c (iC lv)] (.c (ndC (dg (valN zs lv)))) := by
  refine Den.frame rfl rfl ?_
  have p1 := count38_den zs lv hn
  have hc := cntN_le zs lv
  have p2 := of05_den (cntN zs lv) (by omega)
  have p3 := power_den lv (by omega)
  have hdl : (dg (cntN zs lv)).length ≤ 10000 := by
    rcases Nat.lt_or_ge (dg (cntN zs lv)).length 10000 with h | h
    · omega
    · exfalso
      by_cases h0 : cntN zs lv = 0
      · rw [h0, dg_0] at h; simp at h
      · have h1 := (dg_bd (cntN zs lv)).2 h0
        have h2 : 65536 ^ 2 ≤ 65536 ^ ((dg (cntN zs lv)).length - 1) := Nat.pow_le_pow_right (by decide) (by omega)
        omega
  have p4 := mul_den (dg (cntN zs lv)) (pwL lv) (dg_lt _) (pwL_lt lv) hdl (by rw [pwL_len]; omega)
  rw [dgv_dg, pwL_val] at p4
  have e : (plI zs 0 lv).length = cntN zs lv := rfl
  rw [e] at p1
  have ev : cntN zs lv * 2 ^ lv = valN zs lv := rfl
  rw [ev] at p4
  clear e ev hdl
  generalize dg (valN zs lv) = r at *
  generalize dg (cntN zs lv) = d at *
  generalize pwL lv = pw at *
  generalize cntN zs lv = c at *
  have w1 := wrapU64 (c : Int) (by omega)
  have i1 : ¬ (lv : Int) < 0 := by omega
  have i2 : ¬ (255 : Int) < lv := by omega
  unfold u64C intsC at *
  refine den_of Try.func70 rfl rfl (by simp [Try.ntmps70]) (fun X hX hO => ?_)
  rw [Try.ntmps70] at hX
  simp only [Try.results70]
  repeat' (first 
   | (with_reducible first | refine awp_scope ?_ | refine awp_seq ?_ | refine awp_block ?_)
   | ((with_reducible first | refine awp_label ?_ | refine awp_skip ?_); try simp only [thenA, inBlockA, noGotoA])
   | (with_reducible refine awp_exit ?_; simp only [thenA, inBlockA, noGotoA, if_true, Nat.reduceEqDiff, if_false, ↓reduceIte])
   | (with_reducible refine awp_ret ?_; (try simp only [thenA, inBlockA, noGotoA]); (try simp [-List.reduceReplicate, Nat.add_one_le_iff, -getElem?_pos, -getElem?_neg, List.getElem?_cons_zero, List.getElem?_cons_succ, iC, bC, w1, i1, i2]))
   | ((with_reducible first | refine awp_reg 19 hX [0, 1, 4, 10] ?_ | change postOf _ _ _ _ _); simp [-List.reduceReplicate, Nat.add_one_le_iff, -getElem?_pos, -getElem?_neg, List.getElem?_cons_zero, List.getElem?_cons_succ, iC, bC, w1, i1, i2])
   | ((first | (refine (p1 _).det ?_) | (refine (p2 _).det ?_) | (refine (p3 _).det ?_) | (refine (p4 _).det ?_)); try simp [-List.reduceReplicate, Nat.add_one_le_iff, -getElem?_pos, -getElem?_neg, List.getElem?_cons_zero, List.getElem?_cons_succ, iC, bC, w1, i1, i2])
   | (with_reducible refine awp_if_b rfl (fun hc => ?_) (fun hc => ?_) <;> (try simp [-getElem?_pos, -getElem?_neg] at hc) <;> (try (exfalso; omega)))
   | ((with_reducible first | refine GuardK_b (fun hc => ?_) (fun hc => ?_)) <;> (try simp only [Bool.not_eq_true', Bool.not_eq_false', decide_eq_true_eq, decide_eq_false_iff_not] at hc) <;> (first | (exfalso; omega) | skip) <;> simp [-List.reduceReplicate, Nat.add_one_le_iff, -getElem?_pos, -getElem?_neg, List.getElem?_cons_zero, List.getElem?_cons_succ, iC, bC, w1, i1, i2, hc])
   | (with_reducible refine And.intro (by omega) ?_)
   | fail)
set_option maxHeartbeats 4000000 in
theorem may40_den (zs : List Int) (lv : Nat) (m : Int) (hl : lv ≤ 255) (hn : zs.length ≤ 1000000) : DenV Try.prog 69 [.c (intsC zs), .c (iC lv), .c (iC m)] (.c (bC (mayN zs lv m))) := by
  refine Den.frame rfl rfl ?_
  have p1 := count38_den zs lv hn
  have e : (plI zs 0 lv).length = cntN zs lv := rfl
  rw [e] at p1
  unfold mayN
  generalize cntN zs lv = c at *
  unfold intsC at *
  refine den_of Try.func69 rfl rfl (by simp [Try.ntmps69]) (fun X hX hO => ?_)
  rw [Try.ntmps69] at hX
  simp only [Try.results69]
  by_cases h0 : lv = 0
  · subst h0
    repeat' (first 
     | (with_reducible first | refine awp_scope ?_ | refine awp_seq ?_ | refine awp_block ?_)
     | ((with_reducible first | refine awp_label ?_ | refine awp_skip ?_); try simp only [thenA, inBlockA, noGotoA])
     | (with_reducible refine awp_exit ?_; simp only [thenA, inBlockA, noGotoA, if_true, Nat.reduceEqDiff, if_false, ↓reduceIte])
     | (with_reducible refine awp_ret ?_; (try simp only [thenA, inBlockA, noGotoA]); (try simp [-List.reduceReplicate, Nat.add_one_le_iff, -getElem?_pos, -getElem?_neg, List.getElem?_cons_zero, List.getElem?_cons_succ, iC, bC]))
     | ((with_reducible first | refine awp_reg 24 hX [0, 1, 2, 6] ?_ | change postOf _ _ _ _ _); simp [-List.reduceReplicate, Nat.add_one_le_iff, -getElem?_pos, -getElem?_neg, List.getElem?_cons_zero, List.getElem?_cons_succ, iC, bC])
     | (with_reducible refine awp_if_b rfl (fun hc => ?_) (fun hc => ?_) <;> (try simp [-getElem?_pos, -getElem?_neg] at hc) <;> (try (exfalso; omega)))
     | ((with_reducible first | refine GuardK_b (fun hc => ?_) (fun hc => ?_)) <;> (try simp only [Bool.not_eq_true', Bool.not_eq_false', decide_eq_true_eq, decide_eq_false_iff_not] at hc) <;> (first | (exfalso; omega) | skip) <;> simp [-List.reduceReplicate, Nat.add_one_le_iff, -getElem?_pos, -getElem?_neg, List.getElem?_cons_zero, List.getElem?_cons_succ, iC, bC, hc])
     | (with_reducible refine And.intro (by omega) ?_)
     | fail)
  · have i0 : 0 < lv := by omega
    have i1 : ¬ (lv : Int) = 0 := by omega
    have i2 : (0 : Int) < lv := by omega
    have i3 : (lv : Int) ≤ 255 := by omega
    repeat' (first 
     | (with_reducible first | refine awp_scope ?_ | refine awp_seq ?_ | refine awp_block ?_)
     | ((with_reducible first | refine awp_label ?_ | refine awp_skip ?_); try simp only [thenA, inBlockA, noGotoA])
     | (with_reducible refine awp_exit ?_; simp only [thenA, inBlockA, noGotoA, if_true, Nat.reduceEqDiff, if_false, ↓reduceIte])
     | (with_reducible refine awp_ret ?_; (try simp only [thenA, inBlockA, noGotoA]); (try simp [-List.reduceReplicate, Nat.add_one_le_iff, -getElem?_pos, -getElem?_neg, List.getElem?_cons_zero, List.getElem?_cons_succ, iC, bC, h0, i0, i1, i2, i3]))
     | ((with_reducible first | refine awp_reg 24 hX [0, 1, 2, 6] ?_ | change postOf _ _ _ _ _); simp [-List.reduceReplicate, Nat.add_one_le_iff, -getElem?_pos, -getElem?_neg, List.getElem?_cons_zero, List.getElem?_cons_succ, iC, bC, h0, i0, i1, i2, i3])
     | ((first | (refine (p1 _).det ?_)); try simp [-List.reduceReplicate, Nat.add_one_le_iff, -getElem?_pos, -getElem?_neg, List.getElem?_cons_zero, List.getElem?_cons_succ, iC, bC, h0, i0, i1, i2, i3])
     | (with_reducible refine awp_if_b rfl (fun hc => ?_) (fun hc => ?_) <;> (try simp [-getElem?_pos, -getElem?_neg] at hc) <;> (try (exfalso; omega)))
     | ((with_reducible first | refine GuardK_b (fun hc => ?_) (fun hc => ?_)) <;> (try simp only [Bool.not_eq_true', Bool.not_eq_false', decide_eq_true_eq, decide_eq_false_iff_not] at hc) <;> (first | (exfalso; omega) | skip) <;> simp [-List.reduceReplicate, Nat.add_one_le_iff, -getElem?_pos, -getElem?_neg, List.getElem?_cons_zero, List.getElem?_cons_succ, iC, bC, h0, i0, i1, i2, i3, hc])
     | (with_reducible refine And.intro (by omega) ?_)
     | fail)
theorem dgl_le {x : Nat} (h : x < 2 ^ (64 * 5)) : (dg x).length ≤ 1000000 := by
  rcases Nat.lt_or_ge (dg x).length 22 with c | c
  · omega
  · exfalso
    have h0 : x ≠ 0 := fun e => by subst e; rw [dg_0] at c; simp at c
    have h1 := (dg_bd x).2 h0
    have h2 : 65536 ^ 21 ≤ 65536 ^ ((dg x).length - 1) := Nat.pow_le_pow_right (by decide) (by omega)
    have h3 : 2 ^ (64 * 5) ≤ 65536 ^ 21 := by
      rw [show (65536 : Nat) = 2 ^ 16 by rfl, ← Nat.pow_mul]
      exact Nat.pow_le_pow_right (by decide) (by decide)
    omega
set_option maxHeartbeats 4000000 in
theorem best40_den (zs : List Int) (m : Int) (hn : zs.length ≤ 1000000) : DenV Try.prog 42 [.c (intsC zs), .c (iC m)] (.tup [.c (ndC (dg (bestN zs m 256).1)), .c (iC (bestN zs m 256).2)]) := by
  refine Den.frame rfl rfl ?_
  have hb : ∀ k, bestN zs m (k + 1) = if mayN zs k m = true ∧ (bestN zs m k).1 < valN zs k then (valN zs k, k) else bestN zs m k := fun _ => rfl
  have hb0 : bestN zs m 0 = (0, 0) := rfl
  have pm := fun k (h : k ≤ 255) => may40_den zs k m h hn
  have pv := fun k (h : k ≤ 255) => value40_den zs k h hn
  have hvl := fun k (h : k ≤ 255) => dgl_le (valN_lt zs k hn h)
  have pc := fun k y (h : k ≤ 255) => cmp05_den (valN zs k) y (hvl k h)
  have hnil : ndC (dg 0) = .sl [] 0 false := by rw [dg_0]; rfl
  generalize bestN zs m = f at *
  generalize valN zs = vf at *
  unfold intsC at *
  refine den_of Try.func42 rfl rfl (by simp [Try.ntmps42]) (fun X hX hO => ?_)
  rw [Try.ntmps42] at hX
  simp only [Try.results42]
  repeat' (first 
   | (with_reducible first | refine awp_scope ?_ | refine awp_seq ?_ | refine awp_block ?_)
   | ((with_reducible first | refine awp_label ?_ | refine awp_skip ?_); try simp only [thenA, inBlockA, noGotoA])
   | (with_reducible refine awp_exit ?_; simp only [thenA, inBlockA, noGotoA, if_true, Nat.reduceEqDiff, if_false, ↓reduceIte])
   | (with_reducible refine awp_ret ?_; (try simp only [thenA, inBlockA, noGotoA]); (try simp [-List.reduceReplicate, Nat.add_one_le_iff, -getElem?_pos, -getElem?_neg, List.getElem?_cons_zero, List.getElem?_cons_succ, iC]))
   | ((with_reducible first | refine awp_reg 30 hX [0, 1, 4, 5, 6, 7, 8, 9, 11, 18, 25] ?_ | change postOf _ _ _ _ _); simp [-List.reduceReplicate, Nat.add_one_le_iff, -getElem?_pos, -getElem?_neg, List.getElem?_cons_zero, List.getElem?_cons_succ, iC])
   | (with_reducible refine awp_if_b rfl (fun hc => ?_) (fun hc => ?_) <;> (try simp [-getElem?_pos, -getElem?_neg] at hc) <;> (try (exfalso; omega)))
   | ((with_reducible first | refine GuardK_b (fun hc => ?_) (fun hc => ?_)) <;> (try simp only [Bool.not_eq_true', Bool.not_eq_false', decide_eq_true_eq, decide_eq_false_iff_not] at hc) <;> (first | (exfalso; omega) | skip) <;> simp [-List.reduceReplicate, Nat.add_one_le_iff, -getElem?_pos, -getElem?_neg, List.getElem?_cons_zero, List.getElem?_cons_succ, iC, hc])
   | ((with_reducible first | refine hother _ _ rfl ?_); simp only [inBlockA, thenA, noGotoA, Nat.reduceEqDiff, if_false, if_true, ↓reduceIte])
   | (with_reducible refine And.intro (by omega) ?_)
   | fail)
  refine awp_le 6 (.c (.v (.slice none 0 0))) (.c (ndC (dg 0))) (by simp [get]) (by rw [hnil]; exact leM_c (leC_nil _)) ?_
  simp only [put]
  refine awp_forU [0, 1, 6, 7, 8] (fun k (_u : Unit) => [(6, .c (ndC (dg (f k).1))), (7, .c (iC (f k).2)), (8, .c (iC k))]) (fun k (_u : Unit) => []) (fun k (_u : Unit) => True) (256) (()) (by first | trivial | (simp; done) | omega | (intros; simp at *; done)) (by simp [-List.reduceReplicate, keep, iC, hb0]) (by simp [-List.reduceReplicate, iC, hb0]) ?_
  rintro k _u Q1 hi hH next hother
  conv => arg 5; arg 1; simp only [List.cons_append, List.nil_append, keep, get, Nat.reduceEqDiff, if_true, if_false, ↓reduceIte]
  have hwk := wrap_in ((k : Int) + 1) (by omega)
  by_cases hk : k < 256
  · have qv := pv k (by omega)
    have qm := pm k (by omega)
    have bk := hb k
    have hk2 : (k : Int) < 256 := by omega
    obtain ⟨bv, hbv⟩ : ∃ x, (f k).1 = x := ⟨_, rfl⟩
    obtain ⟨bl', hbl⟩ : ∃ x, (f k).2 = x := ⟨_, rfl⟩
    have c1 := pc k bv (by omega)
    rw [hbv, hbl]
    rw [hbv] at bk
    generalize vf k = v at *
    have eC : ∀ z, dg z = dg z := fun _ => rfl
    cases hm : mayN zs k m
    · have fk : f (k + 1) = f k := by rw [bk, if_neg (by rw [hm]; intro h; simp at h)]
      rw [hm] at qm
      repeat' (first 
       | (with_reducible first | refine awp_scope ?_ | refine awp_seq ?_ | refine awp_block ?_)
       | ((with_reducible first | refine awp_label ?_ | refine awp_skip ?_); try simp only [thenA, inBlockA, noGotoA])
       | (with_reducible refine awp_exit ?_; simp only [thenA, inBlockA, noGotoA, if_true, Nat.reduceEqDiff, if_false, ↓reduceIte])
       | (with_reducible refine awp_ret ?_; (try simp only [thenA, inBlockA, noGotoA]); (try simp [-List.reduceReplicate, Nat.add_one_le_iff, -getElem?_pos, -getElem?_neg, List.getElem?_cons_zero, List.getElem?_cons_succ, iC, bC, hk2, hwk]))
       | ((with_reducible first | refine awp_reg 30 hX [0, 1, 4, 5, 6, 7, 8, 9, 11, 18, 25] ?_ | change postOf _ _ _ _ _); simp [-List.reduceReplicate, Nat.add_one_le_iff, -getElem?_pos, -getElem?_neg, List.getElem?_cons_zero, List.getElem?_cons_succ, iC, bC, hk2, hwk])
       | ((first | (refine (qv _).det ?_) | (refine (qm _).det ?_) | (refine (c1 _).det ?_)); try simp [-List.reduceReplicate, Nat.add_one_le_iff, -getElem?_pos, -getElem?_neg, List.getElem?_cons_zero, List.getElem?_cons_succ, iC, bC, hk2, hwk])
       | (with_reducible refine awp_if_b rfl (fun hc => ?_) (fun hc => ?_) <;> (try simp [-getElem?_pos, -getElem?_neg] at hc) <;> (try (exfalso; omega)))
       | ((with_reducible first | refine GuardK_b (fun hc => ?_) (fun hc => ?_)) <;> (try simp only [Bool.not_eq_true', Bool.not_eq_false', decide_eq_true_eq, decide_eq_false_iff_not] at hc) <;> (first | (exfalso; omega) | skip) <;> simp [-List.reduceReplicate, Nat.add_one_le_iff, -getElem?_pos, -getElem?_neg, List.getElem?_cons_zero, List.getElem?_cons_succ, iC, bC, hk2, hwk, hc])
       | ((with_reducible first | refine hother _ _ rfl ?_); simp only [inBlockA, thenA, noGotoA, Nat.reduceEqDiff, if_false, if_true, ↓reduceIte])
       | (with_reducible refine And.intro (by omega) ?_)
       | fail)
      refine next _ _ (()) (by omega) (by first | trivial | omega | assumption) (by simp [-List.reduceReplicate, keep, iC, fk, hbv, hbl]) (by simp [-List.reduceReplicate, iC, fk, hbv, hbl])
    · rw [hm] at qm
      by_cases hlt : bv < v
      · have fk : f (k + 1) = (v, k) := by rw [bk, if_pos ⟨hm, hlt⟩]
        rw [cmpN_gt hlt] at c1
        repeat' (first 
         | (with_reducible first | refine awp_scope ?_ | refine awp_seq ?_ | refine awp_block ?_)
         | ((with_reducible first | refine awp_label ?_ | refine awp_skip ?_); try simp only [thenA, inBlockA, noGotoA])
         | (with_reducible refine awp_exit ?_; simp only [thenA, inBlockA, noGotoA, if_true, Nat.reduceEqDiff, if_false, ↓reduceIte])
         | (with_reducible refine awp_ret ?_; (try simp only [thenA, inBlockA, noGotoA]); (try simp [-List.reduceReplicate, Nat.add_one_le_iff, -getElem?_pos, -getElem?_neg, List.getElem?_cons_zero, List.getElem?_cons_succ, iC, bC, hk2, hwk]))
         | ((with_reducible first | refine awp_reg 30 hX [0, 1, 4, 5, 6, 7, 8, 9, 11, 18, 25] ?_ | change postOf _ _ _ _ _); simp [-List.reduceReplicate, Nat.add_one_le_iff, -getElem?_pos, -getElem?_neg, List.getElem?_cons_zero, List.getElem?_cons_succ, iC, bC, hk2, hwk])
         | ((first | (refine (qv _).det ?_) | (refine (qm _).det ?_) | (refine (c1 _).det ?_)); try simp [-List.reduceReplicate, Nat.add_one_le_iff, -getElem?_pos, -getElem?_neg, List.getElem?_cons_zero, List.getElem?_cons_succ, iC, bC, hk2, hwk])
         | (with_reducible refine awp_if_b rfl (fun hc => ?_) (fun hc => ?_) <;> (try simp [-getElem?_pos, -getElem?_neg] at hc) <;> (try (exfalso; omega)))
         | ((with_reducible first | refine GuardK_b (fun hc => ?_) (fun hc => ?_)) <;> (try simp only [Bool.not_eq_true', Bool.not_eq_false', decide_eq_true_eq, decide_eq_false_iff_not] at hc) <;> (first | (exfalso; omega) | skip) <;> simp [-List.reduceReplicate, Nat.add_one_le_iff, -getElem?_pos, -getElem?_neg, List.getElem?_cons_zero, List.getElem?_cons_succ, iC, bC, hk2, hwk, hc])
         | ((with_reducible first | refine hother _ _ rfl ?_); simp only [inBlockA, thenA, noGotoA, Nat.reduceEqDiff, if_false, if_true, ↓reduceIte])
         | (with_reducible refine And.intro (by omega) ?_)
         | fail)
        refine next _ _ (()) (by omega) (by first | trivial | omega | assumption) (by simp [-List.reduceReplicate, keep, iC, fk]) (by simp [-List.reduceReplicate, iC, fk])
      · have fk : f (k + 1) = f k := by rw [bk, if_neg (by intro h; omega)]
        have hc : ¬ 0 < cmpN v bv := by unfold cmpN; split <;> (first | omega | (rw [if_neg hlt]; omega))
        repeat' (first 
         | (with_reducible first | refine awp_scope ?_ | refine awp_seq ?_ | refine awp_block ?_)
         | ((with_reducible first | refine awp_label ?_ | refine awp_skip ?_); try simp only [thenA, inBlockA, noGotoA])
         | (with_reducible refine awp_exit ?_; simp only [thenA, inBlockA, noGotoA, if_true, Nat.reduceEqDiff, if_false, ↓reduceIte])
         | (with_reducible refine awp_ret ?_; (try simp only [thenA, inBlockA, noGotoA]); (try simp [-List.reduceReplicate, Nat.add_one_le_iff, -getElem?_pos, -getElem?_neg, List.getElem?_cons_zero, List.getElem?_cons_succ, iC, bC, hk2, hwk, hc]))
         | ((with_reducible first | refine awp_reg 30 hX [0, 1, 4, 5, 6, 7, 8, 9, 11, 18, 25] ?_ | change postOf _ _ _ _ _); simp [-List.reduceReplicate, Nat.add_one_le_iff, -getElem?_pos, -getElem?_neg, List.getElem?_cons_zero, List.getElem?_cons_succ, iC, bC, hk2, hwk, hc])
         | ((first | (refine (qv _).det ?_) | (refine (qm _).det ?_) | (refine (c1 _).det ?_)); try simp [-List.reduceReplicate, Nat.add_one_le_iff, -getElem?_pos, -getElem?_neg, List.getElem?_cons_zero, List.getElem?_cons_succ, iC, bC, hk2, hwk, hc])
         | (with_reducible refine awp_if_b rfl (fun hc => ?_) (fun hc => ?_) <;> (try simp [-getElem?_pos, -getElem?_neg] at hc) <;> (try (exfalso; omega)))
         | ((with_reducible first | refine GuardK_b (fun hc => ?_) (fun hc => ?_)) <;> (try simp only [Bool.not_eq_true', Bool.not_eq_false', decide_eq_true_eq, decide_eq_false_iff_not] at hc) <;> (first | (exfalso; omega) | skip) <;> simp [-List.reduceReplicate, Nat.add_one_le_iff, -getElem?_pos, -getElem?_neg, List.getElem?_cons_zero, List.getElem?_cons_succ, iC, bC, hk2, hwk, hc, hc])
         | ((with_reducible first | refine hother _ _ rfl ?_); simp only [inBlockA, thenA, noGotoA, Nat.reduceEqDiff, if_false, if_true, ↓reduceIte])
         | (with_reducible refine And.intro (by omega) ?_)
         | fail)
        refine next _ _ (()) (by omega) (by first | trivial | omega | assumption) (by simp [-List.reduceReplicate, keep, iC, fk, hbv, hbl]) (by simp [-List.reduceReplicate, iC, fk, hbv, hbl])
  · have hk3 : k = 256 := by omega
    subst hk3
    repeat' (first 
     | (with_reducible first | refine awp_scope ?_ | refine awp_seq ?_ | refine awp_block ?_)
     | ((with_reducible first | refine awp_label ?_ | refine awp_skip ?_); try simp only [thenA, inBlockA, noGotoA])
     | (with_reducible refine awp_exit ?_; simp only [thenA, inBlockA, noGotoA, if_true, Nat.reduceEqDiff, if_false, ↓reduceIte])
     | (with_reducible refine awp_ret ?_; (try simp only [thenA, inBlockA, noGotoA]); (try simp [-List.reduceReplicate, Nat.add_one_le_iff, -getElem?_pos, -getElem?_neg, List.getElem?_cons_zero, List.getElem?_cons_succ, iC]))
     | ((with_reducible first | refine awp_reg 30 hX [0, 1, 4, 5, 6, 7, 8, 9, 11, 18, 25] ?_ | change postOf _ _ _ _ _); simp [-List.reduceReplicate, Nat.add_one_le_iff, -getElem?_pos, -getElem?_neg, List.getElem?_cons_zero, List.getElem?_cons_succ, iC])
     | (with_reducible refine awp_if_b rfl (fun hc => ?_) (fun hc => ?_) <;> (try simp [-getElem?_pos, -getElem?_neg] at hc) <;> (try (exfalso; omega)))
     | ((with_reducible first | refine GuardK_b (fun hc => ?_) (fun hc => ?_)) <;> (try simp only [Bool.not_eq_true', Bool.not_eq_false', decide_eq_true_eq, decide_eq_false_iff_not] at hc) <;> (first | (exfalso; omega) | skip) <;> simp [-List.reduceReplicate, Nat.add_one_le_iff, -getElem?_pos, -getElem?_neg, List.getElem?_cons_zero, List.getElem?_cons_succ, iC, hc])
     | ((with_reducible first | refine hother _ _ rfl ?_); simp only [inBlockA, thenA, noGotoA, Nat.reduceEqDiff, if_false, if_true, ↓reduceIte])
     | (with_reducible refine And.intro (by omega) ?_)
     | fail)
end Go.Av

set_option linter.unusedVariables false
set_option linter.unusedSimpArgs false
set_option maxRecDepth 100000
set_option maxHeartbeats 4000000
namespace Go.Av
open Go Go.Proofs Go.Proofs.Ytofomnllcmgfeaa Go.RowKit
/-! ### the document's Behind, Verdict; Limbs of an array of the caller's own -/
set_option maxHeartbeats 4000000 in
theorem behind40_own (zs : List Int) (k : Nat) (hn : zs.length ≤ 1000000) (hk : k ≤ 1000000) : Den Try.prog 43 [.c (intsC zs), .c (iC k)] [] (fun r ob' => ∃ g b, r = .ms 0 g 0 (zs.length - (k + 1)) ∧ ob' = [⟨3, 1, b, g, up ((zs.drop (k + 1)).map iC), none⟩]) := by
  generalize hQ : (fun (r : M) (ob' : List Ob) => ∃ g b, r = .ms 0 g 0 (zs.length - (k + 1)) ∧ ob' = [⟨3, 1, b, g, up ((zs.drop (k + 1)).map iC), none⟩]) = Q
  have hs : ∀ i x, zs[i]? = some x → (zs.take (i + 1)).drop (k + 1) = (zs.take i).drop (k + 1) ++ if k < i then [x] else [] := fun i x h => by
    have hl := (List.getElem?_eq_some_iff.1 h).1
    rw [List.take_add_one, h]
    simp only [Option.toList]
    by_cases c : k < i
    · rw [if_pos c, List.drop_append_of_le_length (by rw [List.length_take]; omega)]
    · rw [if_neg c, List.append_nil, List.drop_of_length_le (by simp; omega), List.drop_of_length_le (by simp; omega)]
  have hl : ∀ i, i ≤ zs.length → ((zs.take i).drop (k + 1)).length = i - (k + 1) := fun i h => by simp; omega
  have h0 : (zs.take 0).drop (k + 1) = [] := by simp
  have hN : (zs.take zs.length).drop (k + 1) = zs.drop (k + 1) := by simp
  obtain ⟨D, hD⟩ : ∃ D : Nat → List Int, ∀ i, (zs.take i).drop (k + 1) = D i := ⟨_, fun _ => rfl⟩
  simp only [hD] at *
  refine den_of Try.func43 rfl rfl (by simp [Try.ntmps43]) (fun X hX hO => ?_)
  rw [Try.ntmps43] at hX
  simp only [Try.results43]
  repeat' (first 
   | (with_reducible first | refine awp_scope ?_ | refine awp_seq ?_ | refine awp_block ?_)
   | ((with_reducible first | refine awp_label ?_ | refine awp_skip ?_); try simp only [thenA, inBlockA, noGotoA])
   | (with_reducible refine awp_exit ?_; simp only [thenA, inBlockA, noGotoA, if_true, Nat.reduceEqDiff, if_false, ↓reduceIte])
   | (with_reducible refine awp_ret ?_; (try simp only [thenA, inBlockA, noGotoA]); (try simp [-List.reduceReplicate, Nat.add_one_le_iff, -getElem?_pos, -getElem?_neg, List.getElem?_cons_zero, List.getElem?_cons_succ, intsC, iC]))
   | ((with_reducible first | refine awp_reg 24 hX [0, 1, 4, 5, 6, 10, 15] ?_ | change postOf _ _ _ _ _); simp [-List.reduceReplicate, Nat.add_one_le_iff, -getElem?_pos, -getElem?_neg, List.getElem?_cons_zero, List.getElem?_cons_succ, intsC, iC])
   | (with_reducible refine awp_if_b rfl (fun hc => ?_) (fun hc => ?_) <;> (try simp [-getElem?_pos, -getElem?_neg] at hc) <;> (try (exfalso; omega)))
   | ((with_reducible first | refine GuardK_b (fun hc => ?_) (fun hc => ?_)) <;> (try simp only [Bool.not_eq_true', Bool.not_eq_false', decide_eq_true_eq, decide_eq_false_iff_not] at hc) <;> (first | (exfalso; omega) | skip) <;> simp [-List.reduceReplicate, Nat.add_one_le_iff, -getElem?_pos, -getElem?_neg, List.getElem?_cons_zero, List.getElem?_cons_succ, intsC, iC, hc])
   | ((with_reducible first | refine hother _ _ rfl ?_); simp only [inBlockA, thenA, noGotoA, Nat.reduceEqDiff, if_false, if_true, ↓reduceIte])
   | (with_reducible refine And.intro (by omega) ?_)
   | fail)
  refine awp_nil 5 3 1 (by simp) ?_
  simp
  refine awp_forU [0, 1, 5, 6] (fun i (g : Nat × Bool) => [(5, .ms 0 g.1 0 (i - (k + 1))), (6, .c (iC i))]) (fun i (g : Nat × Bool) => [⟨3, 1, g.2, g.1, up ((D i).map iC), none⟩]) (fun i (g : Nat × Bool) => True) (zs.length) ((0, true)) (by first | trivial | (simp; done) | omega | (intros; simp at *; done)) (by simp [-List.reduceReplicate, keep, iC, h0]) (by simp [-List.reduceReplicate, iC, h0]) ?_
  rintro i g Q1 hi hH next hother
  conv => arg 5; arg 1; simp only [List.cons_append, List.nil_append, keep, get, Nat.reduceEqDiff, if_true, if_false, ↓reduceIte]
  have hwi := wrap_in ((i : Int) + 1) (by omega)
  by_cases hlt : i < zs.length
  · obtain ⟨x, hx⟩ : ∃ x, zs[i]? = some x := ⟨_, List.getElem?_eq_getElem hlt⟩
    have hsi := hs i x hx
    have hli := hl i (by omega)
    by_cases c : k < i
    · rw [if_pos c] at hsi
      have c2 : (k : Int) < i := by omega
      have e : i - (k + 1) + 1 = i - k := by omega
      have e2 : i + 1 - (k + 1) = i - k := by omega
      have hroom : (i - k) * 8 ≤ 140737488355328 := by omega
      repeat' (first 
       | (with_reducible first | refine awp_scope ?_ | refine awp_seq ?_ | refine awp_block ?_)
       | ((with_reducible first | refine awp_label ?_ | refine awp_skip ?_); try simp only [thenA, inBlockA, noGotoA])
       | (with_reducible refine awp_exit ?_; simp only [thenA, inBlockA, noGotoA, if_true, Nat.reduceEqDiff, if_false, ↓reduceIte])
       | (with_reducible refine awp_ret ?_; (try simp only [thenA, inBlockA, noGotoA]); (try simp [-List.reduceReplicate, Nat.add_one_le_iff, -getElem?_pos, -getElem?_neg, List.getElem?_cons_zero, List.getElem?_cons_succ, intsC, iC, bC, hlt, hx, c, c2, hli, e, e2, hroom, roomB, hwi]))
       | ((with_reducible first | refine awp_reg 24 hX [0, 1, 4, 5, 6, 10, 15] ?_ | change postOf _ _ _ _ _); simp [-List.reduceReplicate, Nat.add_one_le_iff, -getElem?_pos, -getElem?_neg, List.getElem?_cons_zero, List.getElem?_cons_succ, intsC, iC, bC, hlt, hx, c, c2, hli, e, e2, hroom, roomB, hwi])
       | (with_reducible refine awp_if_b rfl (fun hc => ?_) (fun hc => ?_) <;> (try simp [-getElem?_pos, -getElem?_neg] at hc) <;> (try (exfalso; omega)))
       | ((with_reducible first | refine GuardK_b (fun hc => ?_) (fun hc => ?_)) <;> (try simp only [Bool.not_eq_true', Bool.not_eq_false', decide_eq_true_eq, decide_eq_false_iff_not] at hc) <;> (first | (exfalso; omega) | skip) <;> simp [-List.reduceReplicate, Nat.add_one_le_iff, -getElem?_pos, -getElem?_neg, List.getElem?_cons_zero, List.getElem?_cons_succ, intsC, iC, bC, hlt, hx, c, c2, hli, e, e2, hroom, roomB, hwi, hc])
       | ((with_reducible first | refine hother _ _ rfl ?_); simp only [inBlockA, thenA, noGotoA, Nat.reduceEqDiff, if_false, if_true, ↓reduceIte])
       | (with_reducible refine And.intro (by omega) ?_)
       | fail)
      refine next _ _ ((g.1 + 1, false)) (by omega) (by first | trivial | omega | assumption) (by simp [-List.reduceReplicate, keep, iC, hsi, e2]) (by simp [-List.reduceReplicate, iC, hsi, e2])
    · rw [if_neg c, List.append_nil] at hsi
      have c2 : ¬ (k : Int) < i := by omega
      have e1 : i - (k + 1) = 0 := by omega
      have e2 : i + 1 - (k + 1) = 0 := by omega
      repeat' (first 
       | (with_reducible first | refine awp_scope ?_ | refine awp_seq ?_ | refine awp_block ?_)
       | ((with_reducible first | refine awp_label ?_ | refine awp_skip ?_); try simp only [thenA, inBlockA, noGotoA])
       | (with_reducible refine awp_exit ?_; simp only [thenA, inBlockA, noGotoA, if_true, Nat.reduceEqDiff, if_false, ↓reduceIte])
       | (with_reducible refine awp_ret ?_; (try simp only [thenA, inBlockA, noGotoA]); (try simp [-List.reduceReplicate, Nat.add_one_le_iff, -getElem?_pos, -getElem?_neg, List.getElem?_cons_zero, List.getElem?_cons_succ, intsC, iC, bC, hlt, hx, c, c2, hwi]))
       | ((with_reducible first | refine awp_reg 24 hX [0, 1, 4, 5, 6, 10, 15] ?_ | change postOf _ _ _ _ _); simp [-List.reduceReplicate, Nat.add_one_le_iff, -getElem?_pos, -getElem?_neg, List.getElem?_cons_zero, List.getElem?_cons_succ, intsC, iC, bC, hlt, hx, c, c2, hwi])
       | (with_reducible refine awp_if_b rfl (fun hc => ?_) (fun hc => ?_) <;> (try simp [-getElem?_pos, -getElem?_neg] at hc) <;> (try (exfalso; omega)))
       | ((with_reducible first | refine GuardK_b (fun hc => ?_) (fun hc => ?_)) <;> (try simp only [Bool.not_eq_true', Bool.not_eq_false', decide_eq_true_eq, decide_eq_false_iff_not] at hc) <;> (first | (exfalso; omega) | skip) <;> simp [-List.reduceReplicate, Nat.add_one_le_iff, -getElem?_pos, -getElem?_neg, List.getElem?_cons_zero, List.getElem?_cons_succ, intsC, iC, bC, hlt, hx, c, c2, hwi, hc])
       | ((with_reducible first | refine hother _ _ rfl ?_); simp only [inBlockA, thenA, noGotoA, Nat.reduceEqDiff, if_false, if_true, ↓reduceIte])
       | (with_reducible refine And.intro (by omega) ?_)
       | fail)
      refine next _ _ (g) (by omega) (by first | trivial | omega | assumption) (by simp [-List.reduceReplicate, keep, iC, hsi, e1, e2]) (by simp [-List.reduceReplicate, iC, hsi, e1, e2])
  · have hi2 : i = zs.length := by omega
    subst hi2
    repeat' (first 
     | (with_reducible first | refine awp_scope ?_ | refine awp_seq ?_ | refine awp_block ?_)
     | ((with_reducible first | refine awp_label ?_ | refine awp_skip ?_); try simp only [thenA, inBlockA, noGotoA])
     | (with_reducible refine awp_exit ?_; simp only [thenA, inBlockA, noGotoA, if_true, Nat.reduceEqDiff, if_false, ↓reduceIte])
     | (with_reducible refine awp_ret ?_; (try simp only [thenA, inBlockA, noGotoA]); (try simp [-List.reduceReplicate, Nat.add_one_le_iff, -getElem?_pos, -getElem?_neg, List.getElem?_cons_zero, List.getElem?_cons_succ, intsC, iC, bC]))
     | ((with_reducible first | refine awp_reg 24 hX [0, 1, 4, 5, 6, 10, 15] ?_ | change postOf _ _ _ _ _); simp [-List.reduceReplicate, Nat.add_one_le_iff, -getElem?_pos, -getElem?_neg, List.getElem?_cons_zero, List.getElem?_cons_succ, intsC, iC, bC])
     | (with_reducible refine awp_if_b rfl (fun hc => ?_) (fun hc => ?_) <;> (try simp [-getElem?_pos, -getElem?_neg] at hc) <;> (try (exfalso; omega)))
     | ((with_reducible first | refine GuardK_b (fun hc => ?_) (fun hc => ?_)) <;> (try simp only [Bool.not_eq_true', Bool.not_eq_false', decide_eq_true_eq, decide_eq_false_iff_not] at hc) <;> (first | (exfalso; omega) | skip) <;> simp [-List.reduceReplicate, Nat.add_one_le_iff, -getElem?_pos, -getElem?_neg, List.getElem?_cons_zero, List.getElem?_cons_succ, intsC, iC, bC, hc])
     | ((with_reducible first | refine hother _ _ rfl ?_); simp only [inBlockA, thenA, noGotoA, Nat.reduceEqDiff, if_false, if_true, ↓reduceIte])
     | (with_reducible refine And.intro (by omega) ?_)
     | fail)
    subst hQ
    exact ⟨g.1, g.2, rfl, by rw [hN]⟩
theorem behind40_den (zs : List Int) (k : Nat) (hn : zs.length ≤ 1000000) (hk : k ≤ 1000000) : DenV Try.prog 43 [.c (intsC zs), .c (iC k)] (.c (intsC (zs.drop (k + 1)))) :=
  Den.frame rfl rfl ((behind40_own zs k hn hk).freeze fun r ob' ⟨g, b, h1, h2⟩ => ⟨g, _, _, (zs.drop (k + 1)).map iC, h1, h2, rfl, rfl, by simp [intsC]⟩)
theorem behI_nat (zs : List Int) (k : Nat) : behI zs (k : Int) = zs.drop (k + 1) := by
  unfold behI
  split
  · rw [List.drop_of_length_le (by omega)]
  · congr 1
set_option maxHeartbeats 4000000 in
theorem verdict40_den (a b : List H32) (za zb : List Int) (m : Int) (ha : a.length ≤ 100000) (hb : b.length ≤ 100000) (hza : za.length ≤ 100000) (hzb : zb.length ≤ 100000) :
    DenV Try.prog 40 [sideM a za, sideM b zb, .c (iC m)] (.c (iC (vrdN a b za zb m))) := by
  refine Den.frame rfl rfl ?_
  have p1 := last40_den a b a.length b.length false false rfl rfl (by omega) (by omega)
  have hr := lastH_range a b
  have pa := fun k h => behind40_den za k (by omega) h
  have pb := fun k h => behind40_den zb k (by omega) h
  have qa := fun k => best40_den (za.drop (k + 1)) m (by simp; omega)
  have qb := fun k => best40_den (zb.drop (k + 1)) m (by simp; omega)
  have la := fun k => bestN_lt (za.drop (k + 1)) m (by simp; omega) 256 (by omega)
  have pc := fun k y => cmp05_den (bestN (za.drop (k + 1)) m 256).1 y (dgl_le (la k))
  have na := behI_nat za
  have nb := behI_nat zb
  have hv : ∀ r, r = vrdN a b za zb m → r = (if (lastH a b).1 < 0 then 0 else cmpN (bestN (behI za (lastH a b).1) m 256).1 (bestN (behI zb (lastH a b).2) m 256).1) := fun r h => h
  obtain ⟨r, hre⟩ : ∃ r, r = vrdN a b za zb m := ⟨_, rfl⟩
  have hre2 := hv r hre
  rw [← hre]
  clear hv hre
  obtain ⟨i, hi⟩ : ∃ i, (lastH a b).1 = i := ⟨_, rfl⟩
  obtain ⟨k, hk⟩ : ∃ k, (lastH a b).2 = k := ⟨_, rfl⟩
  rw [hi, hk] at p1 hre2
  by_cases c : i < 0
  · rw [if_pos c] at hre2
    subst hre2
    unfold sideM sideL
    refine den_of Try.func40 rfl rfl (by simp [Try.ntmps40]) (fun X hX hO => ?_)
    rw [Try.ntmps40] at hX
    simp only [Try.results40]
    repeat' (first 
     | (with_reducible first | refine awp_scope ?_ | refine awp_seq ?_ | refine awp_block ?_)
     | ((with_reducible first | refine awp_label ?_ | refine awp_skip ?_); try simp only [thenA, inBlockA, noGotoA])
     | (with_reducible refine awp_exit ?_; simp only [thenA, inBlockA, noGotoA, if_true, Nat.reduceEqDiff, if_false, ↓reduceIte])
     | (with_reducible refine awp_ret ?_; (try simp only [thenA, inBlockA, noGotoA]); (try simp [-List.reduceReplicate, Nat.add_one_le_iff, -getElem?_pos, -getElem?_neg, List.getElem?_cons_zero, List.getElem?_cons_succ, iC, bC, c]))
     | ((with_reducible first | refine awp_reg 44 hX [2, 3, 4, 6, 7, 8, 9, 11, 22] ?_ | change postOf _ _ _ _ _); simp [-List.reduceReplicate, Nat.add_one_le_iff, -getElem?_pos, -getElem?_neg, List.getElem?_cons_zero, List.getElem?_cons_succ, iC, bC, c])
     | ((first | (refine (p1 _).det ?_)); try simp [-List.reduceReplicate, Nat.add_one_le_iff, -getElem?_pos, -getElem?_neg, List.getElem?_cons_zero, List.getElem?_cons_succ, iC, bC, c])
     | (with_reducible refine awp_if_b rfl (fun hc => ?_) (fun hc => ?_) <;> (try simp [-getElem?_pos, -getElem?_neg] at hc) <;> (try (exfalso; omega)))
     | ((with_reducible first | refine GuardK_b (fun hc => ?_) (fun hc => ?_)) <;> (try simp only [Bool.not_eq_true', Bool.not_eq_false', decide_eq_true_eq, decide_eq_false_iff_not] at hc) <;> (first | (exfalso; omega) | skip) <;> simp [-List.reduceReplicate, Nat.add_one_le_iff, -getElem?_pos, -getElem?_neg, List.getElem?_cons_zero, List.getElem?_cons_succ, iC, bC, c, hc])
     | (with_reducible refine And.intro (by omega) ?_)
     | fail)
  · rw [if_neg c] at hre2
    have hii : 0 ≤ i ∧ i < (a.length : Int) ∧ 0 ≤ k ∧ k < (b.length : Int) := by
      rcases hr with h | h
      · rw [h] at hi; simp at hi; omega
      · rw [hi, hk] at h; exact h
    obtain ⟨i', rfl⟩ : ∃ i' : Nat, i = (i' : Int) := ⟨i.toNat, by omega⟩
    obtain ⟨k', rfl⟩ : ∃ k' : Nat, k = (k' : Int) := ⟨k.toNat, by omega⟩
    have pa1 := pa i' (by omega)
    have pb1 := pb k' (by omega)
    have qa1 := qa i'
    have qb1 := qb k'
    rw [na, nb] at hre2
    have pc1 := pc i' (bestN (zb.drop (k' + 1)) m 256).1
    rw [← hre2] at pc1
    generalize bestN (za.drop (i' + 1)) m 256 = x at *
    generalize bestN (zb.drop (k' + 1)) m 256 = y at *
    generalize za.drop (i' + 1) = xa at *
    generalize zb.drop (k' + 1) = xb at *
    have c2 : ¬ ((i' : Int) < 0) := by omega
    unfold sideM sideL intsC at *
    refine den_of Try.func40 rfl rfl (by simp [Try.ntmps40]) (fun X hX hO => ?_)
    rw [Try.ntmps40] at hX
    simp only [Try.results40]
    repeat' (first 
     | (with_reducible first | refine awp_scope ?_ | refine awp_seq ?_ | refine awp_block ?_)
     | ((with_reducible first | refine awp_label ?_ | refine awp_skip ?_); try simp only [thenA, inBlockA, noGotoA])
     | (with_reducible refine awp_exit ?_; simp only [thenA, inBlockA, noGotoA, if_true, Nat.reduceEqDiff, if_false, ↓reduceIte])
     | (with_reducible refine awp_ret ?_; (try simp only [thenA, inBlockA, noGotoA]); (try simp [-List.reduceReplicate, Nat.add_one_le_iff, -getElem?_pos, -getElem?_neg, List.getElem?_cons_zero, List.getElem?_cons_succ, iC, bC, c2]))
     | ((with_reducible first | refine awp_reg 44 hX [2, 3, 4, 6, 7, 8, 9, 11, 22] ?_ | change postOf _ _ _ _ _); simp [-List.reduceReplicate, Nat.add_one_le_iff, -getElem?_pos, -getElem?_neg, List.getElem?_cons_zero, List.getElem?_cons_succ, iC, bC, c2])
     | ((first | (refine (p1 _).det ?_) | (refine (pa1 _).det ?_) | (refine (pb1 _).det ?_) | (refine (qa1 _).det ?_) | (refine (qb1 _).det ?_) | (refine (pc1 _).det ?_)); try simp [-List.reduceReplicate, Nat.add_one_le_iff, -getElem?_pos, -getElem?_neg, List.getElem?_cons_zero, List.getElem?_cons_succ, iC, bC, c2])
     | (with_reducible refine awp_if_b rfl (fun hc => ?_) (fun hc => ?_) <;> (try simp [-getElem?_pos, -getElem?_neg] at hc) <;> (try (exfalso; omega)))
     | ((with_reducible first | refine GuardK_b (fun hc => ?_) (fun hc => ?_)) <;> (try simp only [Bool.not_eq_true', Bool.not_eq_false', decide_eq_true_eq, decide_eq_false_iff_not] at hc) <;> (first | (exfalso; omega) | skip) <;> simp [-List.reduceReplicate, Nat.add_one_le_iff, -getElem?_pos, -getElem?_neg, List.getElem?_cons_zero, List.getElem?_cons_succ, iC, bC, c2, hc])
     | (with_reducible refine And.intro (by omega) ?_)
     | fail)
end Go.Av

set_option linter.unusedVariables false
set_option linter.unusedSimpArgs false
set_option maxRecDepth 100000
set_option maxHeartbeats 4000000
namespace Go.Av
open Go Go.Proofs Go.Proofs.Ytofomnllcmgfeaa Go.RowKit
/-! ### Limbs of an array within an object -/
set_option maxHeartbeats 8000000 in
theorem limbsM_den (v : Nat) (lv : Int) (hv0 : v < 2 ^ (64 * 5)) (ob : List Ob) (p : Nat) (hget : ob[p]? = some ⟨52, 1, false, 0, up (limL v ++ [iC lv]), none⟩) :
    Den Try.prog 45 [.ms p 0 0 5] ob (fun r ob' => r = .c (ndC (dg v)) ∧ ob' = ob) := by
  obtain ⟨l, hldef⟩ : ∃ l, l = [lim v 0, lim v 1, lim v 2, lim v 3, lim v 4] := ⟨_, rfl⟩
  obtain ⟨n, hn5⟩ : ∃ n, n = 5 := ⟨_, rfl⟩
  have hn : l.length = n := by rw [hldef, hn5]; rfl
  have hN : n ≤ 100000 := by omega
  have h0 : 0 < n := by omega
  have hl : ∀ x ∈ l, x < 18446744073709551616 := fun x hx => by
    rw [hldef] at hx
    simp only [List.mem_cons, List.not_mem_nil, or_false] at hx
    rcases hx with rfl | rfl | rfl | rfl | rfl <;> exact lim_lt _ _
  have hv5 : v64 l = v := by rw [hldef]; exact v64_lims v hv0
  obtain ⟨sc, hsc⟩ : ∃ sc, sc = limL v ++ [iC lv] := ⟨_, rfl⟩
  have hscl : sc.length = 6 := by rw [hsc]; rfl
  have hscg : ∀ i x, l[i]? = some x → sc[i]? = some (u64C x) := fun i x h => by
    rw [hldef] at h
    rw [hsc]
    have h5 : i < 5 := by have := (List.getElem?_eq_some_iff.1 h).1; simpa using this
    obtain rfl | rfl | rfl | rfl | rfl : i = 0 ∨ i = 1 ∨ i = 2 ∨ i = 3 ∨ i = 4 := by omega
    all_goals (simp at h; subst h; rfl)
  rw [← hsc] at hget
  have hpl := (List.getElem?_eq_some_iff.1 hget).1
  have hgo : ∀ o, (ob ++ [o])[p]? = some ⟨52, 1, false, 0, up sc, none⟩ := fun o => by rw [List.getElem?_append_left hpl]; exact hget
  clear hldef
  have hv : trm (d4s l) = dg v := by rw [trm_dg _ (d4s_lt l), d4s_val l hl, hv5]
  have p1 := trim_den (d4s l) false (4 * n) (by rw [d4s_len, hn]) (by omega)
  rw [hv] at p1
  have hst := d4s_take l
  have hsl := fun i => d4s_len (l.take i)
  have hs0 : d4s (l.take 0) = [] := rfl
  have hsn : d4s (l.take n) = d4s l := by rw [List.take_of_length_le (by omega)]
  obtain ⟨D, hD⟩ : ∃ D : Nat → List Nat, ∀ i, d4s (l.take i) = D i := ⟨_, fun _ => rfl⟩
  simp only [hD] at *
  have hDl : ∀ i, i ≤ n → (D i).length = 4 * i := fun i hi => by rw [hsl, List.length_take, Nat.min_eq_left (by omega)]
  clear hsl hD hv
  refine den_of Try.func45 rfl rfl (by simp [Try.ntmps45]) (fun X hX hO => ?_)
  rw [Try.ntmps45] at hX
  simp only [Try.results45]
  repeat' (first 
   | (with_reducible first | refine awp_scope ?_ | refine awp_seq ?_ | refine awp_block ?_)
   | ((with_reducible first | refine awp_label ?_ | refine awp_skip ?_); try simp only [thenA, inBlockA, noGotoA])
   | (with_reducible refine awp_exit ?_; simp only [thenA, inBlockA, noGotoA, if_true, Nat.reduceEqDiff, if_false, ↓reduceIte])
   | (with_reducible refine awp_ret ?_; (try simp only [thenA, inBlockA, noGotoA]); (try simp [-List.reduceReplicate, Nat.add_one_le_iff, -getElem?_pos, -getElem?_neg, List.getElem?_cons_zero, List.getElem?_cons_succ, hget]))
   | ((with_reducible first | refine awp_reg 31 hX [0, 2, 3, 4, 5, 6, 10, 18] ?_ | change postOf _ _ _ _ _); simp [-List.reduceReplicate, Nat.add_one_le_iff, -getElem?_pos, -getElem?_neg, List.getElem?_cons_zero, List.getElem?_cons_succ, hget])
   | (with_reducible refine awp_if_b rfl (fun hc => ?_) (fun hc => ?_) <;> (try simp [-getElem?_pos, -getElem?_neg] at hc) <;> (try (exfalso; omega)))
   | ((with_reducible first | refine GuardK_b (fun hc => ?_) (fun hc => ?_)) <;> (try simp only [Bool.not_eq_true', Bool.not_eq_false', decide_eq_true_eq, decide_eq_false_iff_not] at hc) <;> (first | (exfalso; omega) | skip) <;> simp [-List.reduceReplicate, Nat.add_one_le_iff, -getElem?_pos, -getElem?_neg, List.getElem?_cons_zero, List.getElem?_cons_succ, hget, hc])
   | ((with_reducible first | refine hother _ _ rfl ?_ | refine hother2 _ _ rfl ?_); simp only [inBlockA, thenA, noGotoA, Nat.reduceEqDiff, if_false, if_true, ↓reduceIte])
   | (with_reducible refine And.intro (by omega) ?_)
   | fail)
  refine awp_nil 3 3 1 (by simp) ?_
  simp
  refine awp_forU [0, 3, 4] (fun i (g : Nat × Bool) => [(3, .ms ob.length g.1 0 (4 * i)), (4, .c (iC i))]) (fun i (g : Nat × Bool) => ob ++ [⟨3, 1, g.2, g.1, up ((D i).map nI), none⟩]) (fun i (g : Nat × Bool) => True) (n) ((0, true)) (by first | trivial | (simp; done) | omega | (intros; simp at *; done)) (by simp [-List.reduceReplicate, keep, iC, hs0]) (by simp [-List.reduceReplicate, iC, hs0]) ?_
  rintro i g Q1 hi hH next hother
  conv => arg 5; arg 1; simp only [List.cons_append, List.nil_append, keep, get, Nat.reduceEqDiff, if_true, if_false, ↓reduceIte]
  have hwi := wrap_in ((i : Int) + 1) (by omega)
  by_cases hlt : i < n
  · obtain ⟨x, hx⟩ : ∃ x, l[i]? = some x := ⟨_, List.getElem?_eq_getElem (by omega)⟩
    have hxl := hl x (List.mem_of_getElem? hx)
    have hsi := hst i x hx
    have hdl := hDl i (by omega)
    have hsi2 := hscg i x hx
    have hn5' : (i : Int) < 5 := by omega
    have hi6 : i < 6 := by omega
    unfold u64C at hsi2
    repeat' (first 
     | (with_reducible first | refine awp_scope ?_ | refine awp_seq ?_ | refine awp_block ?_)
     | ((with_reducible first | refine awp_label ?_ | refine awp_skip ?_); try simp only [thenA, inBlockA, noGotoA])
     | (with_reducible refine awp_exit ?_; simp only [thenA, inBlockA, noGotoA, if_true, Nat.reduceEqDiff, if_false, ↓reduceIte])
     | (with_reducible refine awp_ret ?_; (try simp only [thenA, inBlockA, noGotoA]); (try simp [-List.reduceReplicate, Nat.add_one_le_iff, -getElem?_pos, -getElem?_neg, List.getElem?_cons_zero, List.getElem?_cons_succ, iC, hlt, hx, hgo, hsi2, hscl, hn5', hn5, hi6]))
     | ((with_reducible first | refine awp_reg 31 hX [0, 2, 3, 4, 5, 6, 10, 18] ?_ | change postOf _ _ _ _ _); simp [-List.reduceReplicate, Nat.add_one_le_iff, -getElem?_pos, -getElem?_neg, List.getElem?_cons_zero, List.getElem?_cons_succ, iC, hlt, hx, hgo, hsi2, hscl, hn5', hn5, hi6])
     | (with_reducible refine awp_if_b rfl (fun hc => ?_) (fun hc => ?_) <;> (try simp [-getElem?_pos, -getElem?_neg] at hc) <;> (try (exfalso; omega)))
     | ((with_reducible first | refine GuardK_b (fun hc => ?_) (fun hc => ?_)) <;> (try simp only [Bool.not_eq_true', Bool.not_eq_false', decide_eq_true_eq, decide_eq_false_iff_not] at hc) <;> (first | (exfalso; omega) | skip) <;> simp [-List.reduceReplicate, Nat.add_one_le_iff, -getElem?_pos, -getElem?_neg, List.getElem?_cons_zero, List.getElem?_cons_succ, iC, hlt, hx, hgo, hsi2, hscl, hn5', hn5, hi6, hc])
     | ((with_reducible first | refine hother _ _ rfl ?_ | refine hother2 _ _ rfl ?_); simp only [inBlockA, thenA, noGotoA, Nat.reduceEqDiff, if_false, if_true, ↓reduceIte])
     | (with_reducible refine And.intro (by omega) ?_)
     | fail)
    have next1 := next; have hother2 := hother; clear next hother
    have f1 : x / 65536 < 18446744073709551616 := by omega
    obtain ⟨XK, hXK0, hXK1, hXKb⟩ : ∃ XK : Nat → Nat, XK 0 = x ∧ (∀ k, XK (k + 1) = XK k / 65536) ∧ d4 x = [XK 0 % 65536, XK 1 % 65536, XK 2 % 65536, XK 3 % 65536] :=
      ⟨fun k => x / 65536 ^ k, by simp, fun k => by simp only; rw [Nat.div_div_eq_div_mul, Nat.pow_succ], by simp [d4, Nat.div_div_eq_div_mul]⟩
    have hXl : ∀ k, k ≤ 4 → XK k < 18446744073709551616 := by
      intro k
      induction k with
      | zero => intro _; omega
      | succ k ih => intro hk; have := ih (by omega); rw [hXK1]; omega
    obtain ⟨T, hT0, hT4, hT1, hTl⟩ : ∃ T : Nat → List Nat, T 0 = D i ∧ T 4 = D (i + 1) ∧ (∀ k, k < 4 → T (k + 1) = T k ++ [XK k % 65536]) ∧ ∀ k, k ≤ 4 → (T k).length = 4 * i + k := by
      refine ⟨fun k => D i ++ (d4 x).take k, by simp, by rw [hsi]; rfl, fun k hk => ?_, fun k hk => by simp [hdl, d4]; omega⟩
      rw [hXKb]
      match k, hk with
      | 0, _ => simp
      | 1, _ => simp
      | 2, _ => simp
      | 3, _ => simp
    rw [← hT0]
    clear hXKb hsi
    refine awp_forU [0, 3, 4, 5, 6] (fun k (q : Nat × Bool) => [(3, .ms ob.length q.1 0 (4 * i + k)), (5, .c (u64C (XK k))), (6, .c (iC k))]) (fun k (q : Nat × Bool) => ob ++ [⟨3, 1, q.2, q.1, up ((T k).map nI), none⟩]) (fun k (q : Nat × Bool) => True) (4) (g) (by first | trivial | (simp; done) | omega | (intros; simp at *; done)) (by simp [-List.reduceReplicate, keep, iC, u64C, hXK0]) (by simp [-List.reduceReplicate, iC, u64C, hXK0]) ?_
    rintro k q Q1 hi hH next hother
    conv => arg 5; arg 1; simp only [List.cons_append, List.nil_append, keep, get, Nat.reduceEqDiff, if_true, if_false, ↓reduceIte]
    have hwk := wrap_in ((k : Int) + 1) (by omega)
    by_cases hk4 : k < 4
    · have hk2 : (k : Int) < 4 := by omega
      have hxk := hXl k (by omega)
      have t1 := hT1 k hk4
      have tl := hTl k (by omega)
      have s1 := hXK1 k
      have m1 : ((XK k : Int)).tmod 65536 = ((XK k % 65536 : Nat) : Int) := rfl
      have w1 := wrap_in ((XK k % 65536 : Nat) : Int) (by have := Nat.mod_lt (XK k) (show 65536 > 0 by decide); omega)
      have m2 : ((XK k : Int)).tdiv 65536 = ((XK k / 65536 : Nat) : Int) := rfl
      have w2 := wrapU64 ((XK k / 65536 : Nat) : Int) (by omega)
      have hlt2 : (XK k / 65536 : Nat) < 18446744073709551616 := by omega
      rw [← s1] at m2 w2
      generalize XK (k + 1) = xk1 at *
      generalize XK k % 65536 = dk at *
      repeat' (first 
       | (with_reducible first | refine awp_scope ?_ | refine awp_seq ?_ | refine awp_block ?_)
       | ((with_reducible first | refine awp_label ?_ | refine awp_skip ?_); try simp only [thenA, inBlockA, noGotoA])
       | (with_reducible refine awp_exit ?_; simp only [thenA, inBlockA, noGotoA, if_true, Nat.reduceEqDiff, if_false, ↓reduceIte])
       | (with_reducible refine awp_ret ?_; (try simp only [thenA, inBlockA, noGotoA]); (try simp [-List.reduceReplicate, Nat.add_one_le_iff, -getElem?_pos, -getElem?_neg, List.getElem?_cons_zero, List.getElem?_cons_succ, iC, bC, u64C, nI, hk2, m1, w1, m2, w2, tl, roomB, hwk]))
       | ((with_reducible first | refine awp_reg 31 hX [0, 2, 3, 4, 5, 6, 10, 18] ?_ | change postOf _ _ _ _ _); simp [-List.reduceReplicate, Nat.add_one_le_iff, -getElem?_pos, -getElem?_neg, List.getElem?_cons_zero, List.getElem?_cons_succ, iC, bC, u64C, nI, hk2, m1, w1, m2, w2, tl, roomB, hwk])
       | (with_reducible refine awp_if_b rfl (fun hc => ?_) (fun hc => ?_) <;> (try simp [-getElem?_pos, -getElem?_neg] at hc) <;> (try (exfalso; omega)))
       | ((with_reducible first | refine GuardK_b (fun hc => ?_) (fun hc => ?_)) <;> (try simp only [Bool.not_eq_true', Bool.not_eq_false', decide_eq_true_eq, decide_eq_false_iff_not] at hc) <;> (first | (exfalso; omega) | skip) <;> simp [-List.reduceReplicate, Nat.add_one_le_iff, -getElem?_pos, -getElem?_neg, List.getElem?_cons_zero, List.getElem?_cons_succ, iC, bC, u64C, nI, hk2, m1, w1, m2, w2, tl, roomB, hwk, hc])
       | ((with_reducible first | refine hother _ _ rfl ?_ | refine hother2 _ _ rfl ?_); simp only [inBlockA, thenA, noGotoA, Nat.reduceEqDiff, if_false, if_true, ↓reduceIte])
       | (with_reducible refine And.intro (by omega) ?_)
       | fail)
      refine next _ _ ((q.1 + 1, false)) (by omega) (by first | trivial | omega | assumption) (by simp [-List.reduceReplicate, keep, iC, u64C, nI, t1, Nat.add_assoc]) (by simp [-List.reduceReplicate, iC, u64C, nI, t1, Nat.add_assoc])
    · have hk3 : k = 4 := by omega
      subst hk3
      have e4 : 4 * (i + 1) = 4 * i + 4 := by omega
      repeat' (first 
       | (with_reducible first | refine awp_scope ?_ | refine awp_seq ?_ | refine awp_block ?_)
       | ((with_reducible first | refine awp_label ?_ | refine awp_skip ?_); try simp only [thenA, inBlockA, noGotoA])
       | (with_reducible refine awp_exit ?_; simp only [thenA, inBlockA, noGotoA, if_true, Nat.reduceEqDiff, if_false, ↓reduceIte])
       | (with_reducible refine awp_ret ?_; (try simp only [thenA, inBlockA, noGotoA]); (try simp [-List.reduceReplicate, Nat.add_one_le_iff, -getElem?_pos, -getElem?_neg, List.getElem?_cons_zero, List.getElem?_cons_succ, iC, bC, u64C, hwi]))
       | ((with_reducible first | refine awp_reg 31 hX [0, 2, 3, 4, 5, 6, 10, 18] ?_ | change postOf _ _ _ _ _); simp [-List.reduceReplicate, Nat.add_one_le_iff, -getElem?_pos, -getElem?_neg, List.getElem?_cons_zero, List.getElem?_cons_succ, iC, bC, u64C, hwi])
       | (with_reducible refine awp_if_b rfl (fun hc => ?_) (fun hc => ?_) <;> (try simp [-getElem?_pos, -getElem?_neg] at hc) <;> (try (exfalso; omega)))
       | ((with_reducible first | refine GuardK_b (fun hc => ?_) (fun hc => ?_)) <;> (try simp only [Bool.not_eq_true', Bool.not_eq_false', decide_eq_true_eq, decide_eq_false_iff_not] at hc) <;> (first | (exfalso; omega) | skip) <;> simp [-List.reduceReplicate, Nat.add_one_le_iff, -getElem?_pos, -getElem?_neg, List.getElem?_cons_zero, List.getElem?_cons_succ, iC, bC, u64C, hwi, hc])
       | ((with_reducible first | refine hother _ _ rfl ?_ | refine hother2 _ _ rfl ?_); simp only [inBlockA, thenA, noGotoA, Nat.reduceEqDiff, if_false, if_true, ↓reduceIte])
       | (with_reducible refine And.intro (by omega) ?_)
       | fail)
      refine next1 _ _ (q) (by omega) (by first | trivial | omega | assumption) (by simp [-List.reduceReplicate, keep, iC, hT4, e4]) (by simp [-List.reduceReplicate, iC, hT4, e4])
  · have hi2 : i = n := by omega
    subst hi2
    have hexit := hother; clear hother next
    repeat' (first 
     | (with_reducible first | refine awp_scope ?_ | refine awp_seq ?_ | refine awp_block ?_)
     | ((with_reducible first | refine awp_label ?_ | refine awp_skip ?_); try simp only [thenA, inBlockA, noGotoA])
     | (with_reducible refine awp_exit ?_; simp only [thenA, inBlockA, noGotoA, if_true, Nat.reduceEqDiff, if_false, ↓reduceIte])
     | (with_reducible refine awp_ret ?_; (try simp only [thenA, inBlockA, noGotoA]); (try simp [-List.reduceReplicate, Nat.add_one_le_iff, -getElem?_pos, -getElem?_neg, List.getElem?_cons_zero, List.getElem?_cons_succ, iC, bC, hgo, hn5]))
     | ((with_reducible first | refine awp_reg 31 hX [0, 2, 3, 4, 5, 6, 10, 18] ?_ | change postOf _ _ _ _ _); simp [-List.reduceReplicate, Nat.add_one_le_iff, -getElem?_pos, -getElem?_neg, List.getElem?_cons_zero, List.getElem?_cons_succ, iC, bC, hgo, hn5])
     | (with_reducible refine awp_if_b rfl (fun hc => ?_) (fun hc => ?_) <;> (try simp [-getElem?_pos, -getElem?_neg] at hc) <;> (try (exfalso; omega)))
     | ((with_reducible first | refine GuardK_b (fun hc => ?_) (fun hc => ?_)) <;> (try simp only [Bool.not_eq_true', Bool.not_eq_false', decide_eq_true_eq, decide_eq_false_iff_not] at hc) <;> (first | (exfalso; omega) | skip) <;> simp [-List.reduceReplicate, Nat.add_one_le_iff, -getElem?_pos, -getElem?_neg, List.getElem?_cons_zero, List.getElem?_cons_succ, iC, bC, hgo, hn5, hc])
     | ((with_reducible first | refine hother _ _ rfl ?_ | refine hother2 _ _ rfl ?_); simp only [inBlockA, thenA, noGotoA, Nat.reduceEqDiff, if_false, if_true, ↓reduceIte])
     | (with_reducible refine And.intro (by omega) ?_)
     | fail)
    refine hexit _ _ rfl ?_
    simp only [inBlockA, thenA, ↓reduceIte]
    have hsn5 : D 5 = d4s l := by rw [← hn5]; exact hsn
    rw [hn5] at p1
    refine awp_frz2 3 ob [] [] _ ((D 5).map nI) 20 hO rfl (by simp [get]) rfl (by simp [ltB, hpl]) (by simp) ?_
    rw [hsn5]
    repeat' (first 
     | (with_reducible first | refine awp_scope ?_ | refine awp_seq ?_ | refine awp_block ?_)
     | ((with_reducible first | refine awp_label ?_ | refine awp_skip ?_); try simp only [thenA, inBlockA, noGotoA])
     | (with_reducible refine awp_exit ?_; simp only [thenA, inBlockA, noGotoA, if_true, Nat.reduceEqDiff, if_false, ↓reduceIte])
     | (with_reducible refine awp_ret ?_; (try simp only [thenA, inBlockA, noGotoA]); (try simp [-List.reduceReplicate, Nat.add_one_le_iff, -getElem?_pos, -getElem?_neg, List.getElem?_cons_zero, List.getElem?_cons_succ, iC, bC]))
     | ((with_reducible first | refine awp_reg 31 hX [0, 2, 3, 4, 5, 6, 10, 18] ?_ | change postOf _ _ _ _ _); simp [-List.reduceReplicate, Nat.add_one_le_iff, -getElem?_pos, -getElem?_neg, List.getElem?_cons_zero, List.getElem?_cons_succ, iC, bC])
     | ((first | (refine (p1 _).det ?_)); try simp [-List.reduceReplicate, Nat.add_one_le_iff, -getElem?_pos, -getElem?_neg, List.getElem?_cons_zero, List.getElem?_cons_succ, iC, bC])
     | (with_reducible refine awp_if_b rfl (fun hc => ?_) (fun hc => ?_) <;> (try simp [-getElem?_pos, -getElem?_neg] at hc) <;> (try (exfalso; omega)))
     | ((with_reducible first | refine GuardK_b (fun hc => ?_) (fun hc => ?_)) <;> (try simp only [Bool.not_eq_true', Bool.not_eq_false', decide_eq_true_eq, decide_eq_false_iff_not] at hc) <;> (first | (exfalso; omega) | skip) <;> simp [-List.reduceReplicate, Nat.add_one_le_iff, -getElem?_pos, -getElem?_neg, List.getElem?_cons_zero, List.getElem?_cons_succ, iC, bC, hc])
     | ((with_reducible first | refine hother _ _ rfl ?_ | refine hother2 _ _ rfl ?_); simp only [inBlockA, thenA, noGotoA, Nat.reduceEqDiff, if_false, if_true, ↓reduceIte])
     | (with_reducible refine And.intro (by omega) ?_)
     | fail)
end Go.Av

set_option linter.unusedVariables false
set_option linter.unusedSimpArgs false
set_option maxRecDepth 100000
set_option maxHeartbeats 4000000
namespace Go.Av
open Go Go.Proofs Go.Proofs.Ytofomnllcmgfeaa Go.RowKit
/-! ### DuelScores -/
def great42 (a : List H32) (za : List Int) : Bool := decide (40 < a.length) || decide (40 < za.length)
theorem great42_den (a : List H32) (za : List Int) : DenV Try.prog 35 [sideM a za] (.c (bC (great42 a za))) := by
  refine Den.frame rfl rfl ?_
  unfold sideM sideL great42
  refine den_of Try.func35 rfl rfl (by simp [Try.ntmps35]) (fun X hX hO => ?_)
  rw [Try.ntmps35] at hX
  simp only [Try.results35]
  by_cases c : 40 < a.length
  · have c2 : (40 : Int) < a.length := by omega
    repeat' (first 
     | (with_reducible first | refine awp_scope ?_ | refine awp_seq ?_ | refine awp_block ?_)
     | ((with_reducible first | refine awp_label ?_ | refine awp_skip ?_); try simp only [thenA, inBlockA, noGotoA])
     | (with_reducible refine awp_exit ?_; simp only [thenA, inBlockA, noGotoA, if_true, Nat.reduceEqDiff, if_false, ↓reduceIte])
     | (with_reducible refine awp_ret ?_; (try simp only [thenA, inBlockA, noGotoA]); (try simp [-List.reduceReplicate, Nat.add_one_le_iff, -getElem?_pos, -getElem?_neg, List.getElem?_cons_zero, List.getElem?_cons_succ, iC, bC, c, c2]))
     | ((with_reducible first | refine awp_reg 13 hX [1, 2] ?_ | change postOf _ _ _ _ _); simp [-List.reduceReplicate, Nat.add_one_le_iff, -getElem?_pos, -getElem?_neg, List.getElem?_cons_zero, List.getElem?_cons_succ, iC, bC, c, c2])
     | (with_reducible refine awp_if_b rfl (fun hc => ?_) (fun hc => ?_) <;> (try simp [-getElem?_pos, -getElem?_neg] at hc) <;> (try (exfalso; omega)))
     | ((with_reducible first | refine GuardK_b (fun hc => ?_) (fun hc => ?_)) <;> (try simp only [Bool.not_eq_true', Bool.not_eq_false', decide_eq_true_eq, decide_eq_false_iff_not] at hc) <;> (first | (exfalso; omega) | skip) <;> simp [-List.reduceReplicate, Nat.add_one_le_iff, -getElem?_pos, -getElem?_neg, List.getElem?_cons_zero, List.getElem?_cons_succ, iC, bC, c, c2, hc])
     | (with_reducible refine And.intro (by omega) ?_)
     | fail)
  · have c2 : ¬ (40 : Int) < a.length := by omega
    repeat' (first 
     | (with_reducible first | refine awp_scope ?_ | refine awp_seq ?_ | refine awp_block ?_)
     | ((with_reducible first | refine awp_label ?_ | refine awp_skip ?_); try simp only [thenA, inBlockA, noGotoA])
     | (with_reducible refine awp_exit ?_; simp only [thenA, inBlockA, noGotoA, if_true, Nat.reduceEqDiff, if_false, ↓reduceIte])
     | (with_reducible refine awp_ret ?_; (try simp only [thenA, inBlockA, noGotoA]); (try simp [-List.reduceReplicate, Nat.add_one_le_iff, -getElem?_pos, -getElem?_neg, List.getElem?_cons_zero, List.getElem?_cons_succ, iC, bC, c, c2]))
     | ((with_reducible first | refine awp_reg 13 hX [1, 2] ?_ | change postOf _ _ _ _ _); simp [-List.reduceReplicate, Nat.add_one_le_iff, -getElem?_pos, -getElem?_neg, List.getElem?_cons_zero, List.getElem?_cons_succ, iC, bC, c, c2])
     | (with_reducible refine awp_if_b rfl (fun hc => ?_) (fun hc => ?_) <;> (try simp [-getElem?_pos, -getElem?_neg] at hc) <;> (try (exfalso; omega)))
     | ((with_reducible first | refine GuardK_b (fun hc => ?_) (fun hc => ?_)) <;> (try simp only [Bool.not_eq_true', Bool.not_eq_false', decide_eq_true_eq, decide_eq_false_iff_not] at hc) <;> (first | (exfalso; omega) | skip) <;> simp [-List.reduceReplicate, Nat.add_one_le_iff, -getElem?_pos, -getElem?_neg, List.getElem?_cons_zero, List.getElem?_cons_succ, iC, bC, c, c2, hc])
     | (with_reducible refine And.intro (by omega) ?_)
     | fail)
    omega
theorem ours_den (a : List H32) (za : List Int) : DenV Try.prog 41 [sideM a za] (sideM a za) := by
  refine Den.frame rfl rfl ?_
  unfold sideM sideL
  refine den_of Try.func41 rfl rfl (by simp [Try.ntmps41]) (fun X hX hO => ?_)
  rw [Try.ntmps41] at hX
  simp only [Try.results41]
  repeat' (first 
   | (with_reducible first | refine awp_scope ?_ | refine awp_seq ?_ | refine awp_block ?_)
   | ((with_reducible first | refine awp_label ?_ | refine awp_skip ?_); try simp only [thenA, inBlockA, noGotoA])
   | (with_reducible refine awp_exit ?_; simp only [thenA, inBlockA, noGotoA, if_true, Nat.reduceEqDiff, if_false, ↓reduceIte])
   | (with_reducible refine awp_ret ?_; (try simp only [thenA, inBlockA, noGotoA]); (try simp [-List.reduceReplicate, Nat.add_one_le_iff, -getElem?_pos, -getElem?_neg, List.getElem?_cons_zero, List.getElem?_cons_succ, up]))
   | ((with_reducible first | refine awp_reg 8 hX [1, 2] ?_ | change postOf _ _ _ _ _); simp [-List.reduceReplicate, Nat.add_one_le_iff, -getElem?_pos, -getElem?_neg, List.getElem?_cons_zero, List.getElem?_cons_succ, up])
   | (with_reducible refine awp_if_b rfl (fun hc => ?_) (fun hc => ?_) <;> (try simp [-getElem?_pos, -getElem?_neg] at hc) <;> (try (exfalso; omega)))
   | ((with_reducible first | refine GuardK_b (fun hc => ?_) (fun hc => ?_)) <;> (try simp only [Bool.not_eq_true', Bool.not_eq_false', decide_eq_true_eq, decide_eq_false_iff_not] at hc) <;> (first | (exfalso; omega) | skip) <;> simp [-List.reduceReplicate, Nat.add_one_le_iff, -getElem?_pos, -getElem?_neg, List.getElem?_cons_zero, List.getElem?_cons_succ, up, hc])
   | (with_reducible refine And.intro (by omega) ?_)
   | fail)
theorem great42_no {a : List H32} {za : List Int} (h : great42 a za = false) : a.length ≤ 40 ∧ za.length ≤ 40 := by
  unfold great42 at h
  simp only [Bool.or_eq_false_iff, decide_eq_false_iff_not] at h
  omega
def hOf (b : UInt8) : H32 := ⟨b :: List.replicate 31 0, rfl⟩
theorem awake42_den : DenV Try.prog 36 [] (.c (bC true)) := by
  refine Den.frame rfl rfl ?_
  have p1 := verdict_den [hOf 1, hOf 2] [hOf 1, hOf 3] [256, 3] [256, 0] 1 (by simp) (by simp) (by simp) (by simp)
  have p2 := verdict_den [hOf 1, hOf 3] [hOf 1, hOf 2] [256, 0] [256, 3] 1 (by simp) (by simp) (by simp) (by simp)
  have p3 := verdict_den [hOf 1, hOf 2] [hOf 1, hOf 2] [256, 3] [256, 3] 1 (by simp) (by simp) (by simp) (by simp)
  rw [show vrdN [hOf 1, hOf 2] [hOf 1, hOf 3] [256, 3] [256, 0] 1 = 1 by decide +kernel] at p1
  rw [show vrdN [hOf 1, hOf 3] [hOf 1, hOf 2] [256, 0] [256, 3] 1 = -1 by decide +kernel] at p2
  rw [show vrdN [hOf 1, hOf 2] [hOf 1, hOf 2] [256, 3] [256, 3] 1 = 0 by decide +kernel] at p3
  have e12 : hsC [hOf 1, hOf 2] = (hOf 1).1.map bC8 ++ (hOf 2).1.map bC8 := by simp [hsC]
  have e13 : hsC [hOf 1, hOf 3] = (hOf 1).1.map bC8 ++ (hOf 3).1.map bC8 := by simp [hsC]
  unfold sideM sideL at p1 p2 p3
  rw [e12, e13] at p1 p2
  rw [e12] at p3
  have z0 : zeroT Try.prog 71 = some (up ((hOf 0).1.map bC8)) := by kernel_rfl
  have s1 : ((hOf 0).1.map bC8).set 0 (.v (.int .u8 1)) = (hOf 1).1.map bC8 := by rfl
  have s2 : ((hOf 0).1.map bC8).set 0 (.v (.int .u8 2)) = (hOf 2).1.map bC8 := by rfl
  have s3 : ((hOf 0).1.map bC8).set 0 (.v (.int .u8 3)) = (hOf 3).1.map bC8 := by rfl
  have l0 : ((hOf 0).1.map bC8).length = 32 := by rfl
  have l1 : ((hOf 1).1.map bC8).length = 32 := by rfl
  have l2 : ((hOf 2).1.map bC8).length = 32 := by rfl
  have l3 : ((hOf 3).1.map bC8).length = 32 := by rfl
  generalize (hOf 0).1.map bC8 = c0 at *
  generalize (hOf 1).1.map bC8 = c1 at *
  generalize (hOf 2).1.map bC8 = c2 at *
  generalize (hOf 3).1.map bC8 = c3 at *
  obtain ⟨y1, y2⟩ := lay_pair c0 c1 c2 32 l0 l1 l2 (by decide)
  obtain ⟨_, y3⟩ := lay_pair c0 c1 c3 32 l0 l1 l3 (by decide)
  have le2 : ∀ (x y : List C) (z w : List C) (x' y' z' w' : List C), LeMs [.agg (up [.sl x 2 true, .sl z 2 true]), .agg (up [.sl y 2 true, .sl w 2 true]), .c (iC 1)] [.agg (up [.sl x 2 false, .sl z 2 false]), .agg (up [.sl y 2 false, .sl w 2 false]), .c (iC 1)] := fun x y z w _ _ _ _ =>
    ⟨leM_agg ⟨leM_c (leC_full _ _ _), leM_c (leC_full _ _ _), trivial⟩, leM_agg ⟨leM_c (leC_full _ _ _), leM_c (leC_full _ _ _), trivial⟩, leM_refl _, trivial⟩
  have q1 := fun ob => (p1 ob).le (le2 _ _ _ _ [] [] [] [])
  have q2 := fun ob => (p2 ob).le (le2 _ _ _ _ [] [] [] [])
  have q3 := fun ob => (p3 ob).le (le2 _ _ _ _ [] [] [] [])
  simp only [List.map_cons, List.map_nil, iC] at q1 q2 q3
  refine den_of Try.func36 rfl rfl (by simp [Try.ntmps36]) (fun X hX hO => ?_)
  rw [Try.ntmps36] at hX
  simp only [Try.results36]
  repeat' (first 
   | (with_reducible first | refine awp_scope ?_ | refine awp_seq ?_ | refine awp_block ?_)
   | ((with_reducible first | refine awp_label ?_ | refine awp_skip ?_); try simp only [thenA, inBlockA, noGotoA])
   | (with_reducible refine awp_exit ?_; simp only [thenA, inBlockA, noGotoA, if_true, Nat.reduceEqDiff, if_false, ↓reduceIte])
   | (with_reducible refine awp_ret ?_; (try simp only [thenA, inBlockA, noGotoA]); (try simp [-List.reduceReplicate, Nat.add_one_le_iff, -getElem?_pos, -getElem?_neg, List.getElem?_cons_zero, List.getElem?_cons_succ, iC, bC, z0, s1, s2, s3, l0, l1, l2, l3, y1, y2, y3, -Tab.zero71]))
   | ((with_reducible first | refine awp_reg 29 hX [0, 1, 2] ?_ | change postOf _ _ _ _ _); simp [-List.reduceReplicate, Nat.add_one_le_iff, -getElem?_pos, -getElem?_neg, List.getElem?_cons_zero, List.getElem?_cons_succ, iC, bC, z0, s1, s2, s3, l0, l1, l2, l3, y1, y2, y3, -Tab.zero71])
   | ((first | (refine (q1 _).det ?_) | (refine (q2 _).det ?_) | (refine (q3 _).det ?_)); try simp [-List.reduceReplicate, Nat.add_one_le_iff, -getElem?_pos, -getElem?_neg, List.getElem?_cons_zero, List.getElem?_cons_succ, iC, bC, z0, s1, s2, s3, l0, l1, l2, l3, y1, y2, y3, -Tab.zero71])
   | (with_reducible refine awp_if_b rfl (fun hc => ?_) (fun hc => ?_) <;> (try simp [-getElem?_pos, -getElem?_neg] at hc) <;> (try (exfalso; omega)))
   | ((with_reducible first | refine GuardK_b (fun hc => ?_) (fun hc => ?_)) <;> (try simp only [Bool.not_eq_true', Bool.not_eq_false', decide_eq_true_eq, decide_eq_false_iff_not] at hc) <;> (first | (exfalso; omega) | skip) <;> simp [-List.reduceReplicate, Nat.add_one_le_iff, -getElem?_pos, -getElem?_neg, List.getElem?_cons_zero, List.getElem?_cons_succ, iC, bC, z0, s1, s2, s3, l0, l1, l2, l3, y1, y2, y3, -Tab.zero71, hc])
   | (with_reducible refine And.intro (by omega) ?_)
   | fail)
set_option maxHeartbeats 8000000 in
theorem duelScores_den (a b : List H32) (za zb : List Int) (m : Int) (ob : List Ob) : Den Try.prog 10 [sideM a za, sideM b zb, .c (iC m)] ob (fun r ob' => r = .c (bC true) ∧ ob' = ob) := by
  refine Den.frame rfl rfl ?_ ob
  have aw := awake42_den
  have g1 := great42_den a za
  have g2 := great42_den b zb
  have o1 := ours_den a za
  have o2 := ours_den b zb
  cases hg1 : great42 a za
  · cases hg2 : great42 b zb
    · obtain ⟨ha, hza⟩ := great42_no hg1
      obtain ⟨hb, hzb⟩ := great42_no hg2
      rw [hg1] at g1
      rw [hg2] at g2
      have p1 := scores_den a b za zb m (by omega) (by omega) (by omega) (by omega)
      have p2 := last40_den a b a.length b.length false false rfl rfl (by omega) (by omega)
      have p3 := verdict_den a b za zb m (by omega) (by omega) (by omega) (by omega)
      have p4 := verdict40_den a b za zb m (by omega) (by omega) (by omega) (by omega)
      have hr := lastH_range a b
      have pa := fun k h => behind40_den za k (by omega) h
      have pb := fun k h => behind40_den zb k (by omega) h
      have qa := fun k => best40_den (za.drop (k + 1)) m (by simp; omega)
      have qb := fun k => best40_den (zb.drop (k + 1)) m (by simp; omega)
      have la := fun k => bestN_lt (za.drop (k + 1)) m (by simp; omega) 256 (by omega)
      have lb := fun k => bestN_lt (zb.drop (k + 1)) m (by simp; omega) 256 (by omega)
      have na := behI_nat za
      have nb := behI_nat zb
      have lm := limbsM_den
      have sl : ∀ p, (scoreC p).length = 6 := fun _ => rfl
      have lyS : ∀ q, lay [M.c (C.v (.int .u64 0)), M.c (C.v (.int .u64 0)), M.c (C.v (.int .u64 0)), M.c (C.v (.int .u64 0)), M.c (C.v (.int .u64 0)), M.c (C.v (.int .i64 0))] 0 (up (scoreC q)) = up (scoreC q) := fun _ => rfl
      have s5 : ∀ q : Nat × Nat, (scoreC q)[5]? = some (iC q.2) := fun _ => rfl
      unfold argN at p1
      obtain ⟨i, hi⟩ : ∃ i, (lastH a b).1 = i := ⟨_, rfl⟩
      obtain ⟨k, hk⟩ : ∃ k, (lastH a b).2 = k := ⟨_, rfl⟩
      rw [hi, hk] at p1 p2
      generalize vrdN a b za zb m = vd at *
      by_cases c : i < 0
      · have c2 : ¬ 0 ≤ i := by omega
        simp only [c, if_true, decide_true, Bool.not_true] at p1
        unfold sideM sideL at *
        refine den_of Try.func10 rfl rfl (by simp [Try.ntmps10]) (fun X hX hO => ?_)
        rw [Try.ntmps10] at hX
        simp only [Try.results10]
        repeat' (first 
         | (with_reducible first | refine awp_scope ?_ | refine awp_seq ?_ | refine awp_block ?_)
         | ((with_reducible first | refine awp_label ?_ | refine awp_skip ?_); try simp only [thenA, inBlockA, noGotoA])
         | (with_reducible refine awp_exit ?_; simp only [thenA, inBlockA, noGotoA, if_true, Nat.reduceEqDiff, if_false, ↓reduceIte])
         | (with_reducible refine awp_ret ?_; (try simp only [thenA, inBlockA, noGotoA]); (try simp [-List.reduceReplicate, Nat.add_one_le_iff, -getElem?_pos, -getElem?_neg, List.getElem?_cons_zero, List.getElem?_cons_succ, iC, bC, c, c2, sl, lyS, s5]))
         | ((with_reducible first | refine awp_reg 116 hX [2, 3, 4, 6, 7, 8, 9, 10, 11, 12, 13, 14, 15, 21, 55, 57] ?_ | refine awp_drw 116 hX [2, 3, 4, 6, 7, 8, 9, 10, 11, 12, 13, 14, 15, 21, 55, 57] Tab.mixed (by kernel_rfl) ?_ | refine DEv_cut _ _ _ _ _ _ _ _ _ _ _ _ (by kernel_rfl) ?_ | change postOf _ _ _ _ _); simp [-List.reduceReplicate, Nat.add_one_le_iff, -getElem?_pos, -getElem?_neg, List.getElem?_cons_zero, List.getElem?_cons_succ, iC, bC, c, c2, sl, lyS, s5])
         | ((first | (refine (g1 _).det ?_) | (refine ⟨_, _, g1 _, fun _ => rfl, ?_⟩) | (refine (g2 _).det ?_) | (refine ⟨_, _, g2 _, fun _ => rfl, ?_⟩) | (refine (p1 _).det ?_) | (refine ⟨_, _, p1 _, fun _ => rfl, ?_⟩) | (refine (p2 _).det ?_) | (refine ⟨_, _, p2 _, fun _ => rfl, ?_⟩) | (refine (p3 _).det ?_) | (refine ⟨_, _, p3 _, fun _ => rfl, ?_⟩) | (refine (o1 _).det ?_) | (refine ⟨_, _, o1 _, fun _ => rfl, ?_⟩) | (refine (o2 _).det ?_) | (refine ⟨_, _, o2 _, fun _ => rfl, ?_⟩) | (refine (p4 _).det ?_) | (refine ⟨_, _, p4 _, fun _ => rfl, ?_⟩) | (refine (aw _).det ?_) | (refine ⟨_, _, aw _, fun _ => rfl, ?_⟩)); try simp [-List.reduceReplicate, Nat.add_one_le_iff, -getElem?_pos, -getElem?_neg, List.getElem?_cons_zero, List.getElem?_cons_succ, iC, bC, c, c2, sl, lyS, s5])
         | (with_reducible refine awp_if_b rfl (fun hc => ?_) (fun hc => ?_) <;> (try simp [-getElem?_pos, -getElem?_neg] at hc) <;> (try (exfalso; omega)))
         | ((with_reducible first | refine GuardK_b (fun hc => ?_) (fun hc => ?_) | refine DGuard_b _ _ _ _ _ _ _ _ _ _ (fun hc => ?_) (fun hc => ?_)) <;> (try simp only [Bool.not_eq_true', Bool.not_eq_false', decide_eq_true_eq, decide_eq_false_iff_not] at hc) <;> (first | (exfalso; omega) | skip) <;> simp [-List.reduceReplicate, Nat.add_one_le_iff, -getElem?_pos, -getElem?_neg, List.getElem?_cons_zero, List.getElem?_cons_succ, iC, bC, c, c2, sl, lyS, s5, hc])
         | (with_reducible refine And.intro (by omega) ?_)
         | fail)
      · have c2 : 0 ≤ i := by omega
        have hii : 0 ≤ i ∧ i < (a.length : Int) ∧ 0 ≤ k ∧ k < (b.length : Int) := by
          rcases hr with h | h
          · rw [h] at hi; simp at hi; omega
          · rw [hi, hk] at h; exact h
        obtain ⟨i', rfl⟩ : ∃ i' : Nat, i = (i' : Int) := ⟨i.toNat, by omega⟩
        obtain ⟨k', rfl⟩ : ∃ k' : Nat, k = (k' : Int) := ⟨k.toNat, by omega⟩
        have pa1 := pa i' (by omega)
        have pb1 := pb k' (by omega)
        have qa1 := qa i'
        have qb1 := qb k'
        rw [na, nb] at p1
        have la1 := la i'
        have lb1 := lb k'
        simp only [c, if_false, decide_false, Bool.not_false] at p1
        clear pa pb qa qb la lb na nb hr hi hk
        generalize bestN (za.drop (i' + 1)) m 256 = x at *
        generalize bestN (zb.drop (k' + 1)) m 256 = y at *
        generalize za.drop (i' + 1) = xa at *
        generalize zb.drop (k' + 1) = xb at *
        have pc1 := cmp05_den x.1 x.1 (dgl_le la1)
        have pc2 := cmp05_den y.1 y.1 (dgl_le lb1)
        rw [cmpN_eq] at pc1 pc2
        have lx := fun o0 o1 o3 : Ob => limbsM_den x.1 x.2 la1 [o0, o1, ⟨52, 1, false, 0, up (scoreC x), none⟩, o3] 2 rfl
        have ly := fun o0 o1 o2 : Ob => limbsM_den y.1 y.2 lb1 [o0, o1, o2, ⟨52, 1, false, 0, up (scoreC y), none⟩] 3 rfl
        unfold sideM sideL intsC at *
        refine den_of Try.func10 rfl rfl (by simp [Try.ntmps10]) (fun X hX hO => ?_)
        rw [Try.ntmps10] at hX
        simp only [Try.results10]
        repeat' (first 
         | (with_reducible first | refine awp_scope ?_ | refine awp_seq ?_ | refine awp_block ?_)
         | ((with_reducible first | refine awp_label ?_ | refine awp_skip ?_); try simp only [thenA, inBlockA, noGotoA])
         | (with_reducible refine awp_exit ?_; simp only [thenA, inBlockA, noGotoA, if_true, Nat.reduceEqDiff, if_false, ↓reduceIte])
         | (with_reducible refine awp_ret ?_; (try simp only [thenA, inBlockA, noGotoA]); (try simp [-List.reduceReplicate, Nat.add_one_le_iff, -getElem?_pos, -getElem?_neg, List.getElem?_cons_zero, List.getElem?_cons_succ, iC, bC, c, c2, sl, lyS, s5]))
         | ((with_reducible first | refine awp_reg 116 hX [2, 3, 4, 6, 7, 8, 9, 10, 11, 12, 13, 14, 15, 21, 55, 57] ?_ | refine awp_drw 116 hX [2, 3, 4, 6, 7, 8, 9, 10, 11, 12, 13, 14, 15, 21, 55, 57] Tab.mixed (by kernel_rfl) ?_ | refine DEv_cut _ _ _ _ _ _ _ _ _ _ _ _ (by kernel_rfl) ?_ | change postOf _ _ _ _ _); simp [-List.reduceReplicate, Nat.add_one_le_iff, -getElem?_pos, -getElem?_neg, List.getElem?_cons_zero, List.getElem?_cons_succ, iC, bC, c, c2, sl, lyS, s5])
         | ((first | (refine (g1 _).det ?_) | (refine ⟨_, _, g1 _, fun _ => rfl, ?_⟩) | (refine (g2 _).det ?_) | (refine ⟨_, _, g2 _, fun _ => rfl, ?_⟩) | (refine (p1 _).det ?_) | (refine ⟨_, _, p1 _, fun _ => rfl, ?_⟩) | (refine (p2 _).det ?_) | (refine ⟨_, _, p2 _, fun _ => rfl, ?_⟩) | (refine (p3 _).det ?_) | (refine ⟨_, _, p3 _, fun _ => rfl, ?_⟩) | (refine (o1 _).det ?_) | (refine ⟨_, _, o1 _, fun _ => rfl, ?_⟩) | (refine (o2 _).det ?_) | (refine ⟨_, _, o2 _, fun _ => rfl, ?_⟩) | (refine (p4 _).det ?_) | (refine ⟨_, _, p4 _, fun _ => rfl, ?_⟩) | (refine (aw _).det ?_) | (refine ⟨_, _, aw _, fun _ => rfl, ?_⟩) | (refine (pa1 _).det ?_) | (refine ⟨_, _, pa1 _, fun _ => rfl, ?_⟩) | (refine (qa1 _).det ?_) | (refine ⟨_, _, qa1 _, fun _ => rfl, ?_⟩) | (refine (pb1 _).det ?_) | (refine ⟨_, _, pb1 _, fun _ => rfl, ?_⟩) | (refine (qb1 _).det ?_) | (refine ⟨_, _, qb1 _, fun _ => rfl, ?_⟩) | (refine (pc1 _).det ?_) | (refine ⟨_, _, pc1 _, fun _ => rfl, ?_⟩) | (refine (pc2 _).det ?_) | (refine ⟨_, _, pc2 _, fun _ => rfl, ?_⟩) | (refine (lx _ _ _).det ?_) | (refine ⟨_, _, lx _ _ _, fun _ => rfl, ?_⟩) | (refine (ly _ _ _).det ?_) | (refine ⟨_, _, ly _ _ _, fun _ => rfl, ?_⟩)); try simp [-List.reduceReplicate, Nat.add_one_le_iff, -getElem?_pos, -getElem?_neg, List.getElem?_cons_zero, List.getElem?_cons_succ, iC, bC, c, c2, sl, lyS, s5])
         | (with_reducible refine awp_if_b rfl (fun hc => ?_) (fun hc => ?_) <;> (try simp [-getElem?_pos, -getElem?_neg] at hc) <;> (try (exfalso; omega)))
         | ((with_reducible first | refine GuardK_b (fun hc => ?_) (fun hc => ?_) | refine DGuard_b _ _ _ _ _ _ _ _ _ _ (fun hc => ?_) (fun hc => ?_)) <;> (try simp only [Bool.not_eq_true', Bool.not_eq_false', decide_eq_true_eq, decide_eq_false_iff_not] at hc) <;> (first | (exfalso; omega) | skip) <;> simp [-List.reduceReplicate, Nat.add_one_le_iff, -getElem?_pos, -getElem?_neg, List.getElem?_cons_zero, List.getElem?_cons_succ, iC, bC, c, c2, sl, lyS, s5, hc])
         | (with_reducible refine And.intro (by omega) ?_)
         | fail)
    · rw [hg1] at g1
      rw [hg2] at g2
      unfold sideM sideL at *
      refine den_of Try.func10 rfl rfl (by simp [Try.ntmps10]) (fun X hX hO => ?_)
      rw [Try.ntmps10] at hX
      simp only [Try.results10]
      repeat' (first 
       | (with_reducible first | refine awp_scope ?_ | refine awp_seq ?_ | refine awp_block ?_)
       | ((with_reducible first | refine awp_label ?_ | refine awp_skip ?_); try simp only [thenA, inBlockA, noGotoA])
       | (with_reducible refine awp_exit ?_; simp only [thenA, inBlockA, noGotoA, if_true, Nat.reduceEqDiff, if_false, ↓reduceIte])
       | (with_reducible refine awp_ret ?_; (try simp only [thenA, inBlockA, noGotoA]); (try simp [-List.reduceReplicate, Nat.add_one_le_iff, -getElem?_pos, -getElem?_neg, List.getElem?_cons_zero, List.getElem?_cons_succ, bC]))
       | ((with_reducible first | refine awp_reg 116 hX [2, 3, 4, 6, 7, 8, 9, 10, 11, 12, 13, 14, 15, 21, 55, 57] ?_ | refine awp_drw 116 hX [2, 3, 4, 6, 7, 8, 9, 10, 11, 12, 13, 14, 15, 21, 55, 57] Tab.mixed (by kernel_rfl) ?_ | refine DEv_cut _ _ _ _ _ _ _ _ _ _ _ _ (by kernel_rfl) ?_ | change postOf _ _ _ _ _); simp [-List.reduceReplicate, Nat.add_one_le_iff, -getElem?_pos, -getElem?_neg, List.getElem?_cons_zero, List.getElem?_cons_succ, bC])
       | ((first | (refine (g1 _).det ?_) | (refine ⟨_, _, g1 _, fun _ => rfl, ?_⟩) | (refine (g2 _).det ?_) | (refine ⟨_, _, g2 _, fun _ => rfl, ?_⟩) | (refine (aw _).det ?_) | (refine ⟨_, _, aw _, fun _ => rfl, ?_⟩)); try simp [-List.reduceReplicate, Nat.add_one_le_iff, -getElem?_pos, -getElem?_neg, List.getElem?_cons_zero, List.getElem?_cons_succ, bC])
       | (with_reducible refine awp_if_b rfl (fun hc => ?_) (fun hc => ?_) <;> (try simp [-getElem?_pos, -getElem?_neg] at hc) <;> (try (exfalso; omega)))
       | ((with_reducible first | refine GuardK_b (fun hc => ?_) (fun hc => ?_) | refine DGuard_b _ _ _ _ _ _ _ _ _ _ (fun hc => ?_) (fun hc => ?_)) <;> (try simp only [Bool.not_eq_true', Bool.not_eq_false', decide_eq_true_eq, decide_eq_false_iff_not] at hc) <;> (first | (exfalso; omega) | skip) <;> simp [-List.reduceReplicate, Nat.add_one_le_iff, -getElem?_pos, -getElem?_neg, List.getElem?_cons_zero, List.getElem?_cons_succ, bC, hc])
       | (with_reducible refine And.intro (by omega) ?_)
       | fail)
  · rw [hg1] at g1
    unfold sideM sideL at *
    refine den_of Try.func10 rfl rfl (by simp [Try.ntmps10]) (fun X hX hO => ?_)
    rw [Try.ntmps10] at hX
    simp only [Try.results10]
    repeat' (first 
     | (with_reducible first | refine awp_scope ?_ | refine awp_seq ?_ | refine awp_block ?_)
     | ((with_reducible first | refine awp_label ?_ | refine awp_skip ?_); try simp only [thenA, inBlockA, noGotoA])
     | (with_reducible refine awp_exit ?_; simp only [thenA, inBlockA, noGotoA, if_true, Nat.reduceEqDiff, if_false, ↓reduceIte])
     | (with_reducible refine awp_ret ?_; (try simp only [thenA, inBlockA, noGotoA]); (try simp [-List.reduceReplicate, Nat.add_one_le_iff, -getElem?_pos, -getElem?_neg, List.getElem?_cons_zero, List.getElem?_cons_succ, bC]))
     | ((with_reducible first | refine awp_reg 116 hX [2, 3, 4, 6, 7, 8, 9, 10, 11, 12, 13, 14, 15, 21, 55, 57] ?_ | refine awp_drw 116 hX [2, 3, 4, 6, 7, 8, 9, 10, 11, 12, 13, 14, 15, 21, 55, 57] Tab.mixed (by kernel_rfl) ?_ | refine DEv_cut _ _ _ _ _ _ _ _ _ _ _ _ (by kernel_rfl) ?_ | change postOf _ _ _ _ _); simp [-List.reduceReplicate, Nat.add_one_le_iff, -getElem?_pos, -getElem?_neg, List.getElem?_cons_zero, List.getElem?_cons_succ, bC])
     | ((first | (refine (g1 _).det ?_) | (refine ⟨_, _, g1 _, fun _ => rfl, ?_⟩) | (refine (aw _).det ?_) | (refine ⟨_, _, aw _, fun _ => rfl, ?_⟩)); try simp [-List.reduceReplicate, Nat.add_one_le_iff, -getElem?_pos, -getElem?_neg, List.getElem?_cons_zero, List.getElem?_cons_succ, bC])
     | (with_reducible refine awp_if_b rfl (fun hc => ?_) (fun hc => ?_) <;> (try simp [-getElem?_pos, -getElem?_neg] at hc) <;> (try (exfalso; omega)))
     | ((with_reducible first | refine GuardK_b (fun hc => ?_) (fun hc => ?_) | refine DGuard_b _ _ _ _ _ _ _ _ _ _ (fun hc => ?_) (fun hc => ?_)) <;> (try simp only [Bool.not_eq_true', Bool.not_eq_false', decide_eq_true_eq, decide_eq_false_iff_not] at hc) <;> (first | (exfalso; omega) | skip) <;> simp [-List.reduceReplicate, Nat.add_one_le_iff, -getElem?_pos, -getElem?_neg, List.getElem?_cons_zero, List.getElem?_cons_succ, bC, hc])
     | (with_reducible refine And.intro (by omega) ?_)
     | fail)
theorem opens_side {P : Program} {t tl th tb tn ti : TypeId} {fs : Array Field} (ht : P.underlying t = some (.struct fs)) (hl : P.underlying tl = some (.slice th)) (hh : P.underlying th = some (.array 32 tb)) (hb : P.underlying tb = some (.int .u8)) (hn : P.underlying tn = some (.slice ti)) (hi : P.underlying ti = some (.int .i64))
    (f0 : (fs[0]?).map (fun f => (f.offset, f.type)) = some (0, tl)) (f1 : (fs[1]?).map (fun f => (f.offset, f.type)) = some (1, tn)) (c0 : P.cellsOf t = 2) (c1 : P.cellsOf tl = 1) (c2 : P.cellsOf tn = 1) (c3 : P.cellsOf th = 32) (c4 : P.cellsOf tb = 1) (c5 : P.cellsOf ti = 1) :
    Opens P t (fun p : List H32 × List Int => sideL p.1 p.2) (fun p => p.1.length ≤ maxLen ∧ p.2.length ≤ maxLen) :=
  (((seg_field 0 0 1 ht f0 c1 (opens_hashes hl hh hb c4 c3)).app (seg_field 1 1 1 ht f1 c2 (opens_ints hn hi c5)) (fun _ => rfl)).opens ht c0).conv fun p hp => ⟨p, ⟨hp.1.1, hp.2.1⟩, rfl⟩
end Go.Av
