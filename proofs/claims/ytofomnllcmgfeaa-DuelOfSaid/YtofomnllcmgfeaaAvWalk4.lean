/- 15 texts of the program logic over abstract values, joined: each is proved without any condition beyond its own words. -/
import Derived.Test.YtofomnllcmgfeaaAvTU3
import Derived.Test.YtofomnllcmgfeaaAvWalk3
import Derived.Test.YtofomnllcmgfeaaAvWalk2
import Derived.Test.YtofomnllcmgfeaaAvWalk1
import Derived.Test.YtofomnllcmgfeaaAvEngine3
set_option exponentiation.threshold 1000
set_option linter.unusedVariables false
set_option linter.unusedSimpArgs false
set_option maxRecDepth 100000
set_option maxHeartbeats 4000000
namespace Go.Av
open Go Go.Proofs Go.Proofs.Ytofomnllcmgfeaa Go.RowKit
/-! ### up: the document's answer, the laws -/
open Go.Av.Up (pl hit)
def plT (zs : List Int) (from_ level : Int) (k : Nat) : List Int := (pl zs from_ level k).map fun x : Nat => (x : Int)
theorem awake38_den : DenV Try.prog 15 [] (.c (bC true)) := by
  refine Den.frame rfl rfl ?_
  have p1 := count_den [256, 0, 2] 1 true (by simp)
  have p2 := last_den [256, 0, 2] 0 2 true (by simp)
  have p3 := places_den [256, 0, 2] 1 1 true (by simp) (by simp)
  have p4 := (same_den [2] [2] [] (by simp)).le (args := [.c (intsC [2]), .c (.sl [iC 2] 1 true)]) ⟨leM_refl _, leM_c (leC_full _ _ _), trivial⟩
  rw [show (plI [256, 0, 2] 0 1) = [0, 2] by decide] at p1
  rw [show lastI [256, 0, 2] 0 2 = 1 by decide] at p2
  rw [show (plI [256, 0, 2] 1 1) = [2] by decide] at p3
  simp only [List.map_cons, List.map_nil, List.length_cons, List.length_nil, iC, intsC] at p1 p2 p3 p4
  refine den_of Try.func15 rfl rfl (by simp [Try.ntmps15]) (fun X hX hO => ?_)
  rw [Try.ntmps15] at hX
  simp only [Try.results15]
  repeat' (first 
   | (with_reducible first | refine awp_scope ?_ | refine awp_seq ?_ | refine awp_block ?_)
   | ((with_reducible first | refine awp_label ?_ | refine awp_skip ?_); try simp only [thenA, inBlockA, noGotoA])
   | (with_reducible refine awp_exit ?_; simp only [thenA, inBlockA, noGotoA, if_true, Nat.reduceEqDiff, if_false, ↓reduceIte])
   | (with_reducible refine awp_ret ?_; (try simp only [thenA, inBlockA, noGotoA]); (try simp [-List.reduceReplicate, Nat.add_one_le_iff, -getElem?_pos, -getElem?_neg, List.getElem?_cons_zero, List.getElem?_cons_succ, iC, bC]))
   | ((with_reducible first | refine awp_reg 17 hX [0, 1] ?_ | change postOf _ _ _ _ _); simp [-List.reduceReplicate, Nat.add_one_le_iff, -getElem?_pos, -getElem?_neg, List.getElem?_cons_zero, List.getElem?_cons_succ, iC, bC])
   | ((first | (refine (p1 _).det ?_) | (refine (p2 _).det ?_) | (refine (p3 _).det ?_) | (refine (p4).det ?_)); try simp [-List.reduceReplicate, Nat.add_one_le_iff, -getElem?_pos, -getElem?_neg, List.getElem?_cons_zero, List.getElem?_cons_succ, iC, bC])
   | (with_reducible refine awp_if_b rfl (fun hc => ?_) (fun hc => ?_) <;> (try simp [-getElem?_pos, -getElem?_neg] at hc) <;> (try (exfalso; omega)))
   | ((with_reducible first | refine GuardK_b (fun hc => ?_) (fun hc => ?_)) <;> (try simp only [Bool.not_eq_true', Bool.not_eq_false', decide_eq_true_eq, decide_eq_false_iff_not] at hc) <;> (first | (exfalso; omega) | skip) <;> simp [-List.reduceReplicate, Nat.add_one_le_iff, -getElem?_pos, -getElem?_neg, List.getElem?_cons_zero, List.getElem?_cons_succ, iC, bC, hc])
   | (with_reducible refine And.intro (by omega) ?_)
   | fail)
end Go.Av

set_option exponentiation.threshold 1000
set_option linter.unusedVariables false
set_option linter.unusedSimpArgs false
set_option maxRecDepth 100000
set_option maxHeartbeats 4000000
namespace Go.Av
open Go Go.Proofs Go.Proofs.Ytofomnllcmgfeaa Go.RowKit
/-! ### ident: the laws -/
end Go.Av

set_option exponentiation.threshold 1000
set_option linter.unusedVariables false
set_option linter.unusedSimpArgs false
set_option maxRecDepth 100000
set_option maxHeartbeats 4000000
namespace Go.Av
open Go Go.Proofs Go.Proofs.Ytofomnllcmgfeaa Go.RowKit
/-! ### score, common, duel -/
open Go.Av.Up (pl hit)
def cntN (zs : List Int) (lv : Nat) : Nat := (plI zs 0 lv).length
theorem cntN_le (zs : List Int) (lv : Nat) : cntN zs lv ≤ zs.length := plI_len _ _ _
def valN (zs : List Int) (lv : Nat) : Nat := cntN zs lv * 2 ^ lv
def mayN (zs : List Int) (lv : Nat) (m : Int) : Bool := decide (lv = 0) || decide (m ≤ (cntN zs lv : Int))
def bestN (zs : List Int) (m : Int) : Nat → Nat × Nat
  | 0 => (0, 0)
  | lv + 1 => if mayN zs lv m = true ∧ (bestN zs m lv).1 < valN zs lv then (valN zs lv, lv) else bestN zs m lv
theorem valN_lt (zs : List Int) (lv : Nat) (h : zs.length ≤ 1000000) (hl : lv ≤ 255) : valN zs lv < 2 ^ (64 * 5) := by
  have h1 : valN zs lv ≤ 2 ^ 20 * 2 ^ 255 := Nat.mul_le_mul (by have := cntN_le zs lv; omega) (Nat.pow_le_pow_right (by decide) hl)
  rw [← Nat.pow_add] at h1
  exact Nat.lt_of_le_of_lt h1 (Nat.pow_lt_pow_right (by decide) (by decide))
theorem bestN_lt (zs : List Int) (m : Int) (h : zs.length ≤ 1000000) : ∀ k, k ≤ 256 → (bestN zs m k).1 < 2 ^ (64 * 5)
  | 0, _ => by simp only [bestN]; exact Nat.two_pow_pos _
  | k + 1, hk => by
    unfold bestN
    split
    · exact valN_lt zs k h (by omega)
    · exact bestN_lt zs m h k (by omega)
def limL (x : Nat) : List C := [u64C (lim x 0), u64C (lim x 1), u64C (lim x 2), u64C (lim x 3), u64C (lim x 4)]
theorem limL_eq (x : Nat) : limC 5 x = limL x := by simp [limC, limL, List.range_succ]
theorem lims_eq {x y : Nat} (hx : x < 2 ^ (64 * 5)) (hy : y < 2 ^ (64 * 5)) (h0 : lim x 0 = lim y 0) (h1 : lim x 1 = lim y 1) (h2 : lim x 2 = lim y 2) (h3 : lim x 3 = lim y 3) (h4 : lim x 4 = lim y 4) : x = y := by
  have e5 : x / 2 ^ (64 * (4 + 1)) = y / 2 ^ (64 * (4 + 1)) := by rw [Nat.div_eq_of_lt hx, Nat.div_eq_of_lt hy]
  have e := lim_eq_of (lim_eq_of (lim_eq_of (lim_eq_of (lim_eq_of e5 h4) h3) h2) h1) h0
  simpa using e
set_option maxHeartbeats 4000000 in
theorem value_den (zs : List Int) (lv : Nat) (full : Bool) (hl : lv ≤ 255) (hn : zs.length ≤ 1000000) : DenV Try.prog 82 [.c (.sl (zs.map iC) zs.length full), .c (iC lv)] (largeM (valN zs lv)) := by
  refine Den.frame rfl (by simp [largeM, ltB]) ?_
  have p1 := count_den zs lv full hn
  have hc := cntN_le zs lv
  have p2 := of_den (cntN zs lv) (by omega)
  have hv := valN_lt zs lv hn hl
  have p3 := shl_den (cntN zs lv) lv (Nat.lt_of_le_of_lt (show cntN zs lv ≤ 2 ^ 20 by omega) (Nat.pow_lt_pow_right (by decide) (by decide))) hv (by omega)
  have e : (plI zs 0 lv).length = cntN zs lv := rfl
  rw [e] at p1
  have ev : cntN zs lv * 2 ^ lv = valN zs lv := rfl
  rw [ev] at p3
  clear e ev
  unfold largeM at *
  have l1 := limC_len 5 (cntN zs lv)
  have l2 := limC_len 5 (valN zs lv)
  have t2 : (limC 5 (valN zs lv)).take 5 = limC 5 (valN zs lv) := List.take_of_length_le (by omega)
  generalize limC 5 (valN zs lv) = cv at *
  generalize limC 5 (cntN zs lv) = cc at *
  generalize cntN zs lv = c at *
  have w1 := wrapU64 (c : Int) (by omega)
  have i1 : ¬ (lv : Int) < 0 := by omega
  have i2 : ¬ (255 : Int) < lv := by omega
  refine den_of Try.func82 rfl rfl (by simp [Try.ntmps82]) (fun X hX hO => ?_)
  rw [Try.ntmps82] at hX
  simp only [Try.results82]
  repeat' (first 
   | (with_reducible first | refine awp_scope ?_ | refine awp_seq ?_ | refine awp_block ?_)
   | ((with_reducible first | refine awp_label ?_ | refine awp_skip ?_); try simp only [thenA, inBlockA, noGotoA])
   | (with_reducible refine awp_exit ?_; simp only [thenA, inBlockA, noGotoA, if_true, Nat.reduceEqDiff, if_false, ↓reduceIte])
   | (with_reducible refine awp_ret ?_; (try simp only [thenA, inBlockA, noGotoA]); (try simp [-List.reduceReplicate, Nat.add_one_le_iff, -getElem?_pos, -getElem?_neg, List.getElem?_cons_zero, List.getElem?_cons_succ, iC, bC, u64C, w1, i1, i2, l1, l2, t2]))
   | ((with_reducible first | refine awp_reg 25 hX [0, 1, 4, 5, 12] ?_ | change postOf _ _ _ _ _); simp [-List.reduceReplicate, Nat.add_one_le_iff, -getElem?_pos, -getElem?_neg, List.getElem?_cons_zero, List.getElem?_cons_succ, iC, bC, u64C, w1, i1, i2, l1, l2, t2])
   | ((first | (refine (p1 _).det ?_) | (refine (p2 _).det ?_) | (refine (p3 _).det ?_)); try simp [-List.reduceReplicate, Nat.add_one_le_iff, -getElem?_pos, -getElem?_neg, List.getElem?_cons_zero, List.getElem?_cons_succ, iC, bC, u64C, w1, i1, i2, l1, l2, t2])
   | (with_reducible refine awp_if_b rfl (fun hc => ?_) (fun hc => ?_) <;> (try simp [-getElem?_pos, -getElem?_neg] at hc) <;> (try (exfalso; omega)))
   | ((with_reducible first | refine GuardK_b (fun hc => ?_) (fun hc => ?_)) <;> (try simp only [Bool.not_eq_true', Bool.not_eq_false', decide_eq_true_eq, decide_eq_false_iff_not] at hc) <;> (first | (exfalso; omega) | skip) <;> simp [-List.reduceReplicate, Nat.add_one_le_iff, -getElem?_pos, -getElem?_neg, List.getElem?_cons_zero, List.getElem?_cons_succ, iC, bC, u64C, w1, i1, i2, l1, l2, t2, hc])
   | (with_reducible refine And.intro (by omega) ?_)
   | fail)
set_option maxHeartbeats 4000000 in
theorem may_den (zs : List Int) (lv : Nat) (m : Int) (full : Bool) (hl : lv ≤ 255) (hn : zs.length ≤ 1000000) : DenV Try.prog 83 [.c (.sl (zs.map iC) zs.length full), .c (iC lv), .c (iC m)] (.c (bC (mayN zs lv m))) := by
  refine Den.frame rfl rfl ?_
  have p1 := count_den zs lv full hn
  have e : (plI zs 0 lv).length = cntN zs lv := rfl
  rw [e] at p1
  unfold mayN
  generalize cntN zs lv = c at *
  refine den_of Try.func83 rfl rfl (by simp [Try.ntmps83]) (fun X hX hO => ?_)
  rw [Try.ntmps83] at hX
  simp only [Try.results83]
  by_cases h0 : lv = 0
  · subst h0
    repeat' (first 
     | (with_reducible first | refine awp_scope ?_ | refine awp_seq ?_ | refine awp_block ?_)
     | ((with_reducible first | refine awp_label ?_ | refine awp_skip ?_); try simp only [thenA, inBlockA, noGotoA])
     | (with_reducible refine awp_exit ?_; simp only [thenA, inBlockA, noGotoA, if_true, Nat.reduceEqDiff, if_false, ↓reduceIte])
     | (with_reducible refine awp_ret ?_; (try simp only [thenA, inBlockA, noGotoA]); (try simp [-List.reduceReplicate, Nat.add_one_le_iff, -getElem?_pos, -getElem?_neg, List.getElem?_cons_zero, List.getElem?_cons_succ, iC, bC]))
     | ((with_reducible first | refine awp_reg 24 hX [0, 1, 2, 6] ?_ | change postOf _ _ _ _ _); simp [-List.reduceReplicate, Nat.add_one_le_iff, -getElem?_pos, -getElem?_neg, List.getElem?_cons_zero, List.getElem?_cons_succ, iC, bC])
     | (with_reducible refine awp_if_b rfl (fun hc => ?_) (fun hc => ?_) <;> (try simp [-getElem?_pos, -getElem?_neg] at hc) <;> (try (exfalso; omega)))
     | ((with_reducible first | refine GuardK_b (fun hc => ?_) (fun hc => ?_)) <;> (try simp only [Bool.not_eq_true', Bool.not_eq_false', decide_eq_true_eq, decide_eq_false_iff_not] at hc) <;> (first | (exfalso; omega) | skip) <;> simp [-List.reduceReplicate, Nat.add_one_le_iff, -getElem?_pos, -getElem?_neg, List.getElem?_cons_zero, List.getElem?_cons_succ, iC, bC, hc])
     | (with_reducible refine And.intro (by omega) ?_)
     | fail)
  · have i0 : 0 < lv := by omega
    have i1 : ¬ (lv : Int) = 0 := by omega
    have i2 : (0 : Int) < lv := by omega
    have i3 : (lv : Int) ≤ 255 := by omega
    repeat' (first 
     | (with_reducible first | refine awp_scope ?_ | refine awp_seq ?_ | refine awp_block ?_)
     | ((with_reducible first | refine awp_label ?_ | refine awp_skip ?_); try simp only [thenA, inBlockA, noGotoA])
     | (with_reducible refine awp_exit ?_; simp only [thenA, inBlockA, noGotoA, if_true, Nat.reduceEqDiff, if_false, ↓reduceIte])
     | (with_reducible refine awp_ret ?_; (try simp only [thenA, inBlockA, noGotoA]); (try simp [-List.reduceReplicate, Nat.add_one_le_iff, -getElem?_pos, -getElem?_neg, List.getElem?_cons_zero, List.getElem?_cons_succ, iC, bC, h0, i0, i1, i2, i3]))
     | ((with_reducible first | refine awp_reg 24 hX [0, 1, 2, 6] ?_ | change postOf _ _ _ _ _); simp [-List.reduceReplicate, Nat.add_one_le_iff, -getElem?_pos, -getElem?_neg, List.getElem?_cons_zero, List.getElem?_cons_succ, iC, bC, h0, i0, i1, i2, i3])
     | ((first | (refine (p1 _).det ?_)); try simp [-List.reduceReplicate, Nat.add_one_le_iff, -getElem?_pos, -getElem?_neg, List.getElem?_cons_zero, List.getElem?_cons_succ, iC, bC, h0, i0, i1, i2, i3])
     | (with_reducible refine awp_if_b rfl (fun hc => ?_) (fun hc => ?_) <;> (try simp [-getElem?_pos, -getElem?_neg] at hc) <;> (try (exfalso; omega)))
     | ((with_reducible first | refine GuardK_b (fun hc => ?_) (fun hc => ?_)) <;> (try simp only [Bool.not_eq_true', Bool.not_eq_false', decide_eq_true_eq, decide_eq_false_iff_not] at hc) <;> (first | (exfalso; omega) | skip) <;> simp [-List.reduceReplicate, Nat.add_one_le_iff, -getElem?_pos, -getElem?_neg, List.getElem?_cons_zero, List.getElem?_cons_succ, iC, bC, h0, i0, i1, i2, i3, hc])
     | (with_reducible refine And.intro (by omega) ?_)
     | fail)
theorem eq_score (x y : Nat) (l k : Int) (hx : x < 2 ^ (64 * 5)) (hy : y < 2 ^ (64 * 5)) : eqM (List.replicate 6 0) (up (limL x ++ [iC l])) (up (limL y ++ [iC k])) = some (decide (x = y ∧ l = k)) := by
  have h : (x = y ∧ l = k) ↔ (lim x 0 = lim y 0 ∧ lim x 1 = lim y 1 ∧ lim x 2 = lim y 2 ∧ lim x 3 = lim y 3 ∧ lim x 4 = lim y 4 ∧ l = k) := by
    constructor
    · rintro ⟨rfl, rfl⟩; exact ⟨rfl, rfl, rfl, rfl, rfl, rfl⟩
    · rintro ⟨h0, h1, h2, h3, h4, h5⟩; exact ⟨lims_eq hx hy h0 h1 h2 h3 h4, h5⟩
  have hd : decide (x = y ∧ l = k) = decide (lim x 0 = lim y 0 ∧ lim x 1 = lim y 1 ∧ lim x 2 = lim y 2 ∧ lim x 3 = lim y 3 ∧ lim x 4 = lim y 4 ∧ l = k) := decide_eq_decide.2 h
  rw [hd]
  simp [limL, up, u64C, iC, Int.natCast_inj, Bool.decide_and]
def scoreC (p : Nat × Nat) : List C := limL p.1 ++ [iC p.2]
set_option maxHeartbeats 4000000 in
theorem best_den (zs : List Int) (m : Int) (full : Bool) (hn : zs.length ≤ 1000000) : DenV Try.prog 65 [.c (.sl (zs.map iC) zs.length full), .c (iC m)] (.agg (up (scoreC (bestN zs m 256)))) := by
  refine Den.frame rfl (by simp [ltB]) ?_
  have hb : ∀ k, bestN zs m (k + 1) = if mayN zs k m = true ∧ (bestN zs m k).1 < valN zs k then (valN zs k, k) else bestN zs m k := fun _ => rfl
  have hb0 : bestN zs m 0 = (0, 0) := rfl
  have hlt := bestN_lt zs m hn
  have hvl := fun k (h : k ≤ 255) => valN_lt zs k hn h
  have pm := fun k (h : k ≤ 255) => may_den zs k m full h hn
  have pv := fun k (h : k ≤ 255) => value_den zs k full h hn
  have hs0 : scoreC (0, 0) = [C.v (.int .u64 0), C.v (.int .u64 0), C.v (.int .u64 0), C.v (.int .u64 0), C.v (.int .u64 0), C.v (.int .i64 0)] := by simp [scoreC, limL, lim, u64C, iC]
  have es := eq_score
  have l6 : ∀ x l, (limL x ++ [iC l]).length = 6 := fun _ _ => rfl
  have l5 : ∀ x, (limL x).length = 5 := fun _ => rfl
  have t6 : ∀ x l, (limL x ++ [iC l]).take 6 = limL x ++ [iC l] := fun _ _ => rfl
  have t5 : ∀ x l, (limL x ++ [iC l]).take 5 = limL x := fun _ _ => rfl
  have cm := fun x y hx hy => cmp_den x y hx hy
  have ly : ∀ x, lay [M.c (C.v (.int .u64 0)), M.c (C.v (.int .u64 0)), M.c (C.v (.int .u64 0)), M.c (C.v (.int .u64 0)), M.c (C.v (.int .u64 0)), M.c (C.v (.int .i64 0))] 0 (up (limL x)) = up (limL x ++ [C.v (.int .i64 0)]) := fun _ => rfl
  have st : ∀ x l, (up (limL x ++ [C.v (.int .i64 0)])).set 5 (M.c (C.v (.int .i64 l))) = up (limL x ++ [C.v (.int .i64 l)]) := fun _ _ => rfl
  have hz : List.map M.c (limL 0) = [M.c (C.v (.int .u64 0)), M.c (C.v (.int .u64 0)), M.c (C.v (.int .u64 0)), M.c (C.v (.int .u64 0)), M.c (C.v (.int .u64 0))] := by simp [limL, lim, u64C]
  unfold largeM at *
  simp only [limL_eq, scoreC] at *
  generalize bestN zs m = f at *
  generalize valN zs = vf at *
  refine den_of Try.func65 rfl rfl (by simp [Try.ntmps65]) (fun X hX hO => ?_)
  rw [Try.ntmps65] at hX
  simp only [Try.results65]
  repeat' (first 
   | (with_reducible first | refine awp_scope ?_ | refine awp_seq ?_ | refine awp_block ?_)
   | ((with_reducible first | refine awp_label ?_ | refine awp_skip ?_); try simp only [thenA, inBlockA, noGotoA])
   | (with_reducible refine awp_exit ?_; simp only [thenA, inBlockA, noGotoA, if_true, Nat.reduceEqDiff, if_false, ↓reduceIte])
   | (with_reducible refine awp_ret ?_; (try simp only [thenA, inBlockA, noGotoA]); (try simp [-List.reduceReplicate, Nat.add_one_le_iff, -getElem?_pos, -getElem?_neg, List.getElem?_cons_zero, List.getElem?_cons_succ, iC]))
   | ((with_reducible first | refine awp_reg 35 hX [0, 1, 4, 5, 6, 7, 8, 9, 25, 31] ?_ | change postOf _ _ _ _ _); simp [-List.reduceReplicate, Nat.add_one_le_iff, -getElem?_pos, -getElem?_neg, List.getElem?_cons_zero, List.getElem?_cons_succ, iC])
   | (with_reducible refine awp_if_b rfl (fun hc => ?_) (fun hc => ?_) <;> (try simp [-getElem?_pos, -getElem?_neg] at hc) <;> (try (exfalso; omega)))
   | ((with_reducible first | refine GuardK_b (fun hc => ?_) (fun hc => ?_)) <;> (try simp only [Bool.not_eq_true', Bool.not_eq_false', decide_eq_true_eq, decide_eq_false_iff_not] at hc) <;> (first | (exfalso; omega) | skip) <;> simp [-List.reduceReplicate, Nat.add_one_le_iff, -getElem?_pos, -getElem?_neg, List.getElem?_cons_zero, List.getElem?_cons_succ, iC, hc])
   | ((with_reducible first | refine hother _ _ rfl ?_); simp only [inBlockA, thenA, noGotoA, Nat.reduceEqDiff, if_false, if_true, ↓reduceIte])
   | (with_reducible refine And.intro (by omega) ?_)
   | fail)
  refine awp_forU [0, 1, 4, 5, 8] (fun k (g : List Ob) => [(8, .c (iC k))]) (fun k (g : List Ob) => [⟨52, 1, false, 0, up (limL 0 ++ [iC 0]), none⟩, ⟨52, 1, false, 0, up (limL (f k).1 ++ [iC (f k).2]), none⟩] ++ g) (fun k (g : List Ob) => True) (256) ([]) (by first | trivial | (simp; done) | omega | (intros; simp at *; done)) (by simp [-List.reduceReplicate, keep, iC, hb0, hz, up]) (by simp [-List.reduceReplicate, iC, hb0, hz, up]) ?_
  rintro k g Q1 hi hH next hother
  conv => arg 5; arg 1; simp only [List.cons_append, List.nil_append, keep, get, Nat.reduceEqDiff, if_true, if_false, ↓reduceIte]
  have hwk := wrap_in ((k : Int) + 1) (by omega)
  by_cases hk : k < 256
  · have qv := pv k (by omega)
    have qm := pm k (by omega)
    have bk := hb k
    have hk2 : (k : Int) < 256 := by omega
    have e1 := es (vf k) (f k).1 k (f k).2 (hvl k (by omega)) (hlt k (by omega))
    have c1 := cm (vf k) (f k).1 (hvl k (by omega)) (hlt k (by omega))
    obtain ⟨bv, hbv⟩ : ∃ x, (f k).1 = x := ⟨_, rfl⟩
    obtain ⟨bl', hbl⟩ : ∃ x, (f k).2 = x := ⟨_, rfl⟩
    rw [hbv, hbl] at e1 ⊢
    rw [hbv] at c1 bk
    generalize vf k = v at *
    unfold iC at e1 t6 t5 l6
    by_cases hq : v = bv ∧ (k : Int) = (bl' : Int)
    · have fk : f (k + 1) = f k := by rw [bk, if_neg (by intro h; omega)]
      obtain ⟨hq1, hq2⟩ := hq
      have hq3 : k = bl' := by omega
      subst hq1 hq3
      simp only [and_self, decide_true] at e1
      repeat' (first 
       | (with_reducible first | refine awp_scope ?_ | refine awp_seq ?_ | refine awp_block ?_)
       | ((with_reducible first | refine awp_label ?_ | refine awp_skip ?_); try simp only [thenA, inBlockA, noGotoA])
       | (with_reducible refine awp_exit ?_; simp only [thenA, inBlockA, noGotoA, if_true, Nat.reduceEqDiff, if_false, ↓reduceIte])
       | (with_reducible refine awp_ret ?_; (try simp only [thenA, inBlockA, noGotoA]); (try simp [-List.reduceReplicate, Nat.add_one_le_iff, -getElem?_pos, -getElem?_neg, List.getElem?_cons_zero, List.getElem?_cons_succ, iC, bC, hk2, l5, l6, t5, t6, ly, st, e1, hwk]))
       | ((with_reducible first | refine awp_reg 35 hX [0, 1, 4, 5, 6, 7, 8, 9, 25, 31] ?_ | change postOf _ _ _ _ _); simp [-List.reduceReplicate, Nat.add_one_le_iff, -getElem?_pos, -getElem?_neg, List.getElem?_cons_zero, List.getElem?_cons_succ, iC, bC, hk2, l5, l6, t5, t6, ly, st, e1, hwk])
       | ((first | (refine (qv _).det ?_) | (refine (qm _).det ?_) | (refine (c1 _).det ?_)); try simp [-List.reduceReplicate, Nat.add_one_le_iff, -getElem?_pos, -getElem?_neg, List.getElem?_cons_zero, List.getElem?_cons_succ, iC, bC, hk2, l5, l6, t5, t6, ly, st, e1, hwk])
       | (with_reducible refine awp_if_b rfl (fun hc => ?_) (fun hc => ?_) <;> (try simp [-getElem?_pos, -getElem?_neg] at hc) <;> (try (exfalso; omega)))
       | ((with_reducible first | refine GuardK_b (fun hc => ?_) (fun hc => ?_)) <;> (try simp only [Bool.not_eq_true', Bool.not_eq_false', decide_eq_true_eq, decide_eq_false_iff_not] at hc) <;> (first | (exfalso; omega) | skip) <;> simp [-List.reduceReplicate, Nat.add_one_le_iff, -getElem?_pos, -getElem?_neg, List.getElem?_cons_zero, List.getElem?_cons_succ, iC, bC, hk2, l5, l6, t5, t6, ly, st, e1, hwk, hc])
       | ((with_reducible first | refine hother _ _ rfl ?_); simp only [inBlockA, thenA, noGotoA, Nat.reduceEqDiff, if_false, if_true, ↓reduceIte])
       | (with_reducible refine And.intro (by omega) ?_)
       | fail)
      refine next _ _ (g ++ [⟨52, 1, false, 0, up (limL v ++ [iC k]), none⟩]) (by omega) (by first | trivial | omega | assumption) (by simp [-List.reduceReplicate, keep, iC, fk, hbv, hbl]) (by simp [-List.reduceReplicate, iC, fk, hbv, hbl])
    · simp only [hq, decide_false] at e1
      cases hm : mayN zs k m
      · have fk : f (k + 1) = f k := by rw [bk, if_neg (by rw [hm]; intro h; simp at h)]
        rw [hm] at qm
        repeat' (first 
         | (with_reducible first | refine awp_scope ?_ | refine awp_seq ?_ | refine awp_block ?_)
         | ((with_reducible first | refine awp_label ?_ | refine awp_skip ?_); try simp only [thenA, inBlockA, noGotoA])
         | (with_reducible refine awp_exit ?_; simp only [thenA, inBlockA, noGotoA, if_true, Nat.reduceEqDiff, if_false, ↓reduceIte])
         | (with_reducible refine awp_ret ?_; (try simp only [thenA, inBlockA, noGotoA]); (try simp [-List.reduceReplicate, Nat.add_one_le_iff, -getElem?_pos, -getElem?_neg, List.getElem?_cons_zero, List.getElem?_cons_succ, iC, bC, hk2, l5, l6, t5, t6, ly, st, e1, hwk]))
         | ((with_reducible first | refine awp_reg 35 hX [0, 1, 4, 5, 6, 7, 8, 9, 25, 31] ?_ | change postOf _ _ _ _ _); simp [-List.reduceReplicate, Nat.add_one_le_iff, -getElem?_pos, -getElem?_neg, List.getElem?_cons_zero, List.getElem?_cons_succ, iC, bC, hk2, l5, l6, t5, t6, ly, st, e1, hwk])
         | ((first | (refine (qv _).det ?_) | (refine (qm _).det ?_) | (refine (c1 _).det ?_)); try simp [-List.reduceReplicate, Nat.add_one_le_iff, -getElem?_pos, -getElem?_neg, List.getElem?_cons_zero, List.getElem?_cons_succ, iC, bC, hk2, l5, l6, t5, t6, ly, st, e1, hwk])
         | (with_reducible refine awp_if_b rfl (fun hc => ?_) (fun hc => ?_) <;> (try simp [-getElem?_pos, -getElem?_neg] at hc) <;> (try (exfalso; omega)))
         | ((with_reducible first | refine GuardK_b (fun hc => ?_) (fun hc => ?_)) <;> (try simp only [Bool.not_eq_true', Bool.not_eq_false', decide_eq_true_eq, decide_eq_false_iff_not] at hc) <;> (first | (exfalso; omega) | skip) <;> simp [-List.reduceReplicate, Nat.add_one_le_iff, -getElem?_pos, -getElem?_neg, List.getElem?_cons_zero, List.getElem?_cons_succ, iC, bC, hk2, l5, l6, t5, t6, ly, st, e1, hwk, hc])
         | ((with_reducible first | refine hother _ _ rfl ?_); simp only [inBlockA, thenA, noGotoA, Nat.reduceEqDiff, if_false, if_true, ↓reduceIte])
         | (with_reducible refine And.intro (by omega) ?_)
         | fail)
        refine next _ _ (g ++ [⟨52, 1, false, 0, up (limL v ++ [iC k]), none⟩]) (by omega) (by first | trivial | omega | assumption) (by simp [-List.reduceReplicate, keep, iC, fk, hbv, hbl]) (by simp [-List.reduceReplicate, iC, fk, hbv, hbl])
      · rw [hm] at qm
        by_cases hlt : bv < v
        · have fk : f (k + 1) = (v, k) := by rw [bk, if_pos ⟨hm, hlt⟩]
          rw [cmpN_gt hlt] at c1
          repeat' (first 
           | (with_reducible first | refine awp_scope ?_ | refine awp_seq ?_ | refine awp_block ?_)
           | ((with_reducible first | refine awp_label ?_ | refine awp_skip ?_); try simp only [thenA, inBlockA, noGotoA])
           | (with_reducible refine awp_exit ?_; simp only [thenA, inBlockA, noGotoA, if_true, Nat.reduceEqDiff, if_false, ↓reduceIte])
           | (with_reducible refine awp_ret ?_; (try simp only [thenA, inBlockA, noGotoA]); (try simp [-List.reduceReplicate, Nat.add_one_le_iff, -getElem?_pos, -getElem?_neg, List.getElem?_cons_zero, List.getElem?_cons_succ, iC, bC, hk2, l5, l6, t5, t6, ly, st, e1, hwk]))
           | ((with_reducible first | refine awp_reg 35 hX [0, 1, 4, 5, 6, 7, 8, 9, 25, 31] ?_ | change postOf _ _ _ _ _); simp [-List.reduceReplicate, Nat.add_one_le_iff, -getElem?_pos, -getElem?_neg, List.getElem?_cons_zero, List.getElem?_cons_succ, iC, bC, hk2, l5, l6, t5, t6, ly, st, e1, hwk])
           | ((first | (refine (qv _).det ?_) | (refine (qm _).det ?_) | (refine (c1 _).det ?_)); try simp [-List.reduceReplicate, Nat.add_one_le_iff, -getElem?_pos, -getElem?_neg, List.getElem?_cons_zero, List.getElem?_cons_succ, iC, bC, hk2, l5, l6, t5, t6, ly, st, e1, hwk])
           | (with_reducible refine awp_if_b rfl (fun hc => ?_) (fun hc => ?_) <;> (try simp [-getElem?_pos, -getElem?_neg] at hc) <;> (try (exfalso; omega)))
           | ((with_reducible first | refine GuardK_b (fun hc => ?_) (fun hc => ?_)) <;> (try simp only [Bool.not_eq_true', Bool.not_eq_false', decide_eq_true_eq, decide_eq_false_iff_not] at hc) <;> (first | (exfalso; omega) | skip) <;> simp [-List.reduceReplicate, Nat.add_one_le_iff, -getElem?_pos, -getElem?_neg, List.getElem?_cons_zero, List.getElem?_cons_succ, iC, bC, hk2, l5, l6, t5, t6, ly, st, e1, hwk, hc])
           | ((with_reducible first | refine hother _ _ rfl ?_); simp only [inBlockA, thenA, noGotoA, Nat.reduceEqDiff, if_false, if_true, ↓reduceIte])
           | (with_reducible refine And.intro (by omega) ?_)
           | fail)
          refine next _ _ (g ++ [⟨52, 1, false, 0, up (limL v ++ [iC k]), none⟩]) (by omega) (by first | trivial | omega | assumption) (by simp [-List.reduceReplicate, keep, iC, fk]) (by simp [-List.reduceReplicate, iC, fk])
        · have fk : f (k + 1) = f k := by rw [bk, if_neg (by intro h; omega)]
          have hc : ¬ 0 < cmpN v bv := by unfold cmpN; split <;> (first | omega | (rw [if_neg hlt]; omega))
          repeat' (first 
           | (with_reducible first | refine awp_scope ?_ | refine awp_seq ?_ | refine awp_block ?_)
           | ((with_reducible first | refine awp_label ?_ | refine awp_skip ?_); try simp only [thenA, inBlockA, noGotoA])
           | (with_reducible refine awp_exit ?_; simp only [thenA, inBlockA, noGotoA, if_true, Nat.reduceEqDiff, if_false, ↓reduceIte])
           | (with_reducible refine awp_ret ?_; (try simp only [thenA, inBlockA, noGotoA]); (try simp [-List.reduceReplicate, Nat.add_one_le_iff, -getElem?_pos, -getElem?_neg, List.getElem?_cons_zero, List.getElem?_cons_succ, iC, bC, hk2, l5, l6, t5, t6, ly, st, e1, hwk, hc]))
           | ((with_reducible first | refine awp_reg 35 hX [0, 1, 4, 5, 6, 7, 8, 9, 25, 31] ?_ | change postOf _ _ _ _ _); simp [-List.reduceReplicate, Nat.add_one_le_iff, -getElem?_pos, -getElem?_neg, List.getElem?_cons_zero, List.getElem?_cons_succ, iC, bC, hk2, l5, l6, t5, t6, ly, st, e1, hwk, hc])
           | ((first | (refine (qv _).det ?_) | (refine (qm _).det ?_) | (refine (c1 _).det ?_)); try simp [-List.reduceReplicate, Nat.add_one_le_iff, -getElem?_pos, -getElem?_neg, List.getElem?_cons_zero, List.getElem?_cons_succ, iC, bC, hk2, l5, l6, t5, t6, ly, st, e1, hwk, hc])
           | (with_reducible refine awp_if_b rfl (fun hc => ?_) (fun hc => ?_) <;> (try simp [-getElem?_pos, -getElem?_neg] at hc) <;> (try (exfalso; omega)))
           | ((with_reducible first | refine GuardK_b (fun hc => ?_) (fun hc => ?_)) <;> (try simp only [Bool.not_eq_true', Bool.not_eq_false', decide_eq_true_eq, decide_eq_false_iff_not] at hc) <;> (first | (exfalso; omega) | skip) <;> simp [-List.reduceReplicate, Nat.add_one_le_iff, -getElem?_pos, -getElem?_neg, List.getElem?_cons_zero, List.getElem?_cons_succ, iC, bC, hk2, l5, l6, t5, t6, ly, st, e1, hwk, hc, hc])
           | ((with_reducible first | refine hother _ _ rfl ?_); simp only [inBlockA, thenA, noGotoA, Nat.reduceEqDiff, if_false, if_true, ↓reduceIte])
           | (with_reducible refine And.intro (by omega) ?_)
           | fail)
          refine next _ _ (g ++ [⟨52, 1, false, 0, up (limL v ++ [iC k]), none⟩]) (by omega) (by first | trivial | omega | assumption) (by simp [-List.reduceReplicate, keep, iC, fk, hbv, hbl]) (by simp [-List.reduceReplicate, iC, fk, hbv, hbl])
  · have hk3 : k = 256 := by omega
    subst hk3
    have t6' := t6
    unfold iC at t6 t6' l6 ⊢
    repeat' (first 
     | (with_reducible first | refine awp_scope ?_ | refine awp_seq ?_ | refine awp_block ?_)
     | ((with_reducible first | refine awp_label ?_ | refine awp_skip ?_); try simp only [thenA, inBlockA, noGotoA])
     | (with_reducible refine awp_exit ?_; simp only [thenA, inBlockA, noGotoA, if_true, Nat.reduceEqDiff, if_false, ↓reduceIte])
     | (with_reducible refine awp_ret ?_; (try simp only [thenA, inBlockA, noGotoA]); (try simp [-List.reduceReplicate, Nat.add_one_le_iff, -getElem?_pos, -getElem?_neg, List.getElem?_cons_zero, List.getElem?_cons_succ, iC, l6, t6]))
     | ((with_reducible first | refine awp_reg 35 hX [0, 1, 4, 5, 6, 7, 8, 9, 25, 31] ?_ | change postOf _ _ _ _ _); simp [-List.reduceReplicate, Nat.add_one_le_iff, -getElem?_pos, -getElem?_neg, List.getElem?_cons_zero, List.getElem?_cons_succ, iC, l6, t6])
     | (with_reducible refine awp_if_b rfl (fun hc => ?_) (fun hc => ?_) <;> (try simp [-getElem?_pos, -getElem?_neg] at hc) <;> (try (exfalso; omega)))
     | ((with_reducible first | refine GuardK_b (fun hc => ?_) (fun hc => ?_)) <;> (try simp only [Bool.not_eq_true', Bool.not_eq_false', decide_eq_true_eq, decide_eq_false_iff_not] at hc) <;> (first | (exfalso; omega) | skip) <;> simp [-List.reduceReplicate, Nat.add_one_le_iff, -getElem?_pos, -getElem?_neg, List.getElem?_cons_zero, List.getElem?_cons_succ, iC, l6, t6, hc])
     | ((with_reducible first | refine hother _ _ rfl ?_); simp only [inBlockA, thenA, noGotoA, Nat.reduceEqDiff, if_false, if_true, ↓reduceIte])
     | (with_reducible refine And.intro (by omega) ?_)
     | fail)
end Go.Av

set_option exponentiation.threshold 1000
set_option linter.unusedVariables false
set_option linter.unusedSimpArgs false
set_option maxRecDepth 100000
set_option maxHeartbeats 4000000
namespace Go.Av
open Go Go.Proofs Go.Proofs.Ytofomnllcmgfeaa Go.RowKit
theorem fstI_range (l : List H32) (id : List UInt8) : ∀ k, fstI l id k = -1 ∨ ((k : Int) ≤ fstI l id k ∧ fstI l id k < (k : Int) + l.length) := by
  induction l with
  | nil => intro k; exact .inl rfl
  | cons x r ih =>
    intro k
    unfold fstI
    split
    · right; simp only [List.length_cons]; omega
    · rcases ih (k + 1) with h | h
      · exact .inl h
      · right; simp only [List.length_cons]; omega
/-- The last place of the first ones whose id stands in another list, and its place there. -/
def lastHTo (a b : List H32) : Nat → Int × Int
  | 0 => (-1, -1)
  | n + 1 => if 0 ≤ fstI b ((a[n]?.map (·.1)).getD []) 0 then ((n : Int), fstI b ((a[n]?.map (·.1)).getD []) 0) else lastHTo a b n
def lastH (a b : List H32) : Int × Int := lastHTo a b a.length
theorem lastTo_range (a b : List H32) : ∀ n, lastHTo a b n = (-1, -1) ∨ (0 ≤ (lastHTo a b n).1 ∧ (lastHTo a b n).1 < (n : Int) ∧ 0 ≤ (lastHTo a b n).2 ∧ (lastHTo a b n).2 < (b.length : Int))
  | 0 => .inl rfl
  | n + 1 => by
    unfold lastHTo
    split
    · rename_i h
      right
      rcases fstI_range b ((a[n]?.map (·.1)).getD []) 0 with e | e
      · omega
      · simp only; omega
    · rcases lastTo_range a b n with h | h
      · exact .inl h
      · right; omega
set_option maxHeartbeats 4000000 in
theorem commonLast_den (a b : List H32) (n m : Nat) (fa fb : Bool) (hn : a.length = n) (hm : b.length = m) (hN : n ≤ 1000000) (hM : m ≤ 1000000) :
    DenV Try.prog 64 [.c (.sl (hsC a) n fa), .c (.sl (hsC b) m fb)] (.tup [.c (iC (lastH a b).1), .c (iC (lastH a b).2)]) := by
  refine Den.frame rfl rfl ?_
  have hlen := hsC_len a
  have hat := hsC_at a
  have p1 := fun id hid => identFirst_den b id hid m fb hm hM
  have hst : ∀ i, lastHTo a b (i + 1) = if 0 ≤ fstI b ((a[i]?.map (·.1)).getD []) 0 then ((i : Int), fstI b ((a[i]?.map (·.1)).getD []) 0) else lastHTo a b i := fun _ => rfl
  have h0 : lastHTo a b 0 = (-1, -1) := rfl
  have hl : lastH a b = lastHTo a b n := by unfold lastH; rw [hn]
  generalize lastH a b = r at *
  generalize lastHTo a b = f at *
  generalize hsC b = cb at *
  generalize hsC a = ca at *
  refine den_of Try.func64 rfl rfl (by simp [Try.ntmps64]) (fun X hX hO => ?_)
  rw [Try.ntmps64] at hX
  simp only [Try.results64]
  have w0 := wrap_in ((n : Int) - 1) (by omega)
  repeat' (first 
   | (with_reducible first | refine awp_scope ?_ | refine awp_seq ?_ | refine awp_block ?_)
   | ((with_reducible first | refine awp_label ?_ | refine awp_skip ?_); try simp only [thenA, inBlockA, noGotoA])
   | (with_reducible refine awp_exit ?_; simp only [thenA, inBlockA, noGotoA, if_true, Nat.reduceEqDiff, if_false, ↓reduceIte])
   | (with_reducible refine awp_ret ?_; (try simp only [thenA, inBlockA, noGotoA]); (try simp [-List.reduceReplicate, Nat.add_one_le_iff, -getElem?_pos, -getElem?_neg, List.getElem?_cons_zero, List.getElem?_cons_succ, iC, w0]))
   | ((with_reducible first | refine awp_reg 25 hX [0, 1, 4, 5, 6, 7, 12, 22] ?_ | change postOf _ _ _ _ _); simp [-List.reduceReplicate, Nat.add_one_le_iff, -getElem?_pos, -getElem?_neg, List.getElem?_cons_zero, List.getElem?_cons_succ, iC, w0])
   | (with_reducible refine awp_if_b rfl (fun hc => ?_) (fun hc => ?_) <;> (try simp [-getElem?_pos, -getElem?_neg] at hc) <;> (try (exfalso; omega)))
   | ((with_reducible first | refine GuardK_b (fun hc => ?_) (fun hc => ?_)) <;> (try simp only [Bool.not_eq_true', Bool.not_eq_false', decide_eq_true_eq, decide_eq_false_iff_not] at hc) <;> (first | (exfalso; omega) | skip) <;> simp [-List.reduceReplicate, Nat.add_one_le_iff, -getElem?_pos, -getElem?_neg, List.getElem?_cons_zero, List.getElem?_cons_succ, iC, w0, hc])
   | ((with_reducible first | refine hother _ _ rfl ?_); simp only [inBlockA, thenA, noGotoA, Nat.reduceEqDiff, if_false, if_true, ↓reduceIte])
   | (with_reducible refine And.intro (by omega) ?_)
   | fail)
  refine awp_forU [0, 1, 6] (fun j (_u : Unit) => [(6, .c (iC ((n : Int) - 1 - j)))]) (fun j (_u : Unit) => []) (fun j (_u : Unit) => r = f (n - j)) (n) (()) (by first | trivial | (simp; done) | omega | (intros; simp at *; done)) (by simp [-List.reduceReplicate, keep, iC]) (by simp [-List.reduceReplicate, iC]) ?_
  rintro j _u Q1 hi hH next hother
  conv => arg 5; arg 1; simp only [List.cons_append, List.nil_append, keep, get, Nat.reduceEqDiff, if_true, if_false, ↓reduceIte]
  by_cases hlt : j < n
  · obtain ⟨i, hi'⟩ : ∃ i, n - j = i + 1 := ⟨n - j - 1, by omega⟩
    have e1 : (n : Int) - 1 - (j : Int) = (i : Int) := by omega
    have e2 : n - (j + 1) = i := by omega
    have e3 : (n : Int) - 1 - ((j : Int) + 1) = (i : Int) - 1 := by omega
    obtain ⟨h, hh⟩ : ∃ h, a[i]? = some h := ⟨_, List.getElem?_eq_getElem (by omega)⟩
    have ha := hat i h hh
    have hl2 := h.2
    have q1 := p1 h.1 hl2
    have t2 := hash_take h.1 hl2
    have hb : 32 ≤ ca.length - i * 32 := by omega
    have hin : i < n := by omega
    have hs := hst i
    simp only [hh, Option.map_some, Option.getD_some] at hs
    rw [hi', hs] at hH
    rw [e2] at next
    have wi := wrap_in ((i : Int) - 1) (by omega)
    unfold hashM at q1
    generalize fstI b h.1 0 = k at *
    by_cases hk : 0 ≤ k
    · rw [if_pos hk] at hH
      subst hH
      repeat' (first 
       | (with_reducible first | refine awp_scope ?_ | refine awp_seq ?_ | refine awp_block ?_)
       | ((with_reducible first | refine awp_label ?_ | refine awp_skip ?_); try simp only [thenA, inBlockA, noGotoA])
       | (with_reducible refine awp_exit ?_; simp only [thenA, inBlockA, noGotoA, if_true, Nat.reduceEqDiff, if_false, ↓reduceIte])
       | (with_reducible refine awp_ret ?_; (try simp only [thenA, inBlockA, noGotoA]); (try simp [-List.reduceReplicate, Nat.add_one_le_iff, -getElem?_pos, -getElem?_neg, List.getElem?_cons_zero, List.getElem?_cons_succ, iC, bC, e1, hin, ha, hl2, t2, hb, hk]))
       | ((with_reducible first | refine awp_reg 25 hX [0, 1, 4, 5, 6, 7, 12, 22] ?_ | change postOf _ _ _ _ _); simp [-List.reduceReplicate, Nat.add_one_le_iff, -getElem?_pos, -getElem?_neg, List.getElem?_cons_zero, List.getElem?_cons_succ, iC, bC, e1, hin, ha, hl2, t2, hb, hk])
       | ((first | (refine (q1 _).det ?_)); try simp [-List.reduceReplicate, Nat.add_one_le_iff, -getElem?_pos, -getElem?_neg, List.getElem?_cons_zero, List.getElem?_cons_succ, iC, bC, e1, hin, ha, hl2, t2, hb, hk])
       | (with_reducible refine awp_if_b rfl (fun hc => ?_) (fun hc => ?_) <;> (try simp [-getElem?_pos, -getElem?_neg] at hc) <;> (try (exfalso; omega)))
       | ((with_reducible first | refine GuardK_b (fun hc => ?_) (fun hc => ?_)) <;> (try simp only [Bool.not_eq_true', Bool.not_eq_false', decide_eq_true_eq, decide_eq_false_iff_not] at hc) <;> (first | (exfalso; omega) | skip) <;> simp [-List.reduceReplicate, Nat.add_one_le_iff, -getElem?_pos, -getElem?_neg, List.getElem?_cons_zero, List.getElem?_cons_succ, iC, bC, e1, hin, ha, hl2, t2, hb, hk, hc])
       | ((with_reducible first | refine hother _ _ rfl ?_); simp only [inBlockA, thenA, noGotoA, Nat.reduceEqDiff, if_false, if_true, ↓reduceIte])
       | (with_reducible refine And.intro (by omega) ?_)
       | fail)
    · rw [if_neg hk] at hH
      repeat' (first 
       | (with_reducible first | refine awp_scope ?_ | refine awp_seq ?_ | refine awp_block ?_)
       | ((with_reducible first | refine awp_label ?_ | refine awp_skip ?_); try simp only [thenA, inBlockA, noGotoA])
       | (with_reducible refine awp_exit ?_; simp only [thenA, inBlockA, noGotoA, if_true, Nat.reduceEqDiff, if_false, ↓reduceIte])
       | (with_reducible refine awp_ret ?_; (try simp only [thenA, inBlockA, noGotoA]); (try simp [-List.reduceReplicate, Nat.add_one_le_iff, -getElem?_pos, -getElem?_neg, List.getElem?_cons_zero, List.getElem?_cons_succ, iC, bC, e1, hin, ha, hl2, t2, hb, hk, wi]))
       | ((with_reducible first | refine awp_reg 25 hX [0, 1, 4, 5, 6, 7, 12, 22] ?_ | change postOf _ _ _ _ _); simp [-List.reduceReplicate, Nat.add_one_le_iff, -getElem?_pos, -getElem?_neg, List.getElem?_cons_zero, List.getElem?_cons_succ, iC, bC, e1, hin, ha, hl2, t2, hb, hk, wi])
       | ((first | (refine (q1 _).det ?_)); try simp [-List.reduceReplicate, Nat.add_one_le_iff, -getElem?_pos, -getElem?_neg, List.getElem?_cons_zero, List.getElem?_cons_succ, iC, bC, e1, hin, ha, hl2, t2, hb, hk, wi])
       | (with_reducible refine awp_if_b rfl (fun hc => ?_) (fun hc => ?_) <;> (try simp [-getElem?_pos, -getElem?_neg] at hc) <;> (try (exfalso; omega)))
       | ((with_reducible first | refine GuardK_b (fun hc => ?_) (fun hc => ?_)) <;> (try simp only [Bool.not_eq_true', Bool.not_eq_false', decide_eq_true_eq, decide_eq_false_iff_not] at hc) <;> (first | (exfalso; omega) | skip) <;> simp [-List.reduceReplicate, Nat.add_one_le_iff, -getElem?_pos, -getElem?_neg, List.getElem?_cons_zero, List.getElem?_cons_succ, iC, bC, e1, hin, ha, hl2, t2, hb, hk, wi, hc])
       | ((with_reducible first | refine hother _ _ rfl ?_); simp only [inBlockA, thenA, noGotoA, Nat.reduceEqDiff, if_false, if_true, ↓reduceIte])
       | (with_reducible refine And.intro (by omega) ?_)
       | fail)
      refine next _ _ (()) (by omega) (by first | trivial | omega | assumption) (by simp [-List.reduceReplicate, keep, iC, e3]) (by simp [-List.reduceReplicate, iC, e3])
  · have hj : j = n := by omega
    subst hj
    rw [Nat.sub_self, h0] at hH
    subst hH
    have e1 : (j : Int) - 1 - (j : Int) = -1 := by omega
    repeat' (first 
     | (with_reducible first | refine awp_scope ?_ | refine awp_seq ?_ | refine awp_block ?_)
     | ((with_reducible first | refine awp_label ?_ | refine awp_skip ?_); try simp only [thenA, inBlockA, noGotoA])
     | (with_reducible refine awp_exit ?_; simp only [thenA, inBlockA, noGotoA, if_true, Nat.reduceEqDiff, if_false, ↓reduceIte])
     | (with_reducible refine awp_ret ?_; (try simp only [thenA, inBlockA, noGotoA]); (try simp [-List.reduceReplicate, Nat.add_one_le_iff, -getElem?_pos, -getElem?_neg, List.getElem?_cons_zero, List.getElem?_cons_succ, iC, e1]))
     | ((with_reducible first | refine awp_reg 25 hX [0, 1, 4, 5, 6, 7, 12, 22] ?_ | change postOf _ _ _ _ _); simp [-List.reduceReplicate, Nat.add_one_le_iff, -getElem?_pos, -getElem?_neg, List.getElem?_cons_zero, List.getElem?_cons_succ, iC, e1])
     | (with_reducible refine awp_if_b rfl (fun hc => ?_) (fun hc => ?_) <;> (try simp [-getElem?_pos, -getElem?_neg] at hc) <;> (try (exfalso; omega)))
     | ((with_reducible first | refine GuardK_b (fun hc => ?_) (fun hc => ?_)) <;> (try simp only [Bool.not_eq_true', Bool.not_eq_false', decide_eq_true_eq, decide_eq_false_iff_not] at hc) <;> (first | (exfalso; omega) | skip) <;> simp [-List.reduceReplicate, Nat.add_one_le_iff, -getElem?_pos, -getElem?_neg, List.getElem?_cons_zero, List.getElem?_cons_succ, iC, e1, hc])
     | ((with_reducible first | refine hother _ _ rfl ?_); simp only [inBlockA, thenA, noGotoA, Nat.reduceEqDiff, if_false, if_true, ↓reduceIte])
     | (with_reducible refine And.intro (by omega) ?_)
     | fail)
end Go.Av

set_option exponentiation.threshold 1000
set_option linter.unusedVariables false
set_option linter.unusedSimpArgs false
set_option maxRecDepth 100000
set_option maxHeartbeats 4000000
namespace Go.Av
open Go Go.Proofs Go.Proofs.Ytofomnllcmgfeaa Go.RowKit
/-! ### duel: behind, Scores, Verdict -/
def sideL (a : List H32) (za : List Int) : List C := [.sl (hsC a) a.length false, .sl (za.map iC) za.length false]
def sideM (a : List H32) (za : List Int) : M := .agg (up (sideL a za))
def behI (zs : List Int) (at_ : Int) : List Int := if at_ < 0 ∨ (zs.length : Int) ≤ at_ + 1 then [] else zs.drop (at_ + 1).toNat
theorem behI_len (zs : List Int) (at_ : Int) : (behI zs at_).length ≤ zs.length := by
  unfold behI
  split
  · simp
  · simp
set_option maxHeartbeats 4000000 in
theorem behind_den (a : List H32) (zs : List Int) (at_ : Int) (h1 : -1 ≤ at_) (h2 : at_ ≤ 1000000) : DenV Try.prog 66 [sideM a zs, .c (iC at_)] (.c (.sl ((behI zs at_).map iC) (behI zs at_).length false)) := by
  refine Den.frame rfl rfl ?_
  have hw := wrap_in (at_ + 1) (by omega)
  by_cases hc : at_ < 0 ∨ (zs.length : Int) ≤ at_ + 1
  · have e : behI zs at_ = [] := by unfold behI; rw [if_pos hc]
    rw [e]
    have : Den Try.prog 66 [sideM a zs, .c (iC at_)] [] (fun r _ => r = .c (.v (.slice none 0 0))) := by
      unfold sideM sideL
      refine den_of Try.func66 rfl rfl (by simp [Try.ntmps66]) (fun X hX hO => ?_)
      rw [Try.ntmps66] at hX
      simp only [Try.results66]
      by_cases c1 : at_ < 0
      · repeat' (first 
         | (with_reducible first | refine awp_scope ?_ | refine awp_seq ?_ | refine awp_block ?_)
         | ((with_reducible first | refine awp_label ?_ | refine awp_skip ?_); try simp only [thenA, inBlockA, noGotoA])
         | (with_reducible refine awp_exit ?_; simp only [thenA, inBlockA, noGotoA, if_true, Nat.reduceEqDiff, if_false, ↓reduceIte])
         | (with_reducible refine awp_ret ?_; (try simp only [thenA, inBlockA, noGotoA]); (try simp [-List.reduceReplicate, Nat.add_one_le_iff, -getElem?_pos, -getElem?_neg, List.getElem?_cons_zero, List.getElem?_cons_succ, iC, bC, c1, hw]))
         | ((with_reducible first | refine awp_reg 20 hX [1, 2, 4, 14] ?_ | change postOf _ _ _ _ _); simp [-List.reduceReplicate, Nat.add_one_le_iff, -getElem?_pos, -getElem?_neg, List.getElem?_cons_zero, List.getElem?_cons_succ, iC, bC, c1, hw])
         | (with_reducible refine awp_if_b rfl (fun hc => ?_) (fun hc => ?_) <;> (try simp [-getElem?_pos, -getElem?_neg] at hc) <;> (try (exfalso; omega)))
         | ((with_reducible first | refine GuardK_b (fun hc => ?_) (fun hc => ?_)) <;> (try simp only [Bool.not_eq_true', Bool.not_eq_false', decide_eq_true_eq, decide_eq_false_iff_not] at hc) <;> (first | (exfalso; omega) | skip) <;> simp [-List.reduceReplicate, Nat.add_one_le_iff, -getElem?_pos, -getElem?_neg, List.getElem?_cons_zero, List.getElem?_cons_succ, iC, bC, c1, hw, hc])
         | (with_reducible refine And.intro (by omega) ?_)
         | fail)
      · have c2 : (zs.length : Int) ≤ at_ + 1 := by omega
        repeat' (first 
         | (with_reducible first | refine awp_scope ?_ | refine awp_seq ?_ | refine awp_block ?_)
         | ((with_reducible first | refine awp_label ?_ | refine awp_skip ?_); try simp only [thenA, inBlockA, noGotoA])
         | (with_reducible refine awp_exit ?_; simp only [thenA, inBlockA, noGotoA, if_true, Nat.reduceEqDiff, if_false, ↓reduceIte])
         | (with_reducible refine awp_ret ?_; (try simp only [thenA, inBlockA, noGotoA]); (try simp [-List.reduceReplicate, Nat.add_one_le_iff, -getElem?_pos, -getElem?_neg, List.getElem?_cons_zero, List.getElem?_cons_succ, iC, bC, c1, c2, hw]))
         | ((with_reducible first | refine awp_reg 20 hX [1, 2, 4, 14] ?_ | change postOf _ _ _ _ _); simp [-List.reduceReplicate, Nat.add_one_le_iff, -getElem?_pos, -getElem?_neg, List.getElem?_cons_zero, List.getElem?_cons_succ, iC, bC, c1, c2, hw])
         | (with_reducible refine awp_if_b rfl (fun hc => ?_) (fun hc => ?_) <;> (try simp [-getElem?_pos, -getElem?_neg] at hc) <;> (try (exfalso; omega)))
         | ((with_reducible first | refine GuardK_b (fun hc => ?_) (fun hc => ?_)) <;> (try simp only [Bool.not_eq_true', Bool.not_eq_false', decide_eq_true_eq, decide_eq_false_iff_not] at hc) <;> (first | (exfalso; omega) | skip) <;> simp [-List.reduceReplicate, Nat.add_one_le_iff, -getElem?_pos, -getElem?_neg, List.getElem?_cons_zero, List.getElem?_cons_succ, iC, bC, c1, c2, hw, hc])
         | (with_reducible refine And.intro (by omega) ?_)
         | fail)
    exact this.leR (fun r ob' e => ⟨_, by subst e; exact leM_c (leC_nil _), rfl⟩)
  · have e : behI zs at_ = zs.drop (at_ + 1).toNat := by unfold behI; rw [if_neg hc]
    rw [e]
    have c1 : ¬ at_ < 0 := by omega
    have c2 : ¬ (zs.length : Int) ≤ at_ + 1 := by omega
    obtain ⟨k, hk⟩ : ∃ k : Nat, at_ + 1 = (k : Int) := ⟨(at_ + 1).toNat, by omega⟩
    have hkn : (at_ + 1).toNat = k := by omega
    rw [hkn]
    have hl : (zs.drop k).length = zs.length - k := by simp
    have hle : k ≤ zs.length := by omega
    have hne : ¬ k = zs.length := by omega
    have htn : ((zs.length : Int) - (k : Int)).toNat = zs.length - k := by omega
    have htk : ((zs.map iC).drop k).take (zs.length - k) = (zs.drop k).map iC := by rw [List.take_of_length_le (by simp), List.map_drop]
    rw [hk] at hw c2
    rw [hl]
    unfold sideM sideL
    refine den_of Try.func66 rfl rfl (by simp [Try.ntmps66]) (fun X hX hO => ?_)
    rw [Try.ntmps66] at hX
    simp only [Try.results66]
    repeat' (first 
     | (with_reducible first | refine awp_scope ?_ | refine awp_seq ?_ | refine awp_block ?_)
     | ((with_reducible first | refine awp_label ?_ | refine awp_skip ?_); try simp only [thenA, inBlockA, noGotoA])
     | (with_reducible refine awp_exit ?_; simp only [thenA, inBlockA, noGotoA, if_true, Nat.reduceEqDiff, if_false, ↓reduceIte])
     | (with_reducible refine awp_ret ?_; (try simp only [thenA, inBlockA, noGotoA]); (try simp [-List.reduceReplicate, Nat.add_one_le_iff, -getElem?_pos, -getElem?_neg, List.getElem?_cons_zero, List.getElem?_cons_succ, iC, bC, c1, c2, hk, hw, hkn, hle, hne, htn, htk]))
     | ((with_reducible first | refine awp_reg 20 hX [1, 2, 4, 14] ?_ | change postOf _ _ _ _ _); simp [-List.reduceReplicate, Nat.add_one_le_iff, -getElem?_pos, -getElem?_neg, List.getElem?_cons_zero, List.getElem?_cons_succ, iC, bC, c1, c2, hk, hw, hkn, hle, hne, htn, htk])
     | (with_reducible refine awp_if_b rfl (fun hc => ?_) (fun hc => ?_) <;> (try simp [-getElem?_pos, -getElem?_neg] at hc) <;> (try (exfalso; omega)))
     | ((with_reducible first | refine GuardK_b (fun hc => ?_) (fun hc => ?_)) <;> (try simp only [Bool.not_eq_true', Bool.not_eq_false', decide_eq_true_eq, decide_eq_false_iff_not] at hc) <;> (first | (exfalso; omega) | skip) <;> simp [-List.reduceReplicate, Nat.add_one_le_iff, -getElem?_pos, -getElem?_neg, List.getElem?_cons_zero, List.getElem?_cons_succ, iC, bC, c1, c2, hk, hw, hkn, hle, hne, htn, htk, hc])
     | (with_reducible refine And.intro (by omega) ?_)
     | fail)
    intro h
    omega
/-- The arguments of two sides, and which is better. -/
def argN (a b : List H32) (za zb : List Int) (m : Int) : (Nat × Nat) × (Nat × Nat) := if (lastH a b).1 < 0 then ((0, 0), (0, 0)) else (bestN (behI za (lastH a b).1) m 256, bestN (behI zb (lastH a b).2) m 256)
def vrdN (a b : List H32) (za zb : List Int) (m : Int) : Int := if (lastH a b).1 < 0 then 0 else cmpN (bestN (behI za (lastH a b).1) m 256).1 (bestN (behI zb (lastH a b).2) m 256).1
theorem lastH_range (a b : List H32) : lastH a b = (-1, -1) ∨ (0 ≤ (lastH a b).1 ∧ (lastH a b).1 < (a.length : Int) ∧ 0 ≤ (lastH a b).2 ∧ (lastH a b).2 < (b.length : Int)) := lastTo_range a b a.length
set_option maxHeartbeats 4000000 in
theorem scores_den (a b : List H32) (za zb : List Int) (m : Int) (ha : a.length ≤ 100000) (hb : b.length ≤ 100000) (hza : za.length ≤ 100000) (hzb : zb.length ≤ 100000) :
    DenV Try.prog 37 [sideM a za, sideM b zb, .c (iC m)] (.tup [.agg (up (scoreC (argN a b za zb m).1)), .agg (up (scoreC (argN a b za zb m).2)), .c (bC (!decide ((lastH a b).1 < 0)))]) := by
  refine Den.frame rfl rfl ?_
  have p1 := commonLast_den a b a.length b.length false false rfl rfl (by omega) (by omega)
  have hr := lastH_range a b
  have pa := fun at_ h1 h2 => behind_den a za at_ h1 h2
  have pb := fun at_ h1 h2 => behind_den b zb at_ h1 h2
  have la := behI_len za
  have lb := behI_len zb
  have sl : ∀ p, (scoreC p).length = 6 := fun _ => rfl
  have tl : ∀ p, (scoreC p).take 6 = scoreC p := fun _ => rfl
  have qa := fun at_ => best_den (behI za at_) m false (by have := la at_; omega)
  have qb := fun at_ => best_den (behI zb at_) m false (by have := lb at_; omega)
  have h0 : ∀ r : (Nat × Nat) × (Nat × Nat), r = argN a b za zb m → r = (if (lastH a b).1 < 0 then ((0, 0), (0, 0)) else (bestN (behI za (lastH a b).1) m 256, bestN (behI zb (lastH a b).2) m 256)) := fun r h => h
  have hs0 : scoreC (0, 0) = [C.v (.int .u64 0), C.v (.int .u64 0), C.v (.int .u64 0), C.v (.int .u64 0), C.v (.int .u64 0), C.v (.int .i64 0)] := by simp [scoreC, limL, lim, u64C, iC]
  obtain ⟨r, hre⟩ : ∃ r, r = argN a b za zb m := ⟨_, rfl⟩
  have hre2 := h0 r hre
  rw [← hre]
  obtain ⟨i, hi⟩ : ∃ i, (lastH a b).1 = i := ⟨_, rfl⟩
  obtain ⟨k, hk⟩ : ∃ k, (lastH a b).2 = k := ⟨_, rfl⟩
  rw [hi, hk] at p1 hre2
  rw [hi]
  have lyS : ∀ p q, lay (up (scoreC p)) 0 (up (scoreC q)) = up (scoreC q) := fun _ _ => rfl
  by_cases c : i < 0
  · rw [if_pos c] at hre2
    subst hre2
    unfold sideM sideL
    refine den_of Try.func37 rfl rfl (by simp [Try.ntmps37]) (fun X hX hO => ?_)
    rw [Try.ntmps37] at hX
    simp only [Try.results37]
    repeat' (first 
     | (with_reducible first | refine awp_scope ?_ | refine awp_seq ?_ | refine awp_block ?_)
     | ((with_reducible first | refine awp_label ?_ | refine awp_skip ?_); try simp only [thenA, inBlockA, noGotoA])
     | (with_reducible refine awp_exit ?_; simp only [thenA, inBlockA, noGotoA, if_true, Nat.reduceEqDiff, if_false, ↓reduceIte])
     | (with_reducible refine awp_ret ?_; (try simp only [thenA, inBlockA, noGotoA]); (try simp [-List.reduceReplicate, Nat.add_one_le_iff, -getElem?_pos, -getElem?_neg, List.getElem?_cons_zero, List.getElem?_cons_succ, iC, bC, c, hs0, up]))
     | ((with_reducible first | refine awp_reg 33 hX [2, 3, 4, 6, 7, 8, 9, 10, 20] ?_ | refine awp_drw 33 hX [2, 3, 4, 6, 7, 8, 9, 10, 20] Tab.mixed (by kernel_rfl) ?_ | refine DEv_cut _ _ _ _ _ _ _ _ _ _ _ _ (by kernel_rfl) ?_ | change postOf _ _ _ _ _); simp [-List.reduceReplicate, Nat.add_one_le_iff, -getElem?_pos, -getElem?_neg, List.getElem?_cons_zero, List.getElem?_cons_succ, iC, bC, c, hs0, up])
     | ((first | (refine (p1 _).det ?_) | (refine ⟨_, _, p1 _, fun _ => rfl, ?_⟩)); try simp [-List.reduceReplicate, Nat.add_one_le_iff, -getElem?_pos, -getElem?_neg, List.getElem?_cons_zero, List.getElem?_cons_succ, iC, bC, c, hs0, up])
     | (with_reducible refine awp_if_b rfl (fun hc => ?_) (fun hc => ?_) <;> (try simp [-getElem?_pos, -getElem?_neg] at hc) <;> (try (exfalso; omega)))
     | ((with_reducible first | refine GuardK_b (fun hc => ?_) (fun hc => ?_) | refine DGuard_b _ _ _ _ _ _ _ _ _ _ (fun hc => ?_) (fun hc => ?_)) <;> (try simp only [Bool.not_eq_true', Bool.not_eq_false', decide_eq_true_eq, decide_eq_false_iff_not] at hc) <;> (first | (exfalso; omega) | skip) <;> simp [-List.reduceReplicate, Nat.add_one_le_iff, -getElem?_pos, -getElem?_neg, List.getElem?_cons_zero, List.getElem?_cons_succ, iC, bC, c, hs0, up, hc])
     | (with_reducible refine And.intro (by omega) ?_)
     | fail)
  · rw [if_neg c] at hre2
    have hii : 0 ≤ i ∧ i < (a.length : Int) ∧ 0 ≤ k ∧ k < (b.length : Int) := by
      rcases hr with h | h
      · rw [h] at hi; simp at hi; omega
      · rw [hi, hk] at h; exact h
    have pa1 := pa i (by omega) (by omega)
    have pb1 := pb k (by omega) (by omega)
    have qa1 := qa i
    have qb1 := qb k
    generalize bestN (behI za i) m 256 = x at *
    generalize bestN (behI zb k) m 256 = y at *
    generalize behI za i = xa at *
    generalize behI zb k = xb at *
    subst hre2
    have lz : [M.c (C.v (.int .u64 0)), M.c (C.v (.int .u64 0)), M.c (C.v (.int .u64 0)), M.c (C.v (.int .u64 0)), M.c (C.v (.int .u64 0)), M.c (C.v (.int .i64 0))] = up (scoreC (0, 0)) := by rw [hs0]; rfl
    unfold sideM sideL at *
    refine den_of Try.func37 rfl rfl (by simp [Try.ntmps37]) (fun X hX hO => ?_)
    rw [Try.ntmps37] at hX
    simp only [Try.results37]
    repeat' (first 
     | (with_reducible first | refine awp_scope ?_ | refine awp_seq ?_ | refine awp_block ?_)
     | ((with_reducible first | refine awp_label ?_ | refine awp_skip ?_); try simp only [thenA, inBlockA, noGotoA])
     | (with_reducible refine awp_exit ?_; simp only [thenA, inBlockA, noGotoA, if_true, Nat.reduceEqDiff, if_false, ↓reduceIte])
     | (with_reducible refine awp_ret ?_; (try simp only [thenA, inBlockA, noGotoA]); (try simp [-List.reduceReplicate, Nat.add_one_le_iff, -getElem?_pos, -getElem?_neg, List.getElem?_cons_zero, List.getElem?_cons_succ, iC, bC, c, sl, tl]))
     | ((with_reducible first | refine awp_reg 33 hX [2, 3, 4, 6, 7, 8, 9, 10, 20] ?_ | refine awp_drw 33 hX [2, 3, 4, 6, 7, 8, 9, 10, 20] Tab.mixed (by kernel_rfl) ?_ | refine DEv_cut _ _ _ _ _ _ _ _ _ _ _ _ (by kernel_rfl) ?_ | change postOf _ _ _ _ _); simp [-List.reduceReplicate, Nat.add_one_le_iff, -getElem?_pos, -getElem?_neg, List.getElem?_cons_zero, List.getElem?_cons_succ, iC, bC, c, sl, tl])
     | ((first | (refine (p1 _).det ?_) | (refine ⟨_, _, p1 _, fun _ => rfl, ?_⟩) | (refine (pa1 _).det ?_) | (refine ⟨_, _, pa1 _, fun _ => rfl, ?_⟩) | (refine (pb1 _).det ?_) | (refine ⟨_, _, pb1 _, fun _ => rfl, ?_⟩) | (refine (qa1 _).det ?_) | (refine ⟨_, _, qa1 _, fun _ => rfl, ?_⟩) | (refine (qb1 _).det ?_) | (refine ⟨_, _, qb1 _, fun _ => rfl, ?_⟩)); try simp [-List.reduceReplicate, Nat.add_one_le_iff, -getElem?_pos, -getElem?_neg, List.getElem?_cons_zero, List.getElem?_cons_succ, iC, bC, c, sl, tl])
     | (with_reducible refine awp_if_b rfl (fun hc => ?_) (fun hc => ?_) <;> (try simp [-getElem?_pos, -getElem?_neg] at hc) <;> (try (exfalso; omega)))
     | ((with_reducible first | refine GuardK_b (fun hc => ?_) (fun hc => ?_) | refine DGuard_b _ _ _ _ _ _ _ _ _ _ (fun hc => ?_) (fun hc => ?_)) <;> (try simp only [Bool.not_eq_true', Bool.not_eq_false', decide_eq_true_eq, decide_eq_false_iff_not] at hc) <;> (first | (exfalso; omega) | skip) <;> simp [-List.reduceReplicate, Nat.add_one_le_iff, -getElem?_pos, -getElem?_neg, List.getElem?_cons_zero, List.getElem?_cons_succ, iC, bC, c, sl, tl, hc])
     | (with_reducible refine And.intro (by omega) ?_)
     | fail)
set_option maxHeartbeats 4000000 in
theorem verdict_den (a b : List H32) (za zb : List Int) (m : Int) (ha : a.length ≤ 100000) (hb : b.length ≤ 100000) (hza : za.length ≤ 100000) (hzb : zb.length ≤ 100000) :
    DenV Try.prog 39 [sideM a za, sideM b zb, .c (iC m)] (.c (iC (vrdN a b za zb m))) := by
  refine Den.frame rfl rfl ?_
  have p1 := scores_den a b za zb m ha hb hza hzb
  have la := behI_len za
  have lb := behI_len zb
  have hba := fun at_ => bestN_lt (behI za at_) m (by have := la at_; omega) 256 (by omega)
  have hbb := fun at_ => bestN_lt (behI zb at_) m (by have := lb at_; omega) 256 (by omega)
  unfold argN at p1
  unfold vrdN
  obtain ⟨i, hi⟩ : ∃ i, (lastH a b).1 = i := ⟨_, rfl⟩
  obtain ⟨k, hk⟩ : ∃ k, (lastH a b).2 = k := ⟨_, rfl⟩
  rw [hi, hk] at p1 ⊢
  have q1 := cmp_den (bestN (behI za i) m 256).1 (bestN (behI zb k) m 256).1 (hba i) (hbb k)
  generalize bestN (behI za i) m 256 = x at *
  generalize bestN (behI zb k) m 256 = y at *
  have sl : ∀ p, (scoreC p).length = 6 := fun _ => rfl
  have tl : ∀ p, (scoreC p).take 6 = scoreC p := fun _ => rfl
  have t5 : ∀ p, (scoreC p).take 5 = limC 5 p.1 := fun p => by rw [limL_eq]; rfl
  have lyS : ∀ q, lay [M.c (C.v (.int .u64 0)), M.c (C.v (.int .u64 0)), M.c (C.v (.int .u64 0)), M.c (C.v (.int .u64 0)), M.c (C.v (.int .u64 0)), M.c (C.v (.int .i64 0))] 0 (up (scoreC q)) = up (scoreC q) := fun _ => rfl
  unfold largeM at q1
  by_cases c : i < 0
  · simp only [c, if_true, decide_true, Bool.not_true] at p1 ⊢
    unfold sideM sideL at *
    refine den_of Try.func39 rfl rfl (by simp [Try.ntmps39]) (fun X hX hO => ?_)
    rw [Try.ntmps39] at hX
    simp only [Try.results39]
    repeat' (first 
     | (with_reducible first | refine awp_scope ?_ | refine awp_seq ?_ | refine awp_block ?_)
     | ((with_reducible first | refine awp_label ?_ | refine awp_skip ?_); try simp only [thenA, inBlockA, noGotoA])
     | (with_reducible refine awp_exit ?_; simp only [thenA, inBlockA, noGotoA, if_true, Nat.reduceEqDiff, if_false, ↓reduceIte])
     | (with_reducible refine awp_ret ?_; (try simp only [thenA, inBlockA, noGotoA]); (try simp [-List.reduceReplicate, Nat.add_one_le_iff, -getElem?_pos, -getElem?_neg, List.getElem?_cons_zero, List.getElem?_cons_succ, iC, bC, sl, tl, lyS]))
     | ((with_reducible first | refine awp_reg 25 hX [2, 3, 4, 6, 7, 8, 9, 19] ?_ | change postOf _ _ _ _ _); simp [-List.reduceReplicate, Nat.add_one_le_iff, -getElem?_pos, -getElem?_neg, List.getElem?_cons_zero, List.getElem?_cons_succ, iC, bC, sl, tl, lyS])
     | ((first | (refine (p1 _).det ?_)); try simp [-List.reduceReplicate, Nat.add_one_le_iff, -getElem?_pos, -getElem?_neg, List.getElem?_cons_zero, List.getElem?_cons_succ, iC, bC, sl, tl, lyS])
     | (with_reducible refine awp_if_b rfl (fun hc => ?_) (fun hc => ?_) <;> (try simp [-getElem?_pos, -getElem?_neg] at hc) <;> (try (exfalso; omega)))
     | ((with_reducible first | refine GuardK_b (fun hc => ?_) (fun hc => ?_)) <;> (try simp only [Bool.not_eq_true', Bool.not_eq_false', decide_eq_true_eq, decide_eq_false_iff_not] at hc) <;> (first | (exfalso; omega) | skip) <;> simp [-List.reduceReplicate, Nat.add_one_le_iff, -getElem?_pos, -getElem?_neg, List.getElem?_cons_zero, List.getElem?_cons_succ, iC, bC, sl, tl, lyS, hc])
     | (with_reducible refine And.intro (by omega) ?_)
     | fail)
  · simp only [c, if_false, decide_false, Bool.not_false] at p1 ⊢
    unfold sideM sideL at *
    refine den_of Try.func39 rfl rfl (by simp [Try.ntmps39]) (fun X hX hO => ?_)
    rw [Try.ntmps39] at hX
    simp only [Try.results39]
    repeat' (first 
     | (with_reducible first | refine awp_scope ?_ | refine awp_seq ?_ | refine awp_block ?_)
     | ((with_reducible first | refine awp_label ?_ | refine awp_skip ?_); try simp only [thenA, inBlockA, noGotoA])
     | (with_reducible refine awp_exit ?_; simp only [thenA, inBlockA, noGotoA, if_true, Nat.reduceEqDiff, if_false, ↓reduceIte])
     | (with_reducible refine awp_ret ?_; (try simp only [thenA, inBlockA, noGotoA]); (try simp [-List.reduceReplicate, Nat.add_one_le_iff, -getElem?_pos, -getElem?_neg, List.getElem?_cons_zero, List.getElem?_cons_succ, iC, bC, sl, tl, t5, lyS]))
     | ((with_reducible first | refine awp_reg 25 hX [2, 3, 4, 6, 7, 8, 9, 19] ?_ | change postOf _ _ _ _ _); simp [-List.reduceReplicate, Nat.add_one_le_iff, -getElem?_pos, -getElem?_neg, List.getElem?_cons_zero, List.getElem?_cons_succ, iC, bC, sl, tl, t5, lyS])
     | ((first | (refine (p1 _).det ?_) | (refine (q1 _).det ?_)); try simp [-List.reduceReplicate, Nat.add_one_le_iff, -getElem?_pos, -getElem?_neg, List.getElem?_cons_zero, List.getElem?_cons_succ, iC, bC, sl, tl, t5, lyS])
     | (with_reducible refine awp_if_b rfl (fun hc => ?_) (fun hc => ?_) <;> (try simp [-getElem?_pos, -getElem?_neg] at hc) <;> (try (exfalso; omega)))
     | ((with_reducible first | refine GuardK_b (fun hc => ?_) (fun hc => ?_)) <;> (try simp only [Bool.not_eq_true', Bool.not_eq_false', decide_eq_true_eq, decide_eq_false_iff_not] at hc) <;> (first | (exfalso; omega) | skip) <;> simp [-List.reduceReplicate, Nat.add_one_le_iff, -getElem?_pos, -getElem?_neg, List.getElem?_cons_zero, List.getElem?_cons_succ, iC, bC, sl, tl, t5, lyS, hc])
     | (with_reducible refine And.intro (by omega) ?_)
     | fail)
end Go.Av

set_option exponentiation.threshold 1000
set_option linter.unusedVariables false
set_option linter.unusedSimpArgs false
set_option maxRecDepth 100000
set_option maxHeartbeats 4000000
namespace Go.Av
open Go Go.Proofs Go.Proofs.Ytofomnllcmgfeaa Go.RowKit
/-! ### steps -/
structure ST where
  h : HD
  idx : Int
  cnt : Int
  path : List H32
def opC (s : ST) : List C := [iC s.idx, iC s.cnt, .sl (hsC s.path) s.path.length false]
def stC' (s : ST) : List C := hdC s.h ++ opC s
def stsC (l : List ST) : List C := l.flatMap stC'
theorem stC_len (s : ST) : (stC' s).length = 69 := by simp [stC', opC, hdC_len]
theorem stsC_len (l : List ST) : (stsC l).length = 69 * l.length := by
  have := flat_len (f := stC') (sz := 69) stC_len l
  unfold stsC
  omega
theorem stsC_at (l : List ST) (i : Nat) (s : ST) (hi : l[i]? = some s) : ((stsC l).drop (i * 69)).take 69 = stC' s := flat_take stC_len l i s hi
theorem stsC_hd (l : List ST) (i : Nat) (s : ST) (hi : l[i]? = some s) : ((stsC l).drop (i * 69)).take 66 = hdC s.h := by
  have h := stsC_at l i s hi
  have : ((stsC l).drop (i * 69)).take 66 = (((stsC l).drop (i * 69)).take 69).take 66 := by rw [List.take_take]; congr 1
  rw [this, h]
  unfold stC'
  exact List.take_left' (hdC_len s.h)
theorem stsC_path (l : List ST) (i : Nat) (s : ST) (hi : l[i]? = some s) : (stsC l)[i * 69 + 68]? = some (.sl (hsC s.path) s.path.length false) := by
  have h := stsC_at l i s hi
  have e : (((stsC l).drop (i * 69)).take 69)[68]? = (stsC l)[i * 69 + 68]? := by rw [List.getElem?_take_of_lt (by omega), List.getElem?_drop]
  rw [← e, h]
  unfold stC'
  rw [List.getElem?_append_right (by rw [hdC_len]; omega), hdC_len]
  rfl
def heads (l : List ST) : List HD := l.map (·.h)
def STok (l : List ST) : Prop := ∀ s ∈ l, HDok s.h
def idsH (l : List ST) : List H32 := (heads l).map idH
theorem idsH_len (l : List ST) : (idsH l).length = l.length := by simp [idsH, heads]
theorem heads_ok {l : List ST} (h : STok l) : ∀ x ∈ heads l, HDok x := fun x hx => by
  obtain ⟨s, hs, rfl⟩ := List.mem_map.1 hx
  exact h s hs
theorem hdsC_app (a : List HD) (x : HD) : hdsC (a ++ [x]) = hdsC a ++ hdC x := by simp [hdsC]
set_option maxHeartbeats 4000000 in
theorem joinIds_den (l : List ST) (hok : STok l) (n : Nat) (full : Bool) (hn : l.length = n) (hN : n ≤ 1000000) :
    DenV Try.prog 76 [.c (.sl (stsC l) n full)] (.c (.sl (hsC (idsH l)) n false)) := by
  refine Den.frame rfl rfl ?_
  have hlen := stsC_len l
  have hat := stsC_at l
  have p1 := ids_den (heads l) (heads_ok hok) n false (by simp [heads]; omega) hN
  have e : (heads l).map idH = idsH l := rfl
  rw [e] at p1
  have hs : ∀ (i : Nat) s, l[i]? = some s → hdsC ((heads l).take (i + 1)) = hdsC ((heads l).take i) ++ hdC s.h := fun i s h => by
    have : (heads l)[i]? = some s.h := by unfold heads; rw [List.getElem?_map, h]; rfl
    rw [List.take_add_one, this]
    exact hdsC_app _ _
  have hl : ∀ i, i ≤ n → (hdsC ((heads l).take i)).length = i * 66 := fun i h => by
    rw [hdsC_len, List.length_take]
    simp [heads]
    omega
  have h0 : hdsC ((heads l).take 0) = [] := rfl
  have hN' : hdsC ((heads l).take n) = hdsC (heads l) := by rw [List.take_of_length_le (by simp [heads]; omega)]
  obtain ⟨D, hD⟩ : ∃ D : Nat → List C, ∀ i, hdsC ((heads l).take i) = D i := ⟨_, fun _ => rfl⟩
  simp only [hD] at *
  rw [← hN'] at p1
  clear hN' hD e
  generalize hsC (idsH l) = ids at *
  generalize stsC l = cs at *
  refine den_of Try.func76 rfl rfl (by simp [Try.ntmps76]) (fun X hX hO => ?_)
  rw [Try.ntmps76] at hX
  simp only [Try.results76]
  repeat' (first 
   | (with_reducible first | refine awp_scope ?_ | refine awp_seq ?_ | refine awp_block ?_)
   | ((with_reducible first | refine awp_label ?_ | refine awp_skip ?_); try simp only [thenA, inBlockA, noGotoA])
   | (with_reducible refine awp_exit ?_; simp only [thenA, inBlockA, noGotoA, if_true, Nat.reduceEqDiff, if_false, ↓reduceIte])
   | (with_reducible refine awp_ret ?_; (try simp only [thenA, inBlockA, noGotoA]); (try simp [-List.reduceReplicate, Nat.add_one_le_iff, -getElem?_pos, -getElem?_neg, List.getElem?_cons_zero, List.getElem?_cons_succ, iC]))
   | ((with_reducible first | refine awp_reg 20 hX [0, 2, 3, 5, 6, 7, 8, 9] ?_ | change postOf _ _ _ _ _); simp [-List.reduceReplicate, Nat.add_one_le_iff, -getElem?_pos, -getElem?_neg, List.getElem?_cons_zero, List.getElem?_cons_succ, iC])
   | (with_reducible refine awp_if_b rfl (fun hc => ?_) (fun hc => ?_) <;> (try simp [-getElem?_pos, -getElem?_neg] at hc) <;> (try (exfalso; omega)))
   | ((with_reducible first | refine GuardK_b (fun hc => ?_) (fun hc => ?_)) <;> (try simp only [Bool.not_eq_true', Bool.not_eq_false', decide_eq_true_eq, decide_eq_false_iff_not] at hc) <;> (first | (exfalso; omega) | skip) <;> simp [-List.reduceReplicate, Nat.add_one_le_iff, -getElem?_pos, -getElem?_neg, List.getElem?_cons_zero, List.getElem?_cons_succ, iC, hc])
   | ((with_reducible first | refine hother _ _ rfl ?_); simp only [inBlockA, thenA, noGotoA, Nat.reduceEqDiff, if_false, if_true, ↓reduceIte])
   | (with_reducible refine And.intro (by omega) ?_)
   | fail)
  refine awp_nil 3 111 66 (by simp) ?_
  simp
  refine awp_forU [3, 6, 7, 8] (fun i (g : Nat × Bool × List Ob) => [(3, .ms 0 g.1 0 i), (8, .c (iC i))]) (fun i (g : Nat × Bool × List Ob) => ⟨111, 66, g.2.1, g.1, up (D i), none⟩ :: g.2.2) (fun i (g : Nat × Bool × List Ob) => True) (n) ((0, true, [])) (by first | trivial | (simp; done) | omega | (intros; simp at *; done)) (by simp [-List.reduceReplicate, keep, iC, h0]) (by simp [-List.reduceReplicate, iC, h0]) ?_
  rintro i g Q1 hi hH next hother
  conv => arg 5; arg 1; simp only [List.cons_append, List.nil_append, keep, get, Nat.reduceEqDiff, if_true, if_false, ↓reduceIte]
  have hwi := wrap_in ((i : Int) + 1) (by omega)
  by_cases hlt : i < n
  · obtain ⟨s, hs'⟩ : ∃ s, l[i]? = some s := ⟨_, List.getElem?_eq_getElem (by omega)⟩
    have ha := hat i s hs'
    have hsi := hs i s hs'
    have hli := hl i (by omega)
    have hb : 69 ≤ cs.length - i * 69 := by omega
    have hb2 : i * 69 + 69 ≤ cs.length := by omega
    have lst := stC_len s
    have tst : (stC' s).take 69 = stC' s := List.take_of_length_le (by omega)
    have thd : (stC' s).take 66 = hdC s.h := by unfold stC'; exact List.take_left' (hdC_len s.h)
    have lhd := hdC_len s.h
    have thd2 := hdC_66 s.h
    have hroom : (i + 1) * 80 ≤ 140737488355328 := by omega
    generalize stC' s = sc at *
    generalize hdC s.h = hd at *
    repeat' (first 
     | (with_reducible first | refine awp_scope ?_ | refine awp_seq ?_ | refine awp_block ?_)
     | ((with_reducible first | refine awp_label ?_ | refine awp_skip ?_); try simp only [thenA, inBlockA, noGotoA])
     | (with_reducible refine awp_exit ?_; simp only [thenA, inBlockA, noGotoA, if_true, Nat.reduceEqDiff, if_false, ↓reduceIte])
     | (with_reducible refine awp_ret ?_; (try simp only [thenA, inBlockA, noGotoA]); (try simp [-List.reduceReplicate, Nat.add_one_le_iff, -getElem?_pos, -getElem?_neg, List.getElem?_cons_zero, List.getElem?_cons_succ, iC, bC, hlt, ha, hb, hb2, lst, tst, thd, lhd, thd2, hli, roomB, hroom, hwi]))
     | ((with_reducible first | refine awp_reg 20 hX [0, 2, 3, 5, 6, 7, 8, 9] ?_ | change postOf _ _ _ _ _); simp [-List.reduceReplicate, Nat.add_one_le_iff, -getElem?_pos, -getElem?_neg, List.getElem?_cons_zero, List.getElem?_cons_succ, iC, bC, hlt, ha, hb, hb2, lst, tst, thd, lhd, thd2, hli, roomB, hroom, hwi])
     | (with_reducible refine awp_if_b rfl (fun hc => ?_) (fun hc => ?_) <;> (try simp [-getElem?_pos, -getElem?_neg] at hc) <;> (try (exfalso; omega)))
     | ((with_reducible first | refine GuardK_b (fun hc => ?_) (fun hc => ?_)) <;> (try simp only [Bool.not_eq_true', Bool.not_eq_false', decide_eq_true_eq, decide_eq_false_iff_not] at hc) <;> (first | (exfalso; omega) | skip) <;> simp [-List.reduceReplicate, Nat.add_one_le_iff, -getElem?_pos, -getElem?_neg, List.getElem?_cons_zero, List.getElem?_cons_succ, iC, bC, hlt, ha, hb, hb2, lst, tst, thd, lhd, thd2, hli, roomB, hroom, hwi, hc])
     | ((with_reducible first | refine hother _ _ rfl ?_); simp only [inBlockA, thenA, noGotoA, Nat.reduceEqDiff, if_false, if_true, ↓reduceIte])
     | (with_reducible refine And.intro (by omega) ?_)
     | fail)
    refine next _ _ ((g.1 + 1, false, g.2.2 ++ [⟨113, 69, false, 0, up sc, none⟩])) (by omega) (by first | trivial | omega | assumption) (by simp [-List.reduceReplicate, keep, iC, hsi]) (by simp [-List.reduceReplicate, iC, hsi])
  · have hi2 : i = n := by omega
    subst hi2
    have hexit := hother; clear hother
    repeat' (first 
     | (with_reducible first | refine awp_scope ?_ | refine awp_seq ?_ | refine awp_block ?_)
     | ((with_reducible first | refine awp_label ?_ | refine awp_skip ?_); try simp only [thenA, inBlockA, noGotoA])
     | (with_reducible refine awp_exit ?_; simp only [thenA, inBlockA, noGotoA, if_true, Nat.reduceEqDiff, if_false, ↓reduceIte])
     | (with_reducible refine awp_ret ?_; (try simp only [thenA, inBlockA, noGotoA]); (try simp [-List.reduceReplicate, Nat.add_one_le_iff, -getElem?_pos, -getElem?_neg, List.getElem?_cons_zero, List.getElem?_cons_succ, iC, hlt]))
     | ((with_reducible first | refine awp_reg 20 hX [0, 2, 3, 5, 6, 7, 8, 9] ?_ | change postOf _ _ _ _ _); simp [-List.reduceReplicate, Nat.add_one_le_iff, -getElem?_pos, -getElem?_neg, List.getElem?_cons_zero, List.getElem?_cons_succ, iC, hlt])
     | (with_reducible refine awp_if_b rfl (fun hc => ?_) (fun hc => ?_) <;> (try simp [-getElem?_pos, -getElem?_neg] at hc) <;> (try (exfalso; omega)))
     | ((with_reducible first | refine GuardK_b (fun hc => ?_) (fun hc => ?_)) <;> (try simp only [Bool.not_eq_true', Bool.not_eq_false', decide_eq_true_eq, decide_eq_false_iff_not] at hc) <;> (first | (exfalso; omega) | skip) <;> simp [-List.reduceReplicate, Nat.add_one_le_iff, -getElem?_pos, -getElem?_neg, List.getElem?_cons_zero, List.getElem?_cons_succ, iC, hlt, hc])
     | ((with_reducible first | refine hother _ _ rfl ?_); simp only [inBlockA, thenA, noGotoA, Nat.reduceEqDiff, if_false, if_true, ↓reduceIte])
     | (with_reducible refine And.intro (by omega) ?_)
     | fail)
    refine hexit _ _ rfl ?_
    simp only [inBlockA, thenA, ↓reduceIte]
    refine awp_frz2 3 [] [] g.2.2 _ (D i) _ hO rfl rfl rfl (by simp [ltB]) (by simp) ?_
    repeat' (first 
     | (with_reducible first | refine awp_scope ?_ | refine awp_seq ?_ | refine awp_block ?_)
     | ((with_reducible first | refine awp_label ?_ | refine awp_skip ?_); try simp only [thenA, inBlockA, noGotoA])
     | (with_reducible refine awp_exit ?_; simp only [thenA, inBlockA, noGotoA, if_true, Nat.reduceEqDiff, if_false, ↓reduceIte])
     | (with_reducible refine awp_ret ?_; (try simp only [thenA, inBlockA, noGotoA]); (try simp [-List.reduceReplicate, Nat.add_one_le_iff, -getElem?_pos, -getElem?_neg, List.getElem?_cons_zero, List.getElem?_cons_succ]))
     | ((with_reducible first | refine awp_reg 20 hX [0, 2, 3, 5, 6, 7, 8, 9] ?_ | change postOf _ _ _ _ _); simp [-List.reduceReplicate, Nat.add_one_le_iff, -getElem?_pos, -getElem?_neg, List.getElem?_cons_zero, List.getElem?_cons_succ])
     | ((first | (refine (p1 _).det ?_)); try simp [-List.reduceReplicate, Nat.add_one_le_iff, -getElem?_pos, -getElem?_neg, List.getElem?_cons_zero, List.getElem?_cons_succ])
     | (with_reducible refine awp_if_b rfl (fun hc => ?_) (fun hc => ?_) <;> (try simp [-getElem?_pos, -getElem?_neg] at hc) <;> (try (exfalso; omega)))
     | ((with_reducible first | refine GuardK_b (fun hc => ?_) (fun hc => ?_)) <;> (try simp only [Bool.not_eq_true', Bool.not_eq_false', decide_eq_true_eq, decide_eq_false_iff_not] at hc) <;> (first | (exfalso; omega) | skip) <;> simp [-List.reduceReplicate, Nat.add_one_le_iff, -getElem?_pos, -getElem?_neg, List.getElem?_cons_zero, List.getElem?_cons_succ, hc])
     | ((with_reducible first | refine hother _ _ rfl ?_); simp only [inBlockA, thenA, noGotoA, Nat.reduceEqDiff, if_false, if_true, ↓reduceIte])
     | (with_reducible refine And.intro (by omega) ?_)
     | fail)
theorem hsC_app (a : List H32) (x : H32) : hsC (a ++ [x]) = hsC a ++ x.1.map bC8 := by simp [hsC]
theorem idsH_get (l : List ST) (i : Nat) (s : ST) (h : l[i]? = some s) : (idsH l)[i]? = some (idH s.h) := by
  unfold idsH heads
  rw [List.getElem?_map, List.getElem?_map, h]; rfl
set_option maxHeartbeats 4000000 in
theorem ids33_den (l : List ST) (hok : STok l) (n : Nat) (full : Bool) (hn : l.length = n) (hN : n ≤ 1000000) :
    DenV Try.prog 51 [.c (.sl (stsC l) n full)] (.c (.sl (hsC (idsH l)) n false)) := by
  refine Den.frame rfl rfl ?_
  have hlen := stsC_len l
  have hhd := stsC_hd l
  have hs : ∀ (i : Nat) s, l[i]? = some s → hsC ((idsH l).take (i + 1)) = hsC ((idsH l).take i) ++ (idL s.h).map bC8 := fun i s h => by
    rw [List.take_add_one, idsH_get l i s h]
    exact hsC_app _ _
  have hl : ∀ i, i ≤ n → (hsC ((idsH l).take i)).length = i * 32 := fun i h => by
    rw [hsC_len, List.length_take, idsH_len]
    omega
  have h0 : hsC ((idsH l).take 0) = [] := rfl
  have hN' : hsC ((idsH l).take n) = hsC (idsH l) := by rw [List.take_of_length_le (by rw [idsH_len]; omega)]
  obtain ⟨D, hD⟩ : ∃ D : Nat → List C, ∀ i, hsC ((idsH l).take i) = D i := ⟨_, fun _ => rfl⟩
  simp only [hD] at *
  rw [← hN']
  clear hN' hD
  generalize stsC l = cs at *
  refine den_of Try.func51 rfl rfl (by simp [Try.ntmps51]) (fun X hX hO => ?_)
  rw [Try.ntmps51] at hX
  simp only [Try.results51]
  repeat' (first 
   | (with_reducible first | refine awp_scope ?_ | refine awp_seq ?_ | refine awp_block ?_)
   | ((with_reducible first | refine awp_label ?_ | refine awp_skip ?_); try simp only [thenA, inBlockA, noGotoA])
   | (with_reducible refine awp_exit ?_; simp only [thenA, inBlockA, noGotoA, if_true, Nat.reduceEqDiff, if_false, ↓reduceIte])
   | (with_reducible refine awp_ret ?_; (try simp only [thenA, inBlockA, noGotoA]); (try simp [-List.reduceReplicate, Nat.add_one_le_iff, -getElem?_pos, -getElem?_neg, List.getElem?_cons_zero, List.getElem?_cons_succ, iC]))
   | ((with_reducible first | refine awp_reg 21 hX [0, 2, 3, 4, 8] ?_ | change postOf _ _ _ _ _); simp [-List.reduceReplicate, Nat.add_one_le_iff, -getElem?_pos, -getElem?_neg, List.getElem?_cons_zero, List.getElem?_cons_succ, iC])
   | (with_reducible refine awp_if_b rfl (fun hc => ?_) (fun hc => ?_) <;> (try simp [-getElem?_pos, -getElem?_neg] at hc) <;> (try (exfalso; omega)))
   | ((with_reducible first | refine GuardK_b (fun hc => ?_) (fun hc => ?_)) <;> (try simp only [Bool.not_eq_true', Bool.not_eq_false', decide_eq_true_eq, decide_eq_false_iff_not] at hc) <;> (first | (exfalso; omega) | skip) <;> simp [-List.reduceReplicate, Nat.add_one_le_iff, -getElem?_pos, -getElem?_neg, List.getElem?_cons_zero, List.getElem?_cons_succ, iC, hc])
   | ((with_reducible first | refine hother _ _ rfl ?_); simp only [inBlockA, thenA, noGotoA, Nat.reduceEqDiff, if_false, if_true, ↓reduceIte])
   | (with_reducible refine And.intro (by omega) ?_)
   | fail)
  refine awp_nil 3 71 32 (by simp) ?_
  simp
  refine awp_forU [0, 3, 4] (fun i (g : Nat × Bool) => [(3, .ms 0 g.1 0 i), (4, .c (iC i))]) (fun i (g : Nat × Bool) => [⟨71, 32, g.2, g.1, up (D i), none⟩]) (fun i (g : Nat × Bool) => True) (n) ((0, true)) (by first | trivial | (simp; done) | omega | (intros; simp at *; done)) (by simp [-List.reduceReplicate, keep, iC, h0]) (by simp [-List.reduceReplicate, iC, h0]) ?_
  rintro i g Q1 hi hH next hother
  conv => arg 5; arg 1; simp only [List.cons_append, List.nil_append, keep, get, Nat.reduceEqDiff, if_true, if_false, ↓reduceIte]
  have hwi := wrap_in ((i : Int) + 1) (by omega)
  by_cases hlt : i < n
  · obtain ⟨s, hs'⟩ : ∃ s, l[i]? = some s := ⟨_, List.getElem?_eq_getElem (by omega)⟩
    have ha := hhd i s hs'
    have hsi := hs i s hs'
    have hli := hl i (by omega)
    have hb : 66 ≤ cs.length - i * 69 := by omega
    have p1 := id17_den s.h (hok s (List.mem_of_getElem? hs'))
    have hil : (idL s.h).length = 32 := shaL_len _
    have t1 := hash_take _ hil
    have lh : ((idL s.h).map bC8).length = 32 := by simp [hil]
    have hroom : (i + 1) * 32 ≤ 140737488355328 := by omega
    unfold hdM hashM at p1
    generalize (idL s.h).map bC8 = ic at *
    generalize hdC s.h = hd at *
    repeat' (first 
     | (with_reducible first | refine awp_scope ?_ | refine awp_seq ?_ | refine awp_block ?_)
     | ((with_reducible first | refine awp_label ?_ | refine awp_skip ?_); try simp only [thenA, inBlockA, noGotoA])
     | (with_reducible refine awp_exit ?_; simp only [thenA, inBlockA, noGotoA, if_true, Nat.reduceEqDiff, if_false, ↓reduceIte])
     | (with_reducible refine awp_ret ?_; (try simp only [thenA, inBlockA, noGotoA]); (try simp [-List.reduceReplicate, Nat.add_one_le_iff, -getElem?_pos, -getElem?_neg, List.getElem?_cons_zero, List.getElem?_cons_succ, iC, bC, hlt, ha, hb, t1, lh, hli, roomB, hroom, hwi]))
     | ((with_reducible first | refine awp_reg 21 hX [0, 2, 3, 4, 8] ?_ | change postOf _ _ _ _ _); simp [-List.reduceReplicate, Nat.add_one_le_iff, -getElem?_pos, -getElem?_neg, List.getElem?_cons_zero, List.getElem?_cons_succ, iC, bC, hlt, ha, hb, t1, lh, hli, roomB, hroom, hwi])
     | ((first | (refine (p1 _).det ?_)); try simp [-List.reduceReplicate, Nat.add_one_le_iff, -getElem?_pos, -getElem?_neg, List.getElem?_cons_zero, List.getElem?_cons_succ, iC, bC, hlt, ha, hb, t1, lh, hli, roomB, hroom, hwi])
     | (with_reducible refine awp_if_b rfl (fun hc => ?_) (fun hc => ?_) <;> (try simp [-getElem?_pos, -getElem?_neg] at hc) <;> (try (exfalso; omega)))
     | ((with_reducible first | refine GuardK_b (fun hc => ?_) (fun hc => ?_)) <;> (try simp only [Bool.not_eq_true', Bool.not_eq_false', decide_eq_true_eq, decide_eq_false_iff_not] at hc) <;> (first | (exfalso; omega) | skip) <;> simp [-List.reduceReplicate, Nat.add_one_le_iff, -getElem?_pos, -getElem?_neg, List.getElem?_cons_zero, List.getElem?_cons_succ, iC, bC, hlt, ha, hb, t1, lh, hli, roomB, hroom, hwi, hc])
     | ((with_reducible first | refine hother _ _ rfl ?_); simp only [inBlockA, thenA, noGotoA, Nat.reduceEqDiff, if_false, if_true, ↓reduceIte])
     | (with_reducible refine And.intro (by omega) ?_)
     | fail)
    refine next _ _ ((g.1 + 1, false)) (by omega) (by first | trivial | omega | assumption) (by simp [-List.reduceReplicate, keep, iC, hsi]) (by simp [-List.reduceReplicate, iC, hsi])
  · have hi2 : i = n := by omega
    subst hi2
    have hexit := hother; clear hother
    repeat' (first 
     | (with_reducible first | refine awp_scope ?_ | refine awp_seq ?_ | refine awp_block ?_)
     | ((with_reducible first | refine awp_label ?_ | refine awp_skip ?_); try simp only [thenA, inBlockA, noGotoA])
     | (with_reducible refine awp_exit ?_; simp only [thenA, inBlockA, noGotoA, if_true, Nat.reduceEqDiff, if_false, ↓reduceIte])
     | (with_reducible refine awp_ret ?_; (try simp only [thenA, inBlockA, noGotoA]); (try simp [-List.reduceReplicate, Nat.add_one_le_iff, -getElem?_pos, -getElem?_neg, List.getElem?_cons_zero, List.getElem?_cons_succ, iC, hlt]))
     | ((with_reducible first | refine awp_reg 21 hX [0, 2, 3, 4, 8] ?_ | change postOf _ _ _ _ _); simp [-List.reduceReplicate, Nat.add_one_le_iff, -getElem?_pos, -getElem?_neg, List.getElem?_cons_zero, List.getElem?_cons_succ, iC, hlt])
     | (with_reducible refine awp_if_b rfl (fun hc => ?_) (fun hc => ?_) <;> (try simp [-getElem?_pos, -getElem?_neg] at hc) <;> (try (exfalso; omega)))
     | ((with_reducible first | refine GuardK_b (fun hc => ?_) (fun hc => ?_)) <;> (try simp only [Bool.not_eq_true', Bool.not_eq_false', decide_eq_true_eq, decide_eq_false_iff_not] at hc) <;> (first | (exfalso; omega) | skip) <;> simp [-List.reduceReplicate, Nat.add_one_le_iff, -getElem?_pos, -getElem?_neg, List.getElem?_cons_zero, List.getElem?_cons_succ, iC, hlt, hc])
     | ((with_reducible first | refine hother _ _ rfl ?_); simp only [inBlockA, thenA, noGotoA, Nat.reduceEqDiff, if_false, if_true, ↓reduceIte])
     | (with_reducible refine And.intro (by omega) ?_)
     | fail)
    refine hexit _ _ rfl ?_
    simp only [inBlockA, thenA, ↓reduceIte]
    refine awp_frz2 3 [] [] [] _ (D i) _ hO rfl rfl rfl (by simp [ltB]) (by simp) ?_
    repeat' (first 
     | (with_reducible first | refine awp_scope ?_ | refine awp_seq ?_ | refine awp_block ?_)
     | ((with_reducible first | refine awp_label ?_ | refine awp_skip ?_); try simp only [thenA, inBlockA, noGotoA])
     | (with_reducible refine awp_exit ?_; simp only [thenA, inBlockA, noGotoA, if_true, Nat.reduceEqDiff, if_false, ↓reduceIte])
     | (with_reducible refine awp_ret ?_; (try simp only [thenA, inBlockA, noGotoA]); (try simp [-List.reduceReplicate, Nat.add_one_le_iff, -getElem?_pos, -getElem?_neg, List.getElem?_cons_zero, List.getElem?_cons_succ]))
     | ((with_reducible first | refine awp_reg 21 hX [0, 2, 3, 4, 8] ?_ | change postOf _ _ _ _ _); simp [-List.reduceReplicate, Nat.add_one_le_iff, -getElem?_pos, -getElem?_neg, List.getElem?_cons_zero, List.getElem?_cons_succ])
     | (with_reducible refine awp_if_b rfl (fun hc => ?_) (fun hc => ?_) <;> (try simp [-getElem?_pos, -getElem?_neg] at hc) <;> (try (exfalso; omega)))
     | ((with_reducible first | refine GuardK_b (fun hc => ?_) (fun hc => ?_)) <;> (try simp only [Bool.not_eq_true', Bool.not_eq_false', decide_eq_true_eq, decide_eq_false_iff_not] at hc) <;> (first | (exfalso; omega) | skip) <;> simp [-List.reduceReplicate, Nat.add_one_le_iff, -getElem?_pos, -getElem?_neg, List.getElem?_cons_zero, List.getElem?_cons_succ, hc])
     | ((with_reducible first | refine hother _ _ rfl ?_); simp only [inBlockA, thenA, noGotoA, Nat.reduceEqDiff, if_false, if_true, ↓reduceIte])
     | (with_reducible refine And.intro (by omega) ?_)
     | fail)
/-- Levels of ids; the first one's is above all. -/
def levAt (t : List UInt8) (ids : List H32) (i : Nat) : Int := if i = 0 then 256 else match ids[i]? with
  | some h => lvI (hv h.1) (hv t)
  | none => 0
def levs (t : List UInt8) (ids : List H32) : List Int := (List.range ids.length).map (levAt t ids)
theorem levs_len (t : List UInt8) (ids : List H32) : (levs t ids).length = ids.length := by simp [levs]
theorem levs_facts (t : List UInt8) (ids : List H32) (n : Nat) (hn : ids.length = n) : ∃ D : Nat → List C, D 0 = [] ∧ D n = (levs t ids).map iC ∧ (∀ i, i ≤ n → (D i).length = i) ∧ ∀ i, i < n → D i ++ [iC (levAt t ids i)] = D (i + 1) := by
  refine ⟨fun i => ((levs t ids).map iC).take i, by simp, by simp only; rw [List.take_of_length_le (by simp [levs_len]; omega)], fun i h => by simp [levs_len]; omega, fun i h => ?_⟩
  simp only
  have : ((levs t ids).map iC)[i]? = some (iC (levAt t ids i)) := by
    unfold levs
    rw [List.getElem?_map, List.getElem?_map, List.getElem?_range (by omega)]; rfl
  rw [List.take_add_one, this]; rfl
theorem levAt_pos (t : List UInt8) (ids : List H32) (i : Nat) (h : H32) (h0 : i ≠ 0) (hi : ids[i]? = some h) : levAt t ids i = lvI (hv h.1) (hv t) := by
  unfold levAt
  rw [if_neg h0, hi]
theorem levAt_0 (t : List UInt8) (ids : List H32) : levAt t ids 0 = 256 := rfl
set_option maxHeartbeats 4000000 in
theorem upLevels_den (t : List UInt8) (ht : t.length = 32) (l : List ST) (hok : STok l) (n : Nat) (full : Bool) (hn : l.length = n) (hN : n ≤ 1000000) :
    DenV Try.prog 49 [hashM t, .c (.sl (stsC l) n full)] (.c (.sl ((levs t (idsH l)).map iC) n false)) := by
  refine Den.frame (by simp [ltBs, ltB, lt_hash]) rfl ?_
  have hlen := stsC_len l
  have hat := stsC_at l
  obtain ⟨D, D0, DN, DL, DS⟩ := levs_facts t (idsH l) n (by rw [idsH_len]; exact hn)
  rw [← DN]
  have lap := levAt_pos t (idsH l)
  have la0 := levAt_0 t (idsH l)
  have hig := idsH_get l
  have tt := hash_take t ht
  have lt_ : (t.map bC8).length = 32 := by simp [ht]
  clear DN
  generalize levAt t (idsH l) = la at *
  generalize stsC l = cs at *
  have pl := fun (a : List UInt8) (ha : a.length = 32) => level_den a t ha ht
  unfold hashM at *
  generalize t.map bC8 = tc at *
  refine den_of Try.func49 rfl rfl (by simp [Try.ntmps49]) (fun X hX hO => ?_)
  rw [Try.ntmps49] at hX
  simp only [Try.results49]
  repeat' (first 
   | (with_reducible first | refine awp_scope ?_ | refine awp_seq ?_ | refine awp_block ?_)
   | ((with_reducible first | refine awp_label ?_ | refine awp_skip ?_); try simp only [thenA, inBlockA, noGotoA])
   | (with_reducible refine awp_exit ?_; simp only [thenA, inBlockA, noGotoA, if_true, Nat.reduceEqDiff, if_false, ↓reduceIte])
   | (with_reducible refine awp_ret ?_; (try simp only [thenA, inBlockA, noGotoA]); (try simp [-List.reduceReplicate, Nat.add_one_le_iff, -getElem?_pos, -getElem?_neg, List.getElem?_cons_zero, List.getElem?_cons_succ, iC, lt_]))
   | ((with_reducible first | refine awp_reg 29 hX [1, 2, 4, 5, 6, 7, 8, 9, 10, 11, 12, 22] ?_ | refine awp_drw 29 hX [1, 2, 4, 5, 6, 7, 8, 9, 10, 11, 12, 22] Tab.mixed (by kernel_rfl) ?_ | refine DEv_cut _ _ _ _ _ _ _ _ _ _ _ _ (by kernel_rfl) ?_ | change postOf _ _ _ _ _); simp [-List.reduceReplicate, Nat.add_one_le_iff, -getElem?_pos, -getElem?_neg, List.getElem?_cons_zero, List.getElem?_cons_succ, iC, lt_])
   | (with_reducible refine awp_if_b rfl (fun hc => ?_) (fun hc => ?_) <;> (try simp [-getElem?_pos, -getElem?_neg] at hc) <;> (try (exfalso; omega)))
   | ((with_reducible first | refine GuardK_b (fun hc => ?_) (fun hc => ?_) | refine DGuard_b _ _ _ _ _ _ _ _ _ _ (fun hc => ?_) (fun hc => ?_)) <;> (try simp only [Bool.not_eq_true', Bool.not_eq_false', decide_eq_true_eq, decide_eq_false_iff_not] at hc) <;> (first | (exfalso; omega) | skip) <;> simp [-List.reduceReplicate, Nat.add_one_le_iff, -getElem?_pos, -getElem?_neg, List.getElem?_cons_zero, List.getElem?_cons_succ, iC, lt_, hc])
   | ((with_reducible first | refine hother _ _ rfl ?_); simp only [inBlockA, thenA, noGotoA, Nat.reduceEqDiff, if_false, if_true, ↓reduceIte])
   | (with_reducible refine And.intro (by omega) ?_)
   | fail)
  refine awp_nil 5 3 1 (by simp) ?_
  simp
  refine awp_forU [2, 5, 9, 10, 11] (fun i (g : Nat × Bool × List Ob) => [(5, .ms 1 g.1 0 i), (11, .c (iC i))]) (fun i (g : Nat × Bool × List Ob) => [⟨71, 1, false, 0, up tc, none⟩, ⟨3, 1, g.2.1, g.1, up (D i), none⟩] ++ g.2.2) (fun i (g : Nat × Bool × List Ob) => True) (n) ((0, true, [])) (by first | trivial | (simp; done) | omega | (intros; simp at *; done)) (by simp [-List.reduceReplicate, keep, iC, D0]) (by simp [-List.reduceReplicate, iC, D0]) ?_
  rintro i g Q1 hi hH next hother
  conv => arg 5; arg 1; simp only [List.cons_append, List.nil_append, keep, get, Nat.reduceEqDiff, if_true, if_false, ↓reduceIte]
  have hwi := wrap_in ((i : Int) + 1) (by omega)
  by_cases hlt : i < n
  · obtain ⟨s, hs'⟩ : ∃ s, l[i]? = some s := ⟨_, List.getElem?_eq_getElem (by omega)⟩
    have ha := hat i s hs'
    have ds := DS i hlt
    have dl := DL i (by omega)
    have hb : 69 ≤ cs.length - i * 69 := by omega
    have lst := stC_len s
    have tst : (stC' s).take 69 = stC' s := List.take_of_length_le (by omega)
    have thd : (stC' s).take 66 = hdC s.h := by unfold stC'; exact List.take_left' (hdC_len s.h)
    have p1 := identId_den s.h (hok s (List.mem_of_getElem? hs'))
    have hil : (idL s.h).length = 32 := shaL_len _
    have p2 := pl (idL s.h) hil
    have hroom : (i + 1) * 8 ≤ 140737488355328 := by omega
    have lap' := fun h0 => lap i (idH s.h) h0 (hig i s hs')
    have eid : (idH s.h).1 = idL s.h := rfl
    rw [eid] at lap'
    generalize lvI (hv (idL s.h)) (hv t) = lev at *
    unfold hdM hashM at p1
    generalize (idL s.h).map bC8 = ic at *
    generalize stC' s = sc at *
    generalize hdC s.h = hd at *
    by_cases hi0 : i = 0
    · subst hi0
      simp only [Nat.zero_mul, List.drop_zero, Nat.sub_zero] at ha hb
      rw [la0, D0, List.nil_append] at ds
      unfold iC at ds
      have hw1 : IntKind.i64.wrap 1 = 1 := rfl
      have w11 : IntKind.i64.wrap (0 + 1) = 1 := rfl
      repeat' (first 
       | (with_reducible first | refine awp_scope ?_ | refine awp_seq ?_ | refine awp_block ?_)
       | ((with_reducible first | refine awp_label ?_ | refine awp_skip ?_); try simp only [thenA, inBlockA, noGotoA])
       | (with_reducible refine awp_exit ?_; simp only [thenA, inBlockA, noGotoA, if_true, Nat.reduceEqDiff, if_false, ↓reduceIte])
       | (with_reducible refine awp_ret ?_; (try simp only [thenA, inBlockA, noGotoA]); (try simp [-List.reduceReplicate, Nat.add_one_le_iff, -getElem?_pos, -getElem?_neg, List.getElem?_cons_zero, List.getElem?_cons_succ, iC, bC, hlt, ha, hb, lst, tst, thd, tt, lt_, D0, roomB, hw1, w11]))
       | ((with_reducible first | refine awp_reg 29 hX [1, 2, 4, 5, 6, 7, 8, 9, 10, 11, 12, 22] ?_ | refine awp_drw 29 hX [1, 2, 4, 5, 6, 7, 8, 9, 10, 11, 12, 22] Tab.mixed (by kernel_rfl) ?_ | refine DEv_cut _ _ _ _ _ _ _ _ _ _ _ _ (by kernel_rfl) ?_ | change postOf _ _ _ _ _); simp [-List.reduceReplicate, Nat.add_one_le_iff, -getElem?_pos, -getElem?_neg, List.getElem?_cons_zero, List.getElem?_cons_succ, iC, bC, hlt, ha, hb, lst, tst, thd, tt, lt_, D0, roomB, hw1, w11])
       | ((first | (refine (p1 _).det ?_) | (refine ⟨_, _, p1 _, fun _ => rfl, ?_⟩) | (refine (p2 _).det ?_) | (refine ⟨_, _, p2 _, fun _ => rfl, ?_⟩)); try simp [-List.reduceReplicate, Nat.add_one_le_iff, -getElem?_pos, -getElem?_neg, List.getElem?_cons_zero, List.getElem?_cons_succ, iC, bC, hlt, ha, hb, lst, tst, thd, tt, lt_, D0, roomB, hw1, w11])
       | (with_reducible refine awp_if_b rfl (fun hc => ?_) (fun hc => ?_) <;> (try simp [-getElem?_pos, -getElem?_neg] at hc) <;> (try (exfalso; omega)))
       | ((with_reducible first | refine GuardK_b (fun hc => ?_) (fun hc => ?_) | refine DGuard_b _ _ _ _ _ _ _ _ _ _ (fun hc => ?_) (fun hc => ?_)) <;> (try simp only [Bool.not_eq_true', Bool.not_eq_false', decide_eq_true_eq, decide_eq_false_iff_not] at hc) <;> (first | (exfalso; omega) | skip) <;> simp [-List.reduceReplicate, Nat.add_one_le_iff, -getElem?_pos, -getElem?_neg, List.getElem?_cons_zero, List.getElem?_cons_succ, iC, bC, hlt, ha, hb, lst, tst, thd, tt, lt_, D0, roomB, hw1, w11, hc])
       | ((with_reducible first | refine hother _ _ rfl ?_); simp only [inBlockA, thenA, noGotoA, Nat.reduceEqDiff, if_false, if_true, ↓reduceIte])
       | (with_reducible refine And.intro (by omega) ?_)
       | fail)
      refine next _ _ ((g.1 + 1, false, g.2.2 ++ [⟨113, 69, false, 0, up sc, none⟩])) (by omega) (by first | trivial | omega | assumption) (by simp [-List.reduceReplicate, keep, iC, ← ds]) (by simp [-List.reduceReplicate, iC, ← ds])
    · have hi1 : ¬ (i : Int) = 0 := by omega
      rw [lap' hi0] at ds
      unfold iC at ds
      repeat' (first 
       | (with_reducible first | refine awp_scope ?_ | refine awp_seq ?_ | refine awp_block ?_)
       | ((with_reducible first | refine awp_label ?_ | refine awp_skip ?_); try simp only [thenA, inBlockA, noGotoA])
       | (with_reducible refine awp_exit ?_; simp only [thenA, inBlockA, noGotoA, if_true, Nat.reduceEqDiff, if_false, ↓reduceIte])
       | (with_reducible refine awp_ret ?_; (try simp only [thenA, inBlockA, noGotoA]); (try simp [-List.reduceReplicate, Nat.add_one_le_iff, -getElem?_pos, -getElem?_neg, List.getElem?_cons_zero, List.getElem?_cons_succ, iC, bC, hlt, ha, hb, lst, tst, thd, tt, lt_, hi0, hi1, dl, roomB, hroom, hwi]))
       | ((with_reducible first | refine awp_reg 29 hX [1, 2, 4, 5, 6, 7, 8, 9, 10, 11, 12, 22] ?_ | refine awp_drw 29 hX [1, 2, 4, 5, 6, 7, 8, 9, 10, 11, 12, 22] Tab.mixed (by kernel_rfl) ?_ | refine DEv_cut _ _ _ _ _ _ _ _ _ _ _ _ (by kernel_rfl) ?_ | change postOf _ _ _ _ _); simp [-List.reduceReplicate, Nat.add_one_le_iff, -getElem?_pos, -getElem?_neg, List.getElem?_cons_zero, List.getElem?_cons_succ, iC, bC, hlt, ha, hb, lst, tst, thd, tt, lt_, hi0, hi1, dl, roomB, hroom, hwi])
       | ((first | (refine (p1 _).det ?_) | (refine ⟨_, _, p1 _, fun _ => rfl, ?_⟩) | (refine (p2 _).det ?_) | (refine ⟨_, _, p2 _, fun _ => rfl, ?_⟩)); try simp [-List.reduceReplicate, Nat.add_one_le_iff, -getElem?_pos, -getElem?_neg, List.getElem?_cons_zero, List.getElem?_cons_succ, iC, bC, hlt, ha, hb, lst, tst, thd, tt, lt_, hi0, hi1, dl, roomB, hroom, hwi])
       | (with_reducible refine awp_if_b rfl (fun hc => ?_) (fun hc => ?_) <;> (try simp [-getElem?_pos, -getElem?_neg] at hc) <;> (try (exfalso; omega)))
       | ((with_reducible first | refine GuardK_b (fun hc => ?_) (fun hc => ?_) | refine DGuard_b _ _ _ _ _ _ _ _ _ _ (fun hc => ?_) (fun hc => ?_)) <;> (try simp only [Bool.not_eq_true', Bool.not_eq_false', decide_eq_true_eq, decide_eq_false_iff_not] at hc) <;> (first | (exfalso; omega) | skip) <;> simp [-List.reduceReplicate, Nat.add_one_le_iff, -getElem?_pos, -getElem?_neg, List.getElem?_cons_zero, List.getElem?_cons_succ, iC, bC, hlt, ha, hb, lst, tst, thd, tt, lt_, hi0, hi1, dl, roomB, hroom, hwi, hc])
       | ((with_reducible first | refine hother _ _ rfl ?_); simp only [inBlockA, thenA, noGotoA, Nat.reduceEqDiff, if_false, if_true, ↓reduceIte])
       | (with_reducible refine And.intro (by omega) ?_)
       | fail)
      refine next _ _ ((g.1 + 1, false, g.2.2 ++ [⟨113, 69, false, 0, up sc, none⟩])) (by omega) (by first | trivial | omega | assumption) (by simp [-List.reduceReplicate, keep, iC, ds]) (by simp [-List.reduceReplicate, iC, ds])
  · have hi2 : i = n := by omega
    subst hi2
    have hexit := hother; clear hother
    repeat' (first 
     | (with_reducible first | refine awp_scope ?_ | refine awp_seq ?_ | refine awp_block ?_)
     | ((with_reducible first | refine awp_label ?_ | refine awp_skip ?_); try simp only [thenA, inBlockA, noGotoA])
     | (with_reducible refine awp_exit ?_; simp only [thenA, inBlockA, noGotoA, if_true, Nat.reduceEqDiff, if_false, ↓reduceIte])
     | (with_reducible refine awp_ret ?_; (try simp only [thenA, inBlockA, noGotoA]); (try simp [-List.reduceReplicate, Nat.add_one_le_iff, -getElem?_pos, -getElem?_neg, List.getElem?_cons_zero, List.getElem?_cons_succ, iC, hlt]))
     | ((with_reducible first | refine awp_reg 29 hX [1, 2, 4, 5, 6, 7, 8, 9, 10, 11, 12, 22] ?_ | refine awp_drw 29 hX [1, 2, 4, 5, 6, 7, 8, 9, 10, 11, 12, 22] Tab.mixed (by kernel_rfl) ?_ | refine DEv_cut _ _ _ _ _ _ _ _ _ _ _ _ (by kernel_rfl) ?_ | change postOf _ _ _ _ _); simp [-List.reduceReplicate, Nat.add_one_le_iff, -getElem?_pos, -getElem?_neg, List.getElem?_cons_zero, List.getElem?_cons_succ, iC, hlt])
     | (with_reducible refine awp_if_b rfl (fun hc => ?_) (fun hc => ?_) <;> (try simp [-getElem?_pos, -getElem?_neg] at hc) <;> (try (exfalso; omega)))
     | ((with_reducible first | refine GuardK_b (fun hc => ?_) (fun hc => ?_) | refine DGuard_b _ _ _ _ _ _ _ _ _ _ (fun hc => ?_) (fun hc => ?_)) <;> (try simp only [Bool.not_eq_true', Bool.not_eq_false', decide_eq_true_eq, decide_eq_false_iff_not] at hc) <;> (first | (exfalso; omega) | skip) <;> simp [-List.reduceReplicate, Nat.add_one_le_iff, -getElem?_pos, -getElem?_neg, List.getElem?_cons_zero, List.getElem?_cons_succ, iC, hlt, hc])
     | ((with_reducible first | refine hother _ _ rfl ?_); simp only [inBlockA, thenA, noGotoA, Nat.reduceEqDiff, if_false, if_true, ↓reduceIte])
     | (with_reducible refine And.intro (by omega) ?_)
     | fail)
    refine hexit _ _ rfl ?_
    simp only [inBlockA, thenA, ↓reduceIte]
    refine awp_frz2 5 [] [⟨71, 1, false, 0, up tc, none⟩] g.2.2 _ (D i) _ hO rfl rfl rfl (by simp [ltB]) (by simp [ltB, up]) ?_
    repeat' (first 
     | (with_reducible first | refine awp_scope ?_ | refine awp_seq ?_ | refine awp_block ?_)
     | ((with_reducible first | refine awp_label ?_ | refine awp_skip ?_); try simp only [thenA, inBlockA, noGotoA])
     | (with_reducible refine awp_exit ?_; simp only [thenA, inBlockA, noGotoA, if_true, Nat.reduceEqDiff, if_false, ↓reduceIte])
     | (with_reducible refine awp_ret ?_; (try simp only [thenA, inBlockA, noGotoA]); (try simp [-List.reduceReplicate, Nat.add_one_le_iff, -getElem?_pos, -getElem?_neg, List.getElem?_cons_zero, List.getElem?_cons_succ]))
     | ((with_reducible first | refine awp_reg 29 hX [1, 2, 4, 5, 6, 7, 8, 9, 10, 11, 12, 22] ?_ | refine awp_drw 29 hX [1, 2, 4, 5, 6, 7, 8, 9, 10, 11, 12, 22] Tab.mixed (by kernel_rfl) ?_ | refine DEv_cut _ _ _ _ _ _ _ _ _ _ _ _ (by kernel_rfl) ?_ | change postOf _ _ _ _ _); simp [-List.reduceReplicate, Nat.add_one_le_iff, -getElem?_pos, -getElem?_neg, List.getElem?_cons_zero, List.getElem?_cons_succ])
     | (with_reducible refine awp_if_b rfl (fun hc => ?_) (fun hc => ?_) <;> (try simp [-getElem?_pos, -getElem?_neg] at hc) <;> (try (exfalso; omega)))
     | ((with_reducible first | refine GuardK_b (fun hc => ?_) (fun hc => ?_) | refine DGuard_b _ _ _ _ _ _ _ _ _ _ (fun hc => ?_) (fun hc => ?_)) <;> (try simp only [Bool.not_eq_true', Bool.not_eq_false', decide_eq_true_eq, decide_eq_false_iff_not] at hc) <;> (first | (exfalso; omega) | skip) <;> simp [-List.reduceReplicate, Nat.add_one_le_iff, -getElem?_pos, -getElem?_neg, List.getElem?_cons_zero, List.getElem?_cons_succ, hc])
     | ((with_reducible first | refine hother _ _ rfl ?_); simp only [inBlockA, thenA, noGotoA, Nat.reduceEqDiff, if_false, if_true, ↓reduceIte])
     | (with_reducible refine And.intro (by omega) ?_)
     | fail)
end Go.Av

set_option exponentiation.threshold 1000
set_option linter.unusedVariables false
set_option linter.unusedSimpArgs false
set_option maxRecDepth 100000
set_option maxHeartbeats 4000000
namespace Go.Av
open Go Go.Proofs Go.Proofs.Ytofomnllcmgfeaa Go.RowKit
/-! ### the document's numbers: digits of 16 bits, plain -/
def dg (x : Nat) : List Nat := if h : x = 0 then [] else x % 65536 :: dg (x / 65536)
termination_by x
decreasing_by exact Nat.div_lt_self (by omega) (by decide)
def dgv : List Nat → Nat
  | [] => 0
  | d :: l => d + 65536 * dgv l
def trm : List Nat → List Nat
  | [] => []
  | d :: l => if d = 0 ∧ trm l = [] then [] else d :: trm l
/-! limbs' digits -/
def d4 (x : Nat) : List Nat := [x % 65536, x / 65536 % 65536, x / 65536 / 65536 % 65536, x / 65536 / 65536 / 65536 % 65536]
def d4s (l : List Nat) : List Nat := l.flatMap d4
def v64 : List Nat → Nat
  | [] => 0
  | x :: l => x + 18446744073709551616 * v64 l
end Go.Av

set_option exponentiation.threshold 1000
set_option linter.unusedVariables false
set_option linter.unusedSimpArgs false
set_option maxRecDepth 100000
set_option maxHeartbeats 4000000
namespace Go.Av
open Go Go.Proofs Go.Proofs.Ytofomnllcmgfeaa Go.RowKit
/-! ### the document's numbers: trim, Limbs, Of, Cmp, Power, Mul -/
def nI (d : Nat) : C := iC (d : Int)
def ndC (l : List Nat) : C := .sl (l.map nI) l.length false
end Go.Av

set_option exponentiation.threshold 1000
set_option linter.unusedVariables false
set_option linter.unusedSimpArgs false
set_option maxRecDepth 100000
set_option maxHeartbeats 4000000
namespace Go.Av
open Go Go.Proofs Go.Proofs.Ytofomnllcmgfeaa Go.RowKit
/-- Digits of a power of two. -/
def pwL (n : Nat) : List Nat := List.replicate (n / 16) 0 ++ [2 ^ (n % 16)]
end Go.Av

set_option exponentiation.threshold 1000
set_option linter.unusedVariables false
set_option linter.unusedSimpArgs false
set_option maxRecDepth 100000
set_option maxHeartbeats 4000000
namespace Go.Av
open Go Go.Proofs Go.Proofs.Ytofomnllcmgfeaa Go.RowKit
end Go.Av

set_option exponentiation.threshold 1000
set_option linter.unusedVariables false
set_option linter.unusedSimpArgs false
set_option maxRecDepth 100000
set_option maxHeartbeats 4000000
namespace Go.Av
open Go Go.Proofs Go.Proofs.Ytofomnllcmgfeaa Go.RowKit
/-! ### the document's score and verdict -/
open Go.Av.Up (pl hit)
end Go.Av

set_option exponentiation.threshold 1000
set_option linter.unusedVariables false
set_option linter.unusedSimpArgs false
set_option maxRecDepth 100000
set_option maxHeartbeats 4000000
namespace Go.Av
open Go Go.Proofs Go.Proofs.Ytofomnllcmgfeaa Go.RowKit
end Go.Av

set_option exponentiation.threshold 1000
set_option linter.unusedVariables false
set_option linter.unusedSimpArgs false
set_option maxRecDepth 100000
set_option maxHeartbeats 4000000
namespace Go.Av
open Go Go.Proofs Go.Proofs.Ytofomnllcmgfeaa Go.RowKit
end Go.Av

set_option exponentiation.threshold 1000
set_option linter.unusedVariables false
set_option linter.unusedSimpArgs false
set_option maxRecDepth 100000
set_option maxHeartbeats 4000000
namespace Go.Av
open Go Go.Proofs Go.Proofs.Ytofomnllcmgfeaa Go.RowKit
/-! ### DuelScores -/
def great42 (a : List H32) (za : List Int) : Bool := decide (40 < a.length) || decide (40 < za.length)
def hOf (b : UInt8) : H32 := ⟨b :: List.replicate 31 0, rfl⟩
theorem awake42_den : DenV Try.prog 36 [] (.c (bC true)) := by
  refine Den.frame rfl rfl ?_
  have p1 := verdict_den [hOf 1, hOf 2] [hOf 1, hOf 3] [256, 3] [256, 0] 1 (by simp) (by simp) (by simp) (by simp)
  have p2 := verdict_den [hOf 1, hOf 3] [hOf 1, hOf 2] [256, 0] [256, 3] 1 (by simp) (by simp) (by simp) (by simp)
  have p3 := verdict_den [hOf 1, hOf 2] [hOf 1, hOf 2] [256, 3] [256, 3] 1 (by simp) (by simp) (by simp) (by simp)
  rw [show vrdN [hOf 1, hOf 2] [hOf 1, hOf 3] [256, 3] [256, 0] 1 = 1 by decide +kernel] at p1
  rw [show vrdN [hOf 1, hOf 3] [hOf 1, hOf 2] [256, 0] [256, 3] 1 = -1 by decide +kernel] at p2
  rw [show vrdN [hOf 1, hOf 2] [hOf 1, hOf 2] [256, 3] [256, 3] 1 = 0 by decide +kernel] at p3
  have e12 : hsC [hOf 1, hOf 2] = (hOf 1).1.map bC8 ++ (hOf 2).1.map bC8 := by simp [hsC]
  have e13 : hsC [hOf 1, hOf 3] = (hOf 1).1.map bC8 ++ (hOf 3).1.map bC8 := by simp [hsC]
  unfold sideM sideL at p1 p2 p3
  rw [e12, e13] at p1 p2
  rw [e12] at p3
  have z0 : zeroT Try.prog 71 = some (up ((hOf 0).1.map bC8)) := by kernel_rfl
  have s1 : ((hOf 0).1.map bC8).set 0 (.v (.int .u8 1)) = (hOf 1).1.map bC8 := by rfl
  have s2 : ((hOf 0).1.map bC8).set 0 (.v (.int .u8 2)) = (hOf 2).1.map bC8 := by rfl
  have s3 : ((hOf 0).1.map bC8).set 0 (.v (.int .u8 3)) = (hOf 3).1.map bC8 := by rfl
  have l0 : ((hOf 0).1.map bC8).length = 32 := by rfl
  have l1 : ((hOf 1).1.map bC8).length = 32 := by rfl
  have l2 : ((hOf 2).1.map bC8).length = 32 := by rfl
  have l3 : ((hOf 3).1.map bC8).length = 32 := by rfl
  generalize (hOf 0).1.map bC8 = c0 at *
  generalize (hOf 1).1.map bC8 = c1 at *
  generalize (hOf 2).1.map bC8 = c2 at *
  generalize (hOf 3).1.map bC8 = c3 at *
  obtain ⟨y1, y2⟩ := lay_pair c0 c1 c2 32 l0 l1 l2 (by decide)
  obtain ⟨_, y3⟩ := lay_pair c0 c1 c3 32 l0 l1 l3 (by decide)
  have le2 : ∀ (x y : List C) (z w : List C) (x' y' z' w' : List C), LeMs [.agg (up [.sl x 2 true, .sl z 2 true]), .agg (up [.sl y 2 true, .sl w 2 true]), .c (iC 1)] [.agg (up [.sl x 2 false, .sl z 2 false]), .agg (up [.sl y 2 false, .sl w 2 false]), .c (iC 1)] := fun x y z w _ _ _ _ =>
    ⟨leM_agg ⟨leM_c (leC_full _ _ _), leM_c (leC_full _ _ _), trivial⟩, leM_agg ⟨leM_c (leC_full _ _ _), leM_c (leC_full _ _ _), trivial⟩, leM_refl _, trivial⟩
  have q1 := fun ob => (p1 ob).le (le2 _ _ _ _ [] [] [] [])
  have q2 := fun ob => (p2 ob).le (le2 _ _ _ _ [] [] [] [])
  have q3 := fun ob => (p3 ob).le (le2 _ _ _ _ [] [] [] [])
  simp only [List.map_cons, List.map_nil, iC] at q1 q2 q3
  refine den_of Try.func36 rfl rfl (by simp [Try.ntmps36]) (fun X hX hO => ?_)
  rw [Try.ntmps36] at hX
  simp only [Try.results36]
  repeat' (first 
   | (with_reducible first | refine awp_scope ?_ | refine awp_seq ?_ | refine awp_block ?_)
   | ((with_reducible first | refine awp_label ?_ | refine awp_skip ?_); try simp only [thenA, inBlockA, noGotoA])
   | (with_reducible refine awp_exit ?_; simp only [thenA, inBlockA, noGotoA, if_true, Nat.reduceEqDiff, if_false, ↓reduceIte])
   | (with_reducible refine awp_ret ?_; (try simp only [thenA, inBlockA, noGotoA]); (try simp [-List.reduceReplicate, Nat.add_one_le_iff, -getElem?_pos, -getElem?_neg, List.getElem?_cons_zero, List.getElem?_cons_succ, iC, bC, z0, s1, s2, s3, l0, l1, l2, l3, y1, y2, y3, -Tab.zero71]))
   | ((with_reducible first | refine awp_reg 29 hX [0, 1, 2] ?_ | change postOf _ _ _ _ _); simp [-List.reduceReplicate, Nat.add_one_le_iff, -getElem?_pos, -getElem?_neg, List.getElem?_cons_zero, List.getElem?_cons_succ, iC, bC, z0, s1, s2, s3, l0, l1, l2, l3, y1, y2, y3, -Tab.zero71])
   | ((first | (refine (q1 _).det ?_) | (refine (q2 _).det ?_) | (refine (q3 _).det ?_)); try simp [-List.reduceReplicate, Nat.add_one_le_iff, -getElem?_pos, -getElem?_neg, List.getElem?_cons_zero, List.getElem?_cons_succ, iC, bC, z0, s1, s2, s3, l0, l1, l2, l3, y1, y2, y3, -Tab.zero71])
   | (with_reducible refine awp_if_b rfl (fun hc => ?_) (fun hc => ?_) <;> (try simp [-getElem?_pos, -getElem?_neg] at hc) <;> (try (exfalso; omega)))
   | ((with_reducible first | refine GuardK_b (fun hc => ?_) (fun hc => ?_)) <;> (try simp only [Bool.not_eq_true', Bool.not_eq_false', decide_eq_true_eq, decide_eq_false_iff_not] at hc) <;> (first | (exfalso; omega) | skip) <;> simp [-List.reduceReplicate, Nat.add_one_le_iff, -getElem?_pos, -getElem?_neg, List.getElem?_cons_zero, List.getElem?_cons_succ, iC, bC, z0, s1, s2, s3, l0, l1, l2, l3, y1, y2, y3, -Tab.zero71, hc])
   | (with_reducible refine And.intro (by omega) ?_)
   | fail)
end Go.Av

set_option exponentiation.threshold 1000
set_option linter.unusedVariables false
set_option linter.unusedSimpArgs false
set_option maxRecDepth 100000
set_option maxHeartbeats 4000000
namespace Go.Av
open Go Go.Proofs Go.Proofs.Ytofomnllcmgfeaa Go.RowKit
/-! ### the document's levels, DuelOf, UpLevels -/
set_option maxHeartbeats 4000000 in
theorem levels22_den (t : List UInt8) (ht : t.length = 32) (ids : List H32) (n : Nat) (full : Bool) (hn : ids.length = n) (hN : n ≤ 1000000) :
    DenV Try.prog 50 [hashM t, .c (.sl (hsC ids) n full)] (.c (.sl ((levs t ids).map iC) n false)) := by
  refine Den.frame (by simp [ltBs, ltB, lt_hash]) rfl ?_
  have hlen := hsC_len ids
  have hat := hsC_at ids
  obtain ⟨D, D0, DN, DL, DS⟩ := levs_facts t ids n hn
  rw [← DN]
  have lap := levAt_pos t ids
  have la0 := levAt_0 t ids
  have tt := hash_take t ht
  have lt_ : (t.map bC8).length = 32 := by simp [ht]
  clear DN
  generalize levAt t ids = la at *
  generalize hsC ids = cs at *
  have pl := fun (a : List UInt8) (ha : a.length = 32) => level17_den a t ha ht
  unfold hashM at *
  generalize t.map bC8 = tc at *
  refine den_of Try.func50 rfl rfl (by simp [Try.ntmps50]) (fun X hX hO => ?_)
  rw [Try.ntmps50] at hX
  simp only [Try.results50]
  repeat' (first 
   | (with_reducible first | refine awp_scope ?_ | refine awp_seq ?_ | refine awp_block ?_)
   | ((with_reducible first | refine awp_label ?_ | refine awp_skip ?_); try simp only [thenA, inBlockA, noGotoA])
   | (with_reducible refine awp_exit ?_; simp only [thenA, inBlockA, noGotoA, if_true, Nat.reduceEqDiff, if_false, ↓reduceIte])
   | (with_reducible refine awp_ret ?_; (try simp only [thenA, inBlockA, noGotoA]); (try simp [-List.reduceReplicate, Nat.add_one_le_iff, -getElem?_pos, -getElem?_neg, List.getElem?_cons_zero, List.getElem?_cons_succ, iC, lt_]))
   | ((with_reducible first | refine awp_reg 28 hX [1, 2, 4, 5, 6, 10, 14] ?_ | refine awp_drw 28 hX [1, 2, 4, 5, 6, 10, 14] Tab.mixed (by kernel_rfl) ?_ | refine DEv_cut _ _ _ _ _ _ _ _ _ _ _ _ (by kernel_rfl) ?_ | change postOf _ _ _ _ _); simp [-List.reduceReplicate, Nat.add_one_le_iff, -getElem?_pos, -getElem?_neg, List.getElem?_cons_zero, List.getElem?_cons_succ, iC, lt_])
   | (with_reducible refine awp_if_b rfl (fun hc => ?_) (fun hc => ?_) <;> (try simp [-getElem?_pos, -getElem?_neg] at hc) <;> (try (exfalso; omega)))
   | ((with_reducible first | refine GuardK_b (fun hc => ?_) (fun hc => ?_) | refine DGuard_b _ _ _ _ _ _ _ _ _ _ (fun hc => ?_) (fun hc => ?_)) <;> (try simp only [Bool.not_eq_true', Bool.not_eq_false', decide_eq_true_eq, decide_eq_false_iff_not] at hc) <;> (first | (exfalso; omega) | skip) <;> simp [-List.reduceReplicate, Nat.add_one_le_iff, -getElem?_pos, -getElem?_neg, List.getElem?_cons_zero, List.getElem?_cons_succ, iC, lt_, hc])
   | ((with_reducible first | refine hother _ _ rfl ?_); simp only [inBlockA, thenA, noGotoA, Nat.reduceEqDiff, if_false, if_true, ↓reduceIte])
   | (with_reducible refine And.intro (by omega) ?_)
   | fail)
  refine awp_nil 5 3 1 (by simp) ?_
  simp
  refine awp_forU [1, 2, 5, 6] (fun i (g : Nat × Bool) => [(5, .ms 1 g.1 0 i), (6, .c (iC i))]) (fun i (g : Nat × Bool) => [⟨71, 1, false, 0, up tc, none⟩, ⟨3, 1, g.2, g.1, up (D i), none⟩]) (fun i (g : Nat × Bool) => True) (n) ((0, true)) (by first | trivial | (simp; done) | omega | (intros; simp at *; done)) (by simp [-List.reduceReplicate, keep, iC, D0]) (by simp [-List.reduceReplicate, iC, D0]) ?_
  rintro i g Q1 hi hH next hother
  conv => arg 5; arg 1; simp only [List.cons_append, List.nil_append, keep, get, Nat.reduceEqDiff, if_true, if_false, ↓reduceIte]
  have hwi := wrap_in ((i : Int) + 1) (by omega)
  by_cases hlt : i < n
  · obtain ⟨h, hh⟩ : ∃ s, ids[i]? = some s := ⟨_, List.getElem?_eq_getElem (by omega)⟩
    have ha := hat i h hh
    have ds := DS i hlt
    have dl := DL i (by omega)
    have hb : 32 ≤ cs.length - i * 32 := by omega
    have hl2 := h.2
    have p2 := pl h.1 hl2
    have hroom : (i + 1) * 8 ≤ 140737488355328 := by omega
    have lap' := fun h0 => lap i h h0 hh
    have lhc : (h.1.map bC8).length = 32 := by simp [hl2]
    generalize lvI (hv h.1) (hv t) = lev at *
    generalize h.1.map bC8 = ic at *
    by_cases hi0 : i = 0
    · subst hi0
      rw [la0, D0, List.nil_append] at ds
      unfold iC at ds
      have w11 : IntKind.i64.wrap (0 + 1) = 1 := rfl
      have hw1 : IntKind.i64.wrap 1 = 1 := rfl
      repeat' (first 
       | (with_reducible first | refine awp_scope ?_ | refine awp_seq ?_ | refine awp_block ?_)
       | ((with_reducible first | refine awp_label ?_ | refine awp_skip ?_); try simp only [thenA, inBlockA, noGotoA])
       | (with_reducible refine awp_exit ?_; simp only [thenA, inBlockA, noGotoA, if_true, Nat.reduceEqDiff, if_false, ↓reduceIte])
       | (with_reducible refine awp_ret ?_; (try simp only [thenA, inBlockA, noGotoA]); (try simp [-List.reduceReplicate, Nat.add_one_le_iff, -getElem?_pos, -getElem?_neg, List.getElem?_cons_zero, List.getElem?_cons_succ, iC, bC, hlt, D0, roomB, hw1, w11]))
       | ((with_reducible first | refine awp_reg 28 hX [1, 2, 4, 5, 6, 10, 14] ?_ | refine awp_drw 28 hX [1, 2, 4, 5, 6, 10, 14] Tab.mixed (by kernel_rfl) ?_ | refine DEv_cut _ _ _ _ _ _ _ _ _ _ _ _ (by kernel_rfl) ?_ | change postOf _ _ _ _ _); simp [-List.reduceReplicate, Nat.add_one_le_iff, -getElem?_pos, -getElem?_neg, List.getElem?_cons_zero, List.getElem?_cons_succ, iC, bC, hlt, D0, roomB, hw1, w11])
       | (with_reducible refine awp_if_b rfl (fun hc => ?_) (fun hc => ?_) <;> (try simp [-getElem?_pos, -getElem?_neg] at hc) <;> (try (exfalso; omega)))
       | ((with_reducible first | refine GuardK_b (fun hc => ?_) (fun hc => ?_) | refine DGuard_b _ _ _ _ _ _ _ _ _ _ (fun hc => ?_) (fun hc => ?_)) <;> (try simp only [Bool.not_eq_true', Bool.not_eq_false', decide_eq_true_eq, decide_eq_false_iff_not] at hc) <;> (first | (exfalso; omega) | skip) <;> simp [-List.reduceReplicate, Nat.add_one_le_iff, -getElem?_pos, -getElem?_neg, List.getElem?_cons_zero, List.getElem?_cons_succ, iC, bC, hlt, D0, roomB, hw1, w11, hc])
       | ((with_reducible first | refine hother _ _ rfl ?_); simp only [inBlockA, thenA, noGotoA, Nat.reduceEqDiff, if_false, if_true, ↓reduceIte])
       | (with_reducible refine And.intro (by omega) ?_)
       | fail)
      refine next _ _ ((g.1 + 1, false)) (by omega) (by first | trivial | omega | assumption) (by simp [-List.reduceReplicate, keep, iC, ← ds]) (by simp [-List.reduceReplicate, iC, ← ds])
    · have hi1 : ¬ (i : Int) = 0 := by omega
      rw [lap' hi0] at ds
      unfold iC at ds
      repeat' (first 
       | (with_reducible first | refine awp_scope ?_ | refine awp_seq ?_ | refine awp_block ?_)
       | ((with_reducible first | refine awp_label ?_ | refine awp_skip ?_); try simp only [thenA, inBlockA, noGotoA])
       | (with_reducible refine awp_exit ?_; simp only [thenA, inBlockA, noGotoA, if_true, Nat.reduceEqDiff, if_false, ↓reduceIte])
       | (with_reducible refine awp_ret ?_; (try simp only [thenA, inBlockA, noGotoA]); (try simp [-List.reduceReplicate, Nat.add_one_le_iff, -getElem?_pos, -getElem?_neg, List.getElem?_cons_zero, List.getElem?_cons_succ, iC, bC, hlt, ha, hb, lhc, tt, lt_, hi0, hi1, dl, roomB, hroom, hwi]))
       | ((with_reducible first | refine awp_reg 28 hX [1, 2, 4, 5, 6, 10, 14] ?_ | refine awp_drw 28 hX [1, 2, 4, 5, 6, 10, 14] Tab.mixed (by kernel_rfl) ?_ | refine DEv_cut _ _ _ _ _ _ _ _ _ _ _ _ (by kernel_rfl) ?_ | change postOf _ _ _ _ _); simp [-List.reduceReplicate, Nat.add_one_le_iff, -getElem?_pos, -getElem?_neg, List.getElem?_cons_zero, List.getElem?_cons_succ, iC, bC, hlt, ha, hb, lhc, tt, lt_, hi0, hi1, dl, roomB, hroom, hwi])
       | ((first | (refine (p2 _).det ?_) | (refine ⟨_, _, p2 _, fun _ => rfl, ?_⟩)); try simp [-List.reduceReplicate, Nat.add_one_le_iff, -getElem?_pos, -getElem?_neg, List.getElem?_cons_zero, List.getElem?_cons_succ, iC, bC, hlt, ha, hb, lhc, tt, lt_, hi0, hi1, dl, roomB, hroom, hwi])
       | (with_reducible refine awp_if_b rfl (fun hc => ?_) (fun hc => ?_) <;> (try simp [-getElem?_pos, -getElem?_neg] at hc) <;> (try (exfalso; omega)))
       | ((with_reducible first | refine GuardK_b (fun hc => ?_) (fun hc => ?_) | refine DGuard_b _ _ _ _ _ _ _ _ _ _ (fun hc => ?_) (fun hc => ?_)) <;> (try simp only [Bool.not_eq_true', Bool.not_eq_false', decide_eq_true_eq, decide_eq_false_iff_not] at hc) <;> (first | (exfalso; omega) | skip) <;> simp [-List.reduceReplicate, Nat.add_one_le_iff, -getElem?_pos, -getElem?_neg, List.getElem?_cons_zero, List.getElem?_cons_succ, iC, bC, hlt, ha, hb, lhc, tt, lt_, hi0, hi1, dl, roomB, hroom, hwi, hc])
       | ((with_reducible first | refine hother _ _ rfl ?_); simp only [inBlockA, thenA, noGotoA, Nat.reduceEqDiff, if_false, if_true, ↓reduceIte])
       | (with_reducible refine And.intro (by omega) ?_)
       | fail)
      refine next _ _ ((g.1 + 1, false)) (by omega) (by first | trivial | omega | assumption) (by simp [-List.reduceReplicate, keep, iC, ds]) (by simp [-List.reduceReplicate, iC, ds])
  · have hi2 : i = n := by omega
    subst hi2
    have hexit := hother; clear hother
    repeat' (first 
     | (with_reducible first | refine awp_scope ?_ | refine awp_seq ?_ | refine awp_block ?_)
     | ((with_reducible first | refine awp_label ?_ | refine awp_skip ?_); try simp only [thenA, inBlockA, noGotoA])
     | (with_reducible refine awp_exit ?_; simp only [thenA, inBlockA, noGotoA, if_true, Nat.reduceEqDiff, if_false, ↓reduceIte])
     | (with_reducible refine awp_ret ?_; (try simp only [thenA, inBlockA, noGotoA]); (try simp [-List.reduceReplicate, Nat.add_one_le_iff, -getElem?_pos, -getElem?_neg, List.getElem?_cons_zero, List.getElem?_cons_succ, iC, hlt]))
     | ((with_reducible first | refine awp_reg 28 hX [1, 2, 4, 5, 6, 10, 14] ?_ | refine awp_drw 28 hX [1, 2, 4, 5, 6, 10, 14] Tab.mixed (by kernel_rfl) ?_ | refine DEv_cut _ _ _ _ _ _ _ _ _ _ _ _ (by kernel_rfl) ?_ | change postOf _ _ _ _ _); simp [-List.reduceReplicate, Nat.add_one_le_iff, -getElem?_pos, -getElem?_neg, List.getElem?_cons_zero, List.getElem?_cons_succ, iC, hlt])
     | (with_reducible refine awp_if_b rfl (fun hc => ?_) (fun hc => ?_) <;> (try simp [-getElem?_pos, -getElem?_neg] at hc) <;> (try (exfalso; omega)))
     | ((with_reducible first | refine GuardK_b (fun hc => ?_) (fun hc => ?_) | refine DGuard_b _ _ _ _ _ _ _ _ _ _ (fun hc => ?_) (fun hc => ?_)) <;> (try simp only [Bool.not_eq_true', Bool.not_eq_false', decide_eq_true_eq, decide_eq_false_iff_not] at hc) <;> (first | (exfalso; omega) | skip) <;> simp [-List.reduceReplicate, Nat.add_one_le_iff, -getElem?_pos, -getElem?_neg, List.getElem?_cons_zero, List.getElem?_cons_succ, iC, hlt, hc])
     | ((with_reducible first | refine hother _ _ rfl ?_); simp only [inBlockA, thenA, noGotoA, Nat.reduceEqDiff, if_false, if_true, ↓reduceIte])
     | (with_reducible refine And.intro (by omega) ?_)
     | fail)
    refine hexit _ _ rfl ?_
    simp only [inBlockA, thenA, ↓reduceIte]
    refine awp_frz2 5 [] [⟨71, 1, false, 0, up tc, none⟩] [] _ (D i) _ hO rfl rfl rfl (by simp [ltB]) (by simp [ltB, up]) ?_
    repeat' (first 
     | (with_reducible first | refine awp_scope ?_ | refine awp_seq ?_ | refine awp_block ?_)
     | ((with_reducible first | refine awp_label ?_ | refine awp_skip ?_); try simp only [thenA, inBlockA, noGotoA])
     | (with_reducible refine awp_exit ?_; simp only [thenA, inBlockA, noGotoA, if_true, Nat.reduceEqDiff, if_false, ↓reduceIte])
     | (with_reducible refine awp_ret ?_; (try simp only [thenA, inBlockA, noGotoA]); (try simp [-List.reduceReplicate, Nat.add_one_le_iff, -getElem?_pos, -getElem?_neg, List.getElem?_cons_zero, List.getElem?_cons_succ]))
     | ((with_reducible first | refine awp_reg 28 hX [1, 2, 4, 5, 6, 10, 14] ?_ | refine awp_drw 28 hX [1, 2, 4, 5, 6, 10, 14] Tab.mixed (by kernel_rfl) ?_ | refine DEv_cut _ _ _ _ _ _ _ _ _ _ _ _ (by kernel_rfl) ?_ | change postOf _ _ _ _ _); simp [-List.reduceReplicate, Nat.add_one_le_iff, -getElem?_pos, -getElem?_neg, List.getElem?_cons_zero, List.getElem?_cons_succ])
     | (with_reducible refine awp_if_b rfl (fun hc => ?_) (fun hc => ?_) <;> (try simp [-getElem?_pos, -getElem?_neg] at hc) <;> (try (exfalso; omega)))
     | ((with_reducible first | refine GuardK_b (fun hc => ?_) (fun hc => ?_) | refine DGuard_b _ _ _ _ _ _ _ _ _ _ (fun hc => ?_) (fun hc => ?_)) <;> (try simp only [Bool.not_eq_true', Bool.not_eq_false', decide_eq_true_eq, decide_eq_false_iff_not] at hc) <;> (first | (exfalso; omega) | skip) <;> simp [-List.reduceReplicate, Nat.add_one_le_iff, -getElem?_pos, -getElem?_neg, List.getElem?_cons_zero, List.getElem?_cons_succ, hc])
     | ((with_reducible first | refine hother _ _ rfl ?_); simp only [inBlockA, thenA, noGotoA, Nat.reduceEqDiff, if_false, if_true, ↓reduceIte])
     | (with_reducible refine And.intro (by omega) ?_)
     | fail)
set_option maxHeartbeats 4000000 in
theorem hashes_den (a b : List H32) (n m : Nat) (fa fb : Bool) (hn : a.length = n) (hm : b.length = m) (hN : n ≤ 1000000) (hM : m ≤ 1000000) :
    DenV Try.prog 53 [.c (.sl (hsC a) n fa), .c (.sl (hsC b) m fb)] (.c (bC (decide (a = b)))) := by
  refine Den.frame rfl rfl ?_
  have hla := hsC_len a
  have hata := hsC_at a
  have hlb := hsC_len b
  have hatb := hsC_at b
  have hy : (∀ (j : Nat) (h h' : H32), j < n → a[j]? = some h → b[j]? = some h' → h.1 = h'.1) → n = m → decide (a = b) = true := fun h e => by
    refine decide_eq_true (List.ext_getElem (by omega) fun j h1 h2 => ?_)
    exact Subtype.ext (h j _ _ (by omega) (List.getElem?_eq_getElem h1) (List.getElem?_eq_getElem h2))
  have hno : ∀ (j : Nat) (h h' : H32), a[j]? = some h → b[j]? = some h' → h.1 ≠ h'.1 → decide (a = b) = false := fun j h h' h1 h2 hne => by
    refine decide_eq_false fun e => ?_
    subst e
    rw [h1] at h2
    exact hne (by rw [Option.some.inj h2])
  have hnl : n ≠ m → decide (a = b) = false := fun h => decide_eq_false fun e => by subst e; omega
  generalize decide (a = b) = r at *
  generalize hsC a = ca at *
  generalize hsC b = cb at *
  by_cases hnm : n = m
  · subst hnm
    refine den_of Try.func53 rfl rfl (by simp [Try.ntmps53]) (fun X hX hO => ?_)
    rw [Try.ntmps53] at hX
    simp only [Try.results53]
    repeat' (first 
     | (with_reducible first | refine awp_scope ?_ | refine awp_seq ?_ | refine awp_block ?_)
     | ((with_reducible first | refine awp_label ?_ | refine awp_skip ?_); try simp only [thenA, inBlockA, noGotoA])
     | (with_reducible refine awp_exit ?_; simp only [thenA, inBlockA, noGotoA, if_true, Nat.reduceEqDiff, if_false, ↓reduceIte])
     | (with_reducible refine awp_ret ?_; (try simp only [thenA, inBlockA, noGotoA]); (try simp [-List.reduceReplicate, Nat.add_one_le_iff, -getElem?_pos, -getElem?_neg, List.getElem?_cons_zero, List.getElem?_cons_succ, iC, bC]))
     | ((with_reducible first | refine awp_reg 26 hX [0, 1, 4, 5, 10, 14, 25] ?_ | refine awp_drw 26 hX [0, 1, 4, 5, 10, 14, 25] Tab.mixed (by kernel_rfl) ?_ | refine DEv_cut _ _ _ _ _ _ _ _ _ _ _ _ (by kernel_rfl) ?_ | change postOf _ _ _ _ _); simp [-List.reduceReplicate, Nat.add_one_le_iff, -getElem?_pos, -getElem?_neg, List.getElem?_cons_zero, List.getElem?_cons_succ, iC, bC])
     | (with_reducible refine awp_if_b rfl (fun hc => ?_) (fun hc => ?_) <;> (try simp [-getElem?_pos, -getElem?_neg] at hc) <;> (try (exfalso; omega)))
     | ((with_reducible first | refine GuardK_b (fun hc => ?_) (fun hc => ?_) | refine DGuard_b _ _ _ _ _ _ _ _ _ _ (fun hc => ?_) (fun hc => ?_)) <;> (try simp only [Bool.not_eq_true', Bool.not_eq_false', decide_eq_true_eq, decide_eq_false_iff_not] at hc) <;> (first | (exfalso; omega) | skip) <;> simp [-List.reduceReplicate, Nat.add_one_le_iff, -getElem?_pos, -getElem?_neg, List.getElem?_cons_zero, List.getElem?_cons_succ, iC, bC, hc])
     | ((with_reducible first | refine hother _ _ rfl ?_); simp only [inBlockA, thenA, noGotoA, Nat.reduceEqDiff, if_false, if_true, ↓reduceIte])
     | (with_reducible refine And.intro (by omega) ?_)
     | fail)
    refine awp_forU [0, 1, 5] (fun i (_u : Unit) => [(5, .c (iC i))]) (fun i (_u : Unit) => []) (fun i (_u : Unit) => (∀ (j : Nat) (h h' : H32), j < i → a[j]? = some h → b[j]? = some h' → h.1 = h'.1)) (n) (()) (by first | trivial | (simp; done) | omega | (intros; simp at *; done)) (by simp [-List.reduceReplicate, keep, iC]) (by simp [-List.reduceReplicate, iC]) ?_
    rintro i _u Q1 hi hH next hother
    conv => arg 5; arg 1; simp only [List.cons_append, List.nil_append, keep, get, Nat.reduceEqDiff, if_true, if_false, ↓reduceIte]
    have hwi := wrap_in ((i : Int) + 1) (by omega)
    by_cases hlt : i < n
    · obtain ⟨h, hh⟩ : ∃ s, a[i]? = some s := ⟨_, List.getElem?_eq_getElem (by omega)⟩
      obtain ⟨h', hh'⟩ : ∃ s, b[i]? = some s := ⟨_, List.getElem?_eq_getElem (by omega)⟩
      have h1 := hata i h hh
      have h2 := hatb i h' hh'
      have b1 : 32 ≤ ca.length - i * 32 := by omega
      have b2 : 32 ≤ cb.length - i * 32 := by omega
      have l1 := h.2
      have l2 := h'.2
      have t1 := hash_take h.1 l1
      have t2 := hash_take h'.1 l2
      have he := eq_hash h.1 h'.1 l1 l2
      by_cases heq : h.1 = h'.1
      · have nx : ∀ (j : Nat) (x x' : H32), j < i + 1 → a[j]? = some x → b[j]? = some x' → x.1 = x'.1 := fun j x x' hj q1 q2 => by
          by_cases e : j = i
          · subst e
            rw [hh] at q1; rw [hh'] at q2
            obtain rfl := Option.some.inj q1
            obtain rfl := Option.some.inj q2
            exact heq
          · exact hH j x x' (by omega) q1 q2
        simp only [heq, decide_true] at he h1 t1 l1
        repeat' (first 
         | (with_reducible first | refine awp_scope ?_ | refine awp_seq ?_ | refine awp_block ?_)
         | ((with_reducible first | refine awp_label ?_ | refine awp_skip ?_); try simp only [thenA, inBlockA, noGotoA])
         | (with_reducible refine awp_exit ?_; simp only [thenA, inBlockA, noGotoA, if_true, Nat.reduceEqDiff, if_false, ↓reduceIte])
         | (with_reducible refine awp_ret ?_; (try simp only [thenA, inBlockA, noGotoA]); (try simp [-List.reduceReplicate, Nat.add_one_le_iff, -getElem?_pos, -getElem?_neg, List.getElem?_cons_zero, List.getElem?_cons_succ, iC, bC, hlt, h1, h2, b1, b2, l1, l2, t1, t2, he, hwi]))
         | ((with_reducible first | refine awp_reg 26 hX [0, 1, 4, 5, 10, 14, 25] ?_ | refine awp_drw 26 hX [0, 1, 4, 5, 10, 14, 25] Tab.mixed (by kernel_rfl) ?_ | refine DEv_cut _ _ _ _ _ _ _ _ _ _ _ _ (by kernel_rfl) ?_ | change postOf _ _ _ _ _); simp [-List.reduceReplicate, Nat.add_one_le_iff, -getElem?_pos, -getElem?_neg, List.getElem?_cons_zero, List.getElem?_cons_succ, iC, bC, hlt, h1, h2, b1, b2, l1, l2, t1, t2, he, hwi])
         | (with_reducible refine awp_if_b rfl (fun hc => ?_) (fun hc => ?_) <;> (try simp [-getElem?_pos, -getElem?_neg] at hc) <;> (try (exfalso; omega)))
         | ((with_reducible first | refine GuardK_b (fun hc => ?_) (fun hc => ?_) | refine DGuard_b _ _ _ _ _ _ _ _ _ _ (fun hc => ?_) (fun hc => ?_)) <;> (try simp only [Bool.not_eq_true', Bool.not_eq_false', decide_eq_true_eq, decide_eq_false_iff_not] at hc) <;> (first | (exfalso; omega) | skip) <;> simp [-List.reduceReplicate, Nat.add_one_le_iff, -getElem?_pos, -getElem?_neg, List.getElem?_cons_zero, List.getElem?_cons_succ, iC, bC, hlt, h1, h2, b1, b2, l1, l2, t1, t2, he, hwi, hc])
         | ((with_reducible first | refine hother _ _ rfl ?_); simp only [inBlockA, thenA, noGotoA, Nat.reduceEqDiff, if_false, if_true, ↓reduceIte])
         | (with_reducible refine And.intro (by omega) ?_)
         | fail)
        refine next _ _ (()) (by omega) (by first | trivial | omega | assumption) (by simp [-List.reduceReplicate, keep, iC]) (by simp [-List.reduceReplicate, iC])
      · have hr := hno i h h' hh hh' heq
        simp only [heq, decide_false] at he
        repeat' (first 
         | (with_reducible first | refine awp_scope ?_ | refine awp_seq ?_ | refine awp_block ?_)
         | ((with_reducible first | refine awp_label ?_ | refine awp_skip ?_); try simp only [thenA, inBlockA, noGotoA])
         | (with_reducible refine awp_exit ?_; simp only [thenA, inBlockA, noGotoA, if_true, Nat.reduceEqDiff, if_false, ↓reduceIte])
         | (with_reducible refine awp_ret ?_; (try simp only [thenA, inBlockA, noGotoA]); (try simp [-List.reduceReplicate, Nat.add_one_le_iff, -getElem?_pos, -getElem?_neg, List.getElem?_cons_zero, List.getElem?_cons_succ, iC, bC, hlt, h1, h2, b1, b2, l1, l2, t1, t2, he, hr]))
         | ((with_reducible first | refine awp_reg 26 hX [0, 1, 4, 5, 10, 14, 25] ?_ | refine awp_drw 26 hX [0, 1, 4, 5, 10, 14, 25] Tab.mixed (by kernel_rfl) ?_ | refine DEv_cut _ _ _ _ _ _ _ _ _ _ _ _ (by kernel_rfl) ?_ | change postOf _ _ _ _ _); simp [-List.reduceReplicate, Nat.add_one_le_iff, -getElem?_pos, -getElem?_neg, List.getElem?_cons_zero, List.getElem?_cons_succ, iC, bC, hlt, h1, h2, b1, b2, l1, l2, t1, t2, he, hr])
         | (with_reducible refine awp_if_b rfl (fun hc => ?_) (fun hc => ?_) <;> (try simp [-getElem?_pos, -getElem?_neg] at hc) <;> (try (exfalso; omega)))
         | ((with_reducible first | refine GuardK_b (fun hc => ?_) (fun hc => ?_) | refine DGuard_b _ _ _ _ _ _ _ _ _ _ (fun hc => ?_) (fun hc => ?_)) <;> (try simp only [Bool.not_eq_true', Bool.not_eq_false', decide_eq_true_eq, decide_eq_false_iff_not] at hc) <;> (first | (exfalso; omega) | skip) <;> simp [-List.reduceReplicate, Nat.add_one_le_iff, -getElem?_pos, -getElem?_neg, List.getElem?_cons_zero, List.getElem?_cons_succ, iC, bC, hlt, h1, h2, b1, b2, l1, l2, t1, t2, he, hr, hc])
         | ((with_reducible first | refine hother _ _ rfl ?_); simp only [inBlockA, thenA, noGotoA, Nat.reduceEqDiff, if_false, if_true, ↓reduceIte])
         | (with_reducible refine And.intro (by omega) ?_)
         | fail)
    · have hi2 : i = n := by omega
      subst hi2
      have hr := hy hH rfl
      repeat' (first 
       | (with_reducible first | refine awp_scope ?_ | refine awp_seq ?_ | refine awp_block ?_)
       | ((with_reducible first | refine awp_label ?_ | refine awp_skip ?_); try simp only [thenA, inBlockA, noGotoA])
       | (with_reducible refine awp_exit ?_; simp only [thenA, inBlockA, noGotoA, if_true, Nat.reduceEqDiff, if_false, ↓reduceIte])
       | (with_reducible refine awp_ret ?_; (try simp only [thenA, inBlockA, noGotoA]); (try simp [-List.reduceReplicate, Nat.add_one_le_iff, -getElem?_pos, -getElem?_neg, List.getElem?_cons_zero, List.getElem?_cons_succ, iC, bC, hr]))
       | ((with_reducible first | refine awp_reg 26 hX [0, 1, 4, 5, 10, 14, 25] ?_ | refine awp_drw 26 hX [0, 1, 4, 5, 10, 14, 25] Tab.mixed (by kernel_rfl) ?_ | refine DEv_cut _ _ _ _ _ _ _ _ _ _ _ _ (by kernel_rfl) ?_ | change postOf _ _ _ _ _); simp [-List.reduceReplicate, Nat.add_one_le_iff, -getElem?_pos, -getElem?_neg, List.getElem?_cons_zero, List.getElem?_cons_succ, iC, bC, hr])
       | (with_reducible refine awp_if_b rfl (fun hc => ?_) (fun hc => ?_) <;> (try simp [-getElem?_pos, -getElem?_neg] at hc) <;> (try (exfalso; omega)))
       | ((with_reducible first | refine GuardK_b (fun hc => ?_) (fun hc => ?_) | refine DGuard_b _ _ _ _ _ _ _ _ _ _ (fun hc => ?_) (fun hc => ?_)) <;> (try simp only [Bool.not_eq_true', Bool.not_eq_false', decide_eq_true_eq, decide_eq_false_iff_not] at hc) <;> (first | (exfalso; omega) | skip) <;> simp [-List.reduceReplicate, Nat.add_one_le_iff, -getElem?_pos, -getElem?_neg, List.getElem?_cons_zero, List.getElem?_cons_succ, iC, bC, hr, hc])
       | ((with_reducible first | refine hother _ _ rfl ?_); simp only [inBlockA, thenA, noGotoA, Nat.reduceEqDiff, if_false, if_true, ↓reduceIte])
       | (with_reducible refine And.intro (by omega) ?_)
       | fail)
  · have h2 : ¬ (n : Int) = m := by omega
    have hr := hnl hnm
    refine den_of Try.func53 rfl rfl (by simp [Try.ntmps53]) (fun X hX hO => ?_)
    rw [Try.ntmps53] at hX
    simp only [Try.results53]
    repeat' (first 
     | (with_reducible first | refine awp_scope ?_ | refine awp_seq ?_ | refine awp_block ?_)
     | ((with_reducible first | refine awp_label ?_ | refine awp_skip ?_); try simp only [thenA, inBlockA, noGotoA])
     | (with_reducible refine awp_exit ?_; simp only [thenA, inBlockA, noGotoA, if_true, Nat.reduceEqDiff, if_false, ↓reduceIte])
     | (with_reducible refine awp_ret ?_; (try simp only [thenA, inBlockA, noGotoA]); (try simp [-List.reduceReplicate, Nat.add_one_le_iff, -getElem?_pos, -getElem?_neg, List.getElem?_cons_zero, List.getElem?_cons_succ, iC, bC, hnm, h2, hr]))
     | ((with_reducible first | refine awp_reg 26 hX [0, 1, 4, 5, 10, 14, 25] ?_ | refine awp_drw 26 hX [0, 1, 4, 5, 10, 14, 25] Tab.mixed (by kernel_rfl) ?_ | refine DEv_cut _ _ _ _ _ _ _ _ _ _ _ _ (by kernel_rfl) ?_ | change postOf _ _ _ _ _); simp [-List.reduceReplicate, Nat.add_one_le_iff, -getElem?_pos, -getElem?_neg, List.getElem?_cons_zero, List.getElem?_cons_succ, iC, bC, hnm, h2, hr])
     | (with_reducible refine awp_if_b rfl (fun hc => ?_) (fun hc => ?_) <;> (try simp [-getElem?_pos, -getElem?_neg] at hc) <;> (try (exfalso; omega)))
     | ((with_reducible first | refine GuardK_b (fun hc => ?_) (fun hc => ?_) | refine DGuard_b _ _ _ _ _ _ _ _ _ _ (fun hc => ?_) (fun hc => ?_)) <;> (try simp only [Bool.not_eq_true', Bool.not_eq_false', decide_eq_true_eq, decide_eq_false_iff_not] at hc) <;> (first | (exfalso; omega) | skip) <;> simp [-List.reduceReplicate, Nat.add_one_le_iff, -getElem?_pos, -getElem?_neg, List.getElem?_cons_zero, List.getElem?_cons_succ, iC, bC, hnm, h2, hr, hc])
     | ((with_reducible first | refine hother _ _ rfl ?_); simp only [inBlockA, thenA, noGotoA, Nat.reduceEqDiff, if_false, if_true, ↓reduceIte])
     | (with_reducible refine And.intro (by omega) ?_)
     | fail)
def muchTo (l : List ST) : Nat → Int
  | 0 => 0
  | i + 1 => if 1048576 < IntKind.i64.wrap (muchTo l i + ((l[i]?.map (·.path.length)).getD 0 : Nat)) then 1048576 else IntKind.i64.wrap (muchTo l i + ((l[i]?.map (·.path.length)).getD 0 : Nat))
def muchS (l : List ST) : Bool := ((decide (40 < l.length) && decide (l.length ≤ 1024)) || decide (1050 < l.length)) || decide (300 < muchTo l (min l.length 100))
theorem muchS_no {l : List ST} (h : muchS l = false) : l.length ≤ 1050 := by
  unfold muchS at h
  simp only [Bool.or_eq_false_iff, decide_eq_false_iff_not] at h
  omega
set_option maxHeartbeats 4000000 in
theorem much30_den (l : List ST) : DenV Try.prog 48 [.c (.sl (stsC l) l.length false)] (.c (bC (muchS l))) := by
  refine Den.frame rfl rfl ?_
  have hlen := stsC_len l
  have hpa := stsC_path l
  have hs : ∀ i, muchTo l (i + 1) = if 1048576 < IntKind.i64.wrap (muchTo l i + ((l[i]?.map (·.path.length)).getD 0 : Nat)) then 1048576 else IntKind.i64.wrap (muchTo l i + ((l[i]?.map (·.path.length)).getD 0 : Nat)) := fun _ => rfl
  have h0 : muchTo l 0 = 0 := rfl
  have hf : muchS l = (((decide (40 < l.length) && decide (l.length ≤ 1024)) || decide (1050 < l.length)) || decide (300 < muchTo l (min l.length 100))) := rfl
  generalize muchS l = r at *
  generalize muchTo l = f at *
  generalize stsC l = cs at *
  refine den_of Try.func48 rfl rfl (by simp [Try.ntmps48]) (fun X hX hO => ?_)
  rw [Try.ntmps48] at hX
  simp only [Try.results48]
  repeat' (first 
   | (with_reducible first | refine awp_scope ?_ | refine awp_seq ?_ | refine awp_block ?_)
   | ((with_reducible first | refine awp_label ?_ | refine awp_skip ?_); try simp only [thenA, inBlockA, noGotoA])
   | (with_reducible refine awp_exit ?_; simp only [thenA, inBlockA, noGotoA, if_true, Nat.reduceEqDiff, if_false, ↓reduceIte])
   | (with_reducible refine awp_ret ?_; (try simp only [thenA, inBlockA, noGotoA]); (try simp [-List.reduceReplicate, Nat.add_one_le_iff, -getElem?_pos, -getElem?_neg, List.getElem?_cons_zero, List.getElem?_cons_succ, iC]))
   | ((with_reducible first | refine awp_reg 42 hX [0, 2, 3, 4, 12] ?_ | change postOf _ _ _ _ _); simp [-List.reduceReplicate, Nat.add_one_le_iff, -getElem?_pos, -getElem?_neg, List.getElem?_cons_zero, List.getElem?_cons_succ, iC])
   | (with_reducible refine awp_if_b rfl (fun hc => ?_) (fun hc => ?_) <;> (try simp [-getElem?_pos, -getElem?_neg] at hc) <;> (try (exfalso; omega)))
   | ((with_reducible first | refine GuardK_b (fun hc => ?_) (fun hc => ?_)) <;> (try simp only [Bool.not_eq_true', Bool.not_eq_false', decide_eq_true_eq, decide_eq_false_iff_not] at hc) <;> (first | (exfalso; omega) | skip) <;> simp [-List.reduceReplicate, Nat.add_one_le_iff, -getElem?_pos, -getElem?_neg, List.getElem?_cons_zero, List.getElem?_cons_succ, iC, hc])
   | ((with_reducible first | refine hother _ _ rfl ?_); simp only [inBlockA, thenA, noGotoA, Nat.reduceEqDiff, if_false, if_true, ↓reduceIte])
   | (with_reducible refine And.intro (by omega) ?_)
   | fail)
  refine awp_forU [0, 3, 4] (fun i (_u : Unit) => [(3, .c (iC (f i))), (4, .c (iC i))]) (fun i (_u : Unit) => []) (fun i (_u : Unit) => True) (min l.length 100) (()) (by first | trivial | (simp; done) | omega | (intros; simp at *; done)) (by simp [-List.reduceReplicate, keep, iC, h0]) (by simp [-List.reduceReplicate, iC, h0]) ?_
  rintro i _u Q1 hi hH next hother
  conv => arg 5; arg 1; simp only [List.cons_append, List.nil_append, keep, get, Nat.reduceEqDiff, if_true, if_false, ↓reduceIte]
  have hwi := wrap_in ((i : Int) + 1) (by omega)
  have h40 : decide ((40 : Int) < l.length) = decide (40 < l.length) := decide_eq_decide.2 (by omega)
  have h1024 : decide ((l.length : Int) ≤ 1024) = decide (l.length ≤ 1024) := decide_eq_decide.2 (by omega)
  have h1050 : decide ((1050 : Int) < l.length) = decide (1050 < l.length) := decide_eq_decide.2 (by omega)
  by_cases hlt : i < l.length
  · by_cases h100 : i < 100
    · obtain ⟨s, hs'⟩ : ∃ s, l[i]? = some s := ⟨_, List.getElem?_eq_getElem (by omega)⟩
      have hp := hpa i s hs'
      have hsi := hs i
      rw [hs'] at hsi
      simp only [Option.map_some, Option.getD_some] at hsi
      have hb : i * 69 + 68 < cs.length := by omega
      have i100 : (i : Int) < 100 := by omega
      repeat' (first 
       | (with_reducible first | refine awp_scope ?_ | refine awp_seq ?_ | refine awp_block ?_)
       | ((with_reducible first | refine awp_label ?_ | refine awp_skip ?_); try simp only [thenA, inBlockA, noGotoA])
       | (with_reducible refine awp_exit ?_; simp only [thenA, inBlockA, noGotoA, if_true, Nat.reduceEqDiff, if_false, ↓reduceIte])
       | (with_reducible refine awp_ret ?_; (try simp only [thenA, inBlockA, noGotoA]); (try simp [-List.reduceReplicate, Nat.add_one_le_iff, -getElem?_pos, -getElem?_neg, List.getElem?_cons_zero, List.getElem?_cons_succ, iC, bC, hlt, h100, i100, hp, hb, hwi, Nat.add_assoc]))
       | ((with_reducible first | refine awp_reg 42 hX [0, 2, 3, 4, 12] ?_ | change postOf _ _ _ _ _); simp [-List.reduceReplicate, Nat.add_one_le_iff, -getElem?_pos, -getElem?_neg, List.getElem?_cons_zero, List.getElem?_cons_succ, iC, bC, hlt, h100, i100, hp, hb, hwi, Nat.add_assoc])
       | (with_reducible refine awp_if_b rfl (fun hc => ?_) (fun hc => ?_) <;> (try simp [-getElem?_pos, -getElem?_neg] at hc) <;> (try (exfalso; omega)))
       | ((with_reducible first | refine GuardK_b (fun hc => ?_) (fun hc => ?_)) <;> (try simp only [Bool.not_eq_true', Bool.not_eq_false', decide_eq_true_eq, decide_eq_false_iff_not] at hc) <;> (first | (exfalso; omega) | skip) <;> simp [-List.reduceReplicate, Nat.add_one_le_iff, -getElem?_pos, -getElem?_neg, List.getElem?_cons_zero, List.getElem?_cons_succ, iC, bC, hlt, h100, i100, hp, hb, hwi, Nat.add_assoc, hc])
       | ((with_reducible first | refine hother _ _ rfl ?_); simp only [inBlockA, thenA, noGotoA, Nat.reduceEqDiff, if_false, if_true, ↓reduceIte])
       | (with_reducible refine And.intro (by omega) ?_)
       | fail)
      refine next _ _ (()) (by omega) (by first | trivial | omega | assumption) (by simp [-List.reduceReplicate, keep, iC, hsi]) (by simp [-List.reduceReplicate, iC, hsi])
    · have hi2 : min l.length 100 = i := by omega
      rw [hi2] at hf
      have i100 : ¬ (i : Int) < 100 := by omega
      by_cases c1 : 40 < l.length
      · have c1' : (40 : Int) < l.length := by omega
        by_cases c2 : l.length ≤ 1024
        · have c2' : (l.length : Int) ≤ 1024 := by omega
          simp only [c1, c2, decide_true, Bool.true_and, Bool.true_or] at hf
          repeat' (first 
           | (with_reducible first | refine awp_scope ?_ | refine awp_seq ?_ | refine awp_block ?_)
           | ((with_reducible first | refine awp_label ?_ | refine awp_skip ?_); try simp only [thenA, inBlockA, noGotoA])
           | (with_reducible refine awp_exit ?_; simp only [thenA, inBlockA, noGotoA, if_true, Nat.reduceEqDiff, if_false, ↓reduceIte])
           | (with_reducible refine awp_ret ?_; (try simp only [thenA, inBlockA, noGotoA]); (try simp [-List.reduceReplicate, Nat.add_one_le_iff, -getElem?_pos, -getElem?_neg, List.getElem?_cons_zero, List.getElem?_cons_succ, iC, bC, hlt, h100, i100, c1, c1', c2, c2', hf]))
           | ((with_reducible first | refine awp_reg 42 hX [0, 2, 3, 4, 12] ?_ | change postOf _ _ _ _ _); simp [-List.reduceReplicate, Nat.add_one_le_iff, -getElem?_pos, -getElem?_neg, List.getElem?_cons_zero, List.getElem?_cons_succ, iC, bC, hlt, h100, i100, c1, c1', c2, c2', hf])
           | (with_reducible refine awp_if_b rfl (fun hc => ?_) (fun hc => ?_) <;> (try simp [-getElem?_pos, -getElem?_neg] at hc) <;> (try (exfalso; omega)))
           | ((with_reducible first | refine GuardK_b (fun hc => ?_) (fun hc => ?_)) <;> (try simp only [Bool.not_eq_true', Bool.not_eq_false', decide_eq_true_eq, decide_eq_false_iff_not] at hc) <;> (first | (exfalso; omega) | skip) <;> simp [-List.reduceReplicate, Nat.add_one_le_iff, -getElem?_pos, -getElem?_neg, List.getElem?_cons_zero, List.getElem?_cons_succ, iC, bC, hlt, h100, i100, c1, c1', c2, c2', hf, hc])
           | ((with_reducible first | refine hother _ _ rfl ?_); simp only [inBlockA, thenA, noGotoA, Nat.reduceEqDiff, if_false, if_true, ↓reduceIte])
           | (with_reducible refine And.intro (by omega) ?_)
           | fail)
        · have c2' : ¬ (l.length : Int) ≤ 1024 := by omega
          by_cases c3 : 1050 < l.length
          · have c3' : (1050 : Int) < l.length := by omega
            simp only [c1, c2, c3, decide_true, decide_false, Bool.true_and, Bool.and_false, Bool.false_or, Bool.true_or] at hf
            repeat' (first 
             | (with_reducible first | refine awp_scope ?_ | refine awp_seq ?_ | refine awp_block ?_)
             | ((with_reducible first | refine awp_label ?_ | refine awp_skip ?_); try simp only [thenA, inBlockA, noGotoA])
             | (with_reducible refine awp_exit ?_; simp only [thenA, inBlockA, noGotoA, if_true, Nat.reduceEqDiff, if_false, ↓reduceIte])
             | (with_reducible refine awp_ret ?_; (try simp only [thenA, inBlockA, noGotoA]); (try simp [-List.reduceReplicate, Nat.add_one_le_iff, -getElem?_pos, -getElem?_neg, List.getElem?_cons_zero, List.getElem?_cons_succ, iC, bC, hlt, h100, i100, c1, c1', c2, c2', c3, c3', hf]))
             | ((with_reducible first | refine awp_reg 42 hX [0, 2, 3, 4, 12] ?_ | change postOf _ _ _ _ _); simp [-List.reduceReplicate, Nat.add_one_le_iff, -getElem?_pos, -getElem?_neg, List.getElem?_cons_zero, List.getElem?_cons_succ, iC, bC, hlt, h100, i100, c1, c1', c2, c2', c3, c3', hf])
             | (with_reducible refine awp_if_b rfl (fun hc => ?_) (fun hc => ?_) <;> (try simp [-getElem?_pos, -getElem?_neg] at hc) <;> (try (exfalso; omega)))
             | ((with_reducible first | refine GuardK_b (fun hc => ?_) (fun hc => ?_)) <;> (try simp only [Bool.not_eq_true', Bool.not_eq_false', decide_eq_true_eq, decide_eq_false_iff_not] at hc) <;> (first | (exfalso; omega) | skip) <;> simp [-List.reduceReplicate, Nat.add_one_le_iff, -getElem?_pos, -getElem?_neg, List.getElem?_cons_zero, List.getElem?_cons_succ, iC, bC, hlt, h100, i100, c1, c1', c2, c2', c3, c3', hf, hc])
             | ((with_reducible first | refine hother _ _ rfl ?_); simp only [inBlockA, thenA, noGotoA, Nat.reduceEqDiff, if_false, if_true, ↓reduceIte])
             | (with_reducible refine And.intro (by omega) ?_)
             | fail)
          · have c3' : ¬ (1050 : Int) < l.length := by omega
            simp only [c1, c2, c3, decide_true, decide_false, Bool.true_and, Bool.and_false, Bool.false_or] at hf
            repeat' (first 
             | (with_reducible first | refine awp_scope ?_ | refine awp_seq ?_ | refine awp_block ?_)
             | ((with_reducible first | refine awp_label ?_ | refine awp_skip ?_); try simp only [thenA, inBlockA, noGotoA])
             | (with_reducible refine awp_exit ?_; simp only [thenA, inBlockA, noGotoA, if_true, Nat.reduceEqDiff, if_false, ↓reduceIte])
             | (with_reducible refine awp_ret ?_; (try simp only [thenA, inBlockA, noGotoA]); (try simp [-List.reduceReplicate, Nat.add_one_le_iff, -getElem?_pos, -getElem?_neg, List.getElem?_cons_zero, List.getElem?_cons_succ, iC, bC, hlt, h100, i100, c1, c1', c2, c2', c3, c3', hf]))
             | ((with_reducible first | refine awp_reg 42 hX [0, 2, 3, 4, 12] ?_ | change postOf _ _ _ _ _); simp [-List.reduceReplicate, Nat.add_one_le_iff, -getElem?_pos, -getElem?_neg, List.getElem?_cons_zero, List.getElem?_cons_succ, iC, bC, hlt, h100, i100, c1, c1', c2, c2', c3, c3', hf])
             | (with_reducible refine awp_if_b rfl (fun hc => ?_) (fun hc => ?_) <;> (try simp [-getElem?_pos, -getElem?_neg] at hc) <;> (try (exfalso; omega)))
             | ((with_reducible first | refine GuardK_b (fun hc => ?_) (fun hc => ?_)) <;> (try simp only [Bool.not_eq_true', Bool.not_eq_false', decide_eq_true_eq, decide_eq_false_iff_not] at hc) <;> (first | (exfalso; omega) | skip) <;> simp [-List.reduceReplicate, Nat.add_one_le_iff, -getElem?_pos, -getElem?_neg, List.getElem?_cons_zero, List.getElem?_cons_succ, iC, bC, hlt, h100, i100, c1, c1', c2, c2', c3, c3', hf, hc])
             | ((with_reducible first | refine hother _ _ rfl ?_); simp only [inBlockA, thenA, noGotoA, Nat.reduceEqDiff, if_false, if_true, ↓reduceIte])
             | (with_reducible refine And.intro (by omega) ?_)
             | fail)
      · have c1' : ¬ (40 : Int) < l.length := by omega
        have c3 : ¬ 1050 < l.length := by omega
        have c3' : ¬ (1050 : Int) < l.length := by omega
        simp only [c1, c3, decide_false, Bool.false_and, Bool.false_or] at hf
        repeat' (first 
         | (with_reducible first | refine awp_scope ?_ | refine awp_seq ?_ | refine awp_block ?_)
         | ((with_reducible first | refine awp_label ?_ | refine awp_skip ?_); try simp only [thenA, inBlockA, noGotoA])
         | (with_reducible refine awp_exit ?_; simp only [thenA, inBlockA, noGotoA, if_true, Nat.reduceEqDiff, if_false, ↓reduceIte])
         | (with_reducible refine awp_ret ?_; (try simp only [thenA, inBlockA, noGotoA]); (try simp [-List.reduceReplicate, Nat.add_one_le_iff, -getElem?_pos, -getElem?_neg, List.getElem?_cons_zero, List.getElem?_cons_succ, iC, bC, hlt, h100, i100, c1, c1', c3, c3', hf]))
         | ((with_reducible first | refine awp_reg 42 hX [0, 2, 3, 4, 12] ?_ | change postOf _ _ _ _ _); simp [-List.reduceReplicate, Nat.add_one_le_iff, -getElem?_pos, -getElem?_neg, List.getElem?_cons_zero, List.getElem?_cons_succ, iC, bC, hlt, h100, i100, c1, c1', c3, c3', hf])
         | (with_reducible refine awp_if_b rfl (fun hc => ?_) (fun hc => ?_) <;> (try simp [-getElem?_pos, -getElem?_neg] at hc) <;> (try (exfalso; omega)))
         | ((with_reducible first | refine GuardK_b (fun hc => ?_) (fun hc => ?_)) <;> (try simp only [Bool.not_eq_true', Bool.not_eq_false', decide_eq_true_eq, decide_eq_false_iff_not] at hc) <;> (first | (exfalso; omega) | skip) <;> simp [-List.reduceReplicate, Nat.add_one_le_iff, -getElem?_pos, -getElem?_neg, List.getElem?_cons_zero, List.getElem?_cons_succ, iC, bC, hlt, h100, i100, c1, c1', c3, c3', hf, hc])
         | ((with_reducible first | refine hother _ _ rfl ?_); simp only [inBlockA, thenA, noGotoA, Nat.reduceEqDiff, if_false, if_true, ↓reduceIte])
         | (with_reducible refine And.intro (by omega) ?_)
         | fail)
  · have hi2 : min l.length 100 = i := by omega
    rw [hi2] at hf
    by_cases c1 : 40 < l.length
    · have c1' : (40 : Int) < l.length := by omega
      by_cases c2 : l.length ≤ 1024
      · have c2' : (l.length : Int) ≤ 1024 := by omega
        simp only [c1, c2, decide_true, Bool.true_and, Bool.true_or] at hf
        repeat' (first 
         | (with_reducible first | refine awp_scope ?_ | refine awp_seq ?_ | refine awp_block ?_)
         | ((with_reducible first | refine awp_label ?_ | refine awp_skip ?_); try simp only [thenA, inBlockA, noGotoA])
         | (with_reducible refine awp_exit ?_; simp only [thenA, inBlockA, noGotoA, if_true, Nat.reduceEqDiff, if_false, ↓reduceIte])
         | (with_reducible refine awp_ret ?_; (try simp only [thenA, inBlockA, noGotoA]); (try simp [-List.reduceReplicate, Nat.add_one_le_iff, -getElem?_pos, -getElem?_neg, List.getElem?_cons_zero, List.getElem?_cons_succ, iC, bC, hlt, c1, c1', c2, c2', hf]))
         | ((with_reducible first | refine awp_reg 42 hX [0, 2, 3, 4, 12] ?_ | change postOf _ _ _ _ _); simp [-List.reduceReplicate, Nat.add_one_le_iff, -getElem?_pos, -getElem?_neg, List.getElem?_cons_zero, List.getElem?_cons_succ, iC, bC, hlt, c1, c1', c2, c2', hf])
         | (with_reducible refine awp_if_b rfl (fun hc => ?_) (fun hc => ?_) <;> (try simp [-getElem?_pos, -getElem?_neg] at hc) <;> (try (exfalso; omega)))
         | ((with_reducible first | refine GuardK_b (fun hc => ?_) (fun hc => ?_)) <;> (try simp only [Bool.not_eq_true', Bool.not_eq_false', decide_eq_true_eq, decide_eq_false_iff_not] at hc) <;> (first | (exfalso; omega) | skip) <;> simp [-List.reduceReplicate, Nat.add_one_le_iff, -getElem?_pos, -getElem?_neg, List.getElem?_cons_zero, List.getElem?_cons_succ, iC, bC, hlt, c1, c1', c2, c2', hf, hc])
         | ((with_reducible first | refine hother _ _ rfl ?_); simp only [inBlockA, thenA, noGotoA, Nat.reduceEqDiff, if_false, if_true, ↓reduceIte])
         | (with_reducible refine And.intro (by omega) ?_)
         | fail)
      · have c2' : ¬ (l.length : Int) ≤ 1024 := by omega
        by_cases c3 : 1050 < l.length
        · have c3' : (1050 : Int) < l.length := by omega
          simp only [c1, c2, c3, decide_true, decide_false, Bool.true_and, Bool.and_false, Bool.false_or, Bool.true_or] at hf
          repeat' (first 
           | (with_reducible first | refine awp_scope ?_ | refine awp_seq ?_ | refine awp_block ?_)
           | ((with_reducible first | refine awp_label ?_ | refine awp_skip ?_); try simp only [thenA, inBlockA, noGotoA])
           | (with_reducible refine awp_exit ?_; simp only [thenA, inBlockA, noGotoA, if_true, Nat.reduceEqDiff, if_false, ↓reduceIte])
           | (with_reducible refine awp_ret ?_; (try simp only [thenA, inBlockA, noGotoA]); (try simp [-List.reduceReplicate, Nat.add_one_le_iff, -getElem?_pos, -getElem?_neg, List.getElem?_cons_zero, List.getElem?_cons_succ, iC, bC, hlt, c1, c1', c2, c2', c3, c3', hf]))
           | ((with_reducible first | refine awp_reg 42 hX [0, 2, 3, 4, 12] ?_ | change postOf _ _ _ _ _); simp [-List.reduceReplicate, Nat.add_one_le_iff, -getElem?_pos, -getElem?_neg, List.getElem?_cons_zero, List.getElem?_cons_succ, iC, bC, hlt, c1, c1', c2, c2', c3, c3', hf])
           | (with_reducible refine awp_if_b rfl (fun hc => ?_) (fun hc => ?_) <;> (try simp [-getElem?_pos, -getElem?_neg] at hc) <;> (try (exfalso; omega)))
           | ((with_reducible first | refine GuardK_b (fun hc => ?_) (fun hc => ?_)) <;> (try simp only [Bool.not_eq_true', Bool.not_eq_false', decide_eq_true_eq, decide_eq_false_iff_not] at hc) <;> (first | (exfalso; omega) | skip) <;> simp [-List.reduceReplicate, Nat.add_one_le_iff, -getElem?_pos, -getElem?_neg, List.getElem?_cons_zero, List.getElem?_cons_succ, iC, bC, hlt, c1, c1', c2, c2', c3, c3', hf, hc])
           | ((with_reducible first | refine hother _ _ rfl ?_); simp only [inBlockA, thenA, noGotoA, Nat.reduceEqDiff, if_false, if_true, ↓reduceIte])
           | (with_reducible refine And.intro (by omega) ?_)
           | fail)
        · have c3' : ¬ (1050 : Int) < l.length := by omega
          simp only [c1, c2, c3, decide_true, decide_false, Bool.true_and, Bool.and_false, Bool.false_or] at hf
          repeat' (first 
           | (with_reducible first | refine awp_scope ?_ | refine awp_seq ?_ | refine awp_block ?_)
           | ((with_reducible first | refine awp_label ?_ | refine awp_skip ?_); try simp only [thenA, inBlockA, noGotoA])
           | (with_reducible refine awp_exit ?_; simp only [thenA, inBlockA, noGotoA, if_true, Nat.reduceEqDiff, if_false, ↓reduceIte])
           | (with_reducible refine awp_ret ?_; (try simp only [thenA, inBlockA, noGotoA]); (try simp [-List.reduceReplicate, Nat.add_one_le_iff, -getElem?_pos, -getElem?_neg, List.getElem?_cons_zero, List.getElem?_cons_succ, iC, bC, hlt, c1, c1', c2, c2', c3, c3', hf]))
           | ((with_reducible first | refine awp_reg 42 hX [0, 2, 3, 4, 12] ?_ | change postOf _ _ _ _ _); simp [-List.reduceReplicate, Nat.add_one_le_iff, -getElem?_pos, -getElem?_neg, List.getElem?_cons_zero, List.getElem?_cons_succ, iC, bC, hlt, c1, c1', c2, c2', c3, c3', hf])
           | (with_reducible refine awp_if_b rfl (fun hc => ?_) (fun hc => ?_) <;> (try simp [-getElem?_pos, -getElem?_neg] at hc) <;> (try (exfalso; omega)))
           | ((with_reducible first | refine GuardK_b (fun hc => ?_) (fun hc => ?_)) <;> (try simp only [Bool.not_eq_true', Bool.not_eq_false', decide_eq_true_eq, decide_eq_false_iff_not] at hc) <;> (first | (exfalso; omega) | skip) <;> simp [-List.reduceReplicate, Nat.add_one_le_iff, -getElem?_pos, -getElem?_neg, List.getElem?_cons_zero, List.getElem?_cons_succ, iC, bC, hlt, c1, c1', c2, c2', c3, c3', hf, hc])
           | ((with_reducible first | refine hother _ _ rfl ?_); simp only [inBlockA, thenA, noGotoA, Nat.reduceEqDiff, if_false, if_true, ↓reduceIte])
           | (with_reducible refine And.intro (by omega) ?_)
           | fail)
    · have c1' : ¬ (40 : Int) < l.length := by omega
      have c3 : ¬ 1050 < l.length := by omega
      have c3' : ¬ (1050 : Int) < l.length := by omega
      simp only [c1, c3, decide_false, Bool.false_and, Bool.false_or] at hf
      repeat' (first 
       | (with_reducible first | refine awp_scope ?_ | refine awp_seq ?_ | refine awp_block ?_)
       | ((with_reducible first | refine awp_label ?_ | refine awp_skip ?_); try simp only [thenA, inBlockA, noGotoA])
       | (with_reducible refine awp_exit ?_; simp only [thenA, inBlockA, noGotoA, if_true, Nat.reduceEqDiff, if_false, ↓reduceIte])
       | (with_reducible refine awp_ret ?_; (try simp only [thenA, inBlockA, noGotoA]); (try simp [-List.reduceReplicate, Nat.add_one_le_iff, -getElem?_pos, -getElem?_neg, List.getElem?_cons_zero, List.getElem?_cons_succ, iC, bC, hlt, c1, c1', c3, c3', hf]))
       | ((with_reducible first | refine awp_reg 42 hX [0, 2, 3, 4, 12] ?_ | change postOf _ _ _ _ _); simp [-List.reduceReplicate, Nat.add_one_le_iff, -getElem?_pos, -getElem?_neg, List.getElem?_cons_zero, List.getElem?_cons_succ, iC, bC, hlt, c1, c1', c3, c3', hf])
       | (with_reducible refine awp_if_b rfl (fun hc => ?_) (fun hc => ?_) <;> (try simp [-getElem?_pos, -getElem?_neg] at hc) <;> (try (exfalso; omega)))
       | ((with_reducible first | refine GuardK_b (fun hc => ?_) (fun hc => ?_)) <;> (try simp only [Bool.not_eq_true', Bool.not_eq_false', decide_eq_true_eq, decide_eq_false_iff_not] at hc) <;> (first | (exfalso; omega) | skip) <;> simp [-List.reduceReplicate, Nat.add_one_le_iff, -getElem?_pos, -getElem?_neg, List.getElem?_cons_zero, List.getElem?_cons_succ, iC, bC, hlt, c1, c1', c3, c3', hf, hc])
       | ((with_reducible first | refine hother _ _ rfl ?_); simp only [inBlockA, thenA, noGotoA, Nat.reduceEqDiff, if_false, if_true, ↓reduceIte])
       | (with_reducible refine And.intro (by omega) ?_)
       | fail)
set_option maxHeartbeats 4000000 in
theorem duelOf_fn (t : List UInt8) (ht : t.length = 32) (l : List ST) (hok : STok l) (n : Nat) (full : Bool) (hn : l.length = n) (hN : n ≤ 1000000) :
    DenV Try.prog 52 [hashM t, .c (.sl (stsC l) n full)] (.agg (up [.sl (hsC (idsH l)) n false, .sl ((levs t (idsH l)).map iC) n false])) := by
  refine Den.frame (by simp [ltBs, ltB, lt_hash]) rfl ?_
  have p1 := joinIds_den l hok n full hn hN
  have p2 := upLevels_den t ht l hok n full hn hN
  have tt := hash_take t ht
  have lt_ : (t.map bC8).length = 32 := by simp [ht]
  unfold hashM at *
  generalize t.map bC8 = tc at *
  generalize hsC (idsH l) = hc at *
  generalize (levs t (idsH l)).map iC = lc at *
  generalize stsC l = cs at *
  have hu : ∀ a b : C, up [a, b] = [M.c a, M.c b] := fun _ _ => rfl
  refine den_of Try.func52 rfl rfl (by simp [Try.ntmps52]) (fun X hX hO => ?_)
  rw [Try.ntmps52] at hX
  simp only [Try.results52]
  repeat' (first 
   | (with_reducible first | refine awp_scope ?_ | refine awp_seq ?_ | refine awp_block ?_)
   | ((with_reducible first | refine awp_label ?_ | refine awp_skip ?_); try simp only [thenA, inBlockA, noGotoA])
   | (with_reducible refine awp_exit ?_; simp only [thenA, inBlockA, noGotoA, if_true, Nat.reduceEqDiff, if_false, ↓reduceIte])
   | (with_reducible refine awp_ret ?_; (try simp only [thenA, inBlockA, noGotoA]); (try simp [-List.reduceReplicate, Nat.add_one_le_iff, -getElem?_pos, -getElem?_neg, List.getElem?_cons_zero, List.getElem?_cons_succ, iC, lt_, tt, hu]))
   | ((with_reducible first | refine awp_reg 11 hX [1, 2, 4] ?_ | refine awp_drw 11 hX [1, 2, 4] Tab.mixed (by kernel_rfl) ?_ | refine DEv_cut _ _ _ _ _ _ _ _ _ _ _ _ (by kernel_rfl) ?_ | change postOf _ _ _ _ _); simp [-List.reduceReplicate, Nat.add_one_le_iff, -getElem?_pos, -getElem?_neg, List.getElem?_cons_zero, List.getElem?_cons_succ, iC, lt_, tt, hu])
   | ((first | (refine (p1 _).det ?_) | (refine ⟨_, _, p1 _, fun _ => rfl, ?_⟩) | (refine (p2 _).det ?_) | (refine ⟨_, _, p2 _, fun _ => rfl, ?_⟩)); try simp [-List.reduceReplicate, Nat.add_one_le_iff, -getElem?_pos, -getElem?_neg, List.getElem?_cons_zero, List.getElem?_cons_succ, iC, lt_, tt, hu])
   | (with_reducible refine awp_if_b rfl (fun hc => ?_) (fun hc => ?_) <;> (try simp [-getElem?_pos, -getElem?_neg] at hc) <;> (try (exfalso; omega)))
   | ((with_reducible first | refine GuardK_b (fun hc => ?_) (fun hc => ?_) | refine DGuard_b _ _ _ _ _ _ _ _ _ _ (fun hc => ?_) (fun hc => ?_)) <;> (try simp only [Bool.not_eq_true', Bool.not_eq_false', decide_eq_true_eq, decide_eq_false_iff_not] at hc) <;> (first | (exfalso; omega) | skip) <;> simp [-List.reduceReplicate, Nat.add_one_le_iff, -getElem?_pos, -getElem?_neg, List.getElem?_cons_zero, List.getElem?_cons_succ, iC, lt_, tt, hu, hc])
   | (with_reducible refine And.intro (by omega) ?_)
   | fail)
set_option maxHeartbeats 4000000 in
theorem upLevelsLaw_den (t : List UInt8) (ht : t.length = 32) (l : List ST) (hok : STok l) (ob : List Ob) : Den Try.prog 13 [hashM t, .c (.sl (stsC l) l.length false)] ob (fun r ob' => r = .c (bC true) ∧ ob' = ob) := by
  refine Den.frame (by simp [ltBs, ltB, lt_hash]) rfl ?_ ob
  have m1 := much30_den l
  have aw := awake38_den
  have tt := hash_take t ht
  have lt_ : (t.map bC8).length = 32 := by simp [ht]
  cases hm : muchS l
  · rw [hm] at m1
    have hl := muchS_no hm
    have p1 := upLevels_den t ht l hok l.length false rfl (by omega)
    have p2 := ids33_den l hok l.length false rfl (by omega)
    have p3 := levels22_den t ht (idsH l) l.length false (idsH_len l) (by omega)
    have p4 := same_den (levs t (idsH l)) (levs t (idsH l)) [⟨71, 1, false, 0, up (t.map bC8), none⟩] (by rw [levs_len, idsH_len]; omega)
    unfold intsC at p4
    rw [levs_len, idsH_len] at p4
    simp only [decide_true] at p4
    unfold hashM at *
    generalize t.map bC8 = tc at *
    generalize hsC (idsH l) = hc at *
    generalize (levs t (idsH l)).map iC = lc at *
    generalize stsC l = cs at *
    refine den_of Try.func13 rfl rfl (by simp [Try.ntmps13]) (fun X hX hO => ?_)
    rw [Try.ntmps13] at hX
    simp only [Try.results13]
    repeat' (first 
     | (with_reducible first | refine awp_scope ?_ | refine awp_seq ?_ | refine awp_block ?_)
     | ((with_reducible first | refine awp_label ?_ | refine awp_skip ?_); try simp only [thenA, inBlockA, noGotoA])
     | (with_reducible refine awp_exit ?_; simp only [thenA, inBlockA, noGotoA, if_true, Nat.reduceEqDiff, if_false, ↓reduceIte])
     | (with_reducible refine awp_ret ?_; (try simp only [thenA, inBlockA, noGotoA]); (try simp [-List.reduceReplicate, Nat.add_one_le_iff, -getElem?_pos, -getElem?_neg, List.getElem?_cons_zero, List.getElem?_cons_succ, bC, lt_, tt]))
     | ((with_reducible first | refine awp_reg 19 hX [1, 2, 4, 6] ?_ | refine awp_drw 19 hX [1, 2, 4, 6] Tab.mixed (by kernel_rfl) ?_ | refine DEv_cut _ _ _ _ _ _ _ _ _ _ _ _ (by kernel_rfl) ?_ | change postOf _ _ _ _ _); simp [-List.reduceReplicate, Nat.add_one_le_iff, -getElem?_pos, -getElem?_neg, List.getElem?_cons_zero, List.getElem?_cons_succ, bC, lt_, tt])
     | ((first | (refine (m1 _).det ?_) | (refine ⟨_, _, m1 _, fun _ => rfl, ?_⟩) | (refine (p1 _).det ?_) | (refine ⟨_, _, p1 _, fun _ => rfl, ?_⟩) | (refine (p2 _).det ?_) | (refine ⟨_, _, p2 _, fun _ => rfl, ?_⟩) | (refine (p3 _).det ?_) | (refine ⟨_, _, p3 _, fun _ => rfl, ?_⟩) | (refine (p4).det ?_) | (refine ⟨_, _, p4, fun _ => rfl, ?_⟩) | (refine (aw _).det ?_) | (refine ⟨_, _, aw _, fun _ => rfl, ?_⟩)); try simp [-List.reduceReplicate, Nat.add_one_le_iff, -getElem?_pos, -getElem?_neg, List.getElem?_cons_zero, List.getElem?_cons_succ, bC, lt_, tt])
     | (with_reducible refine awp_if_b rfl (fun hc => ?_) (fun hc => ?_) <;> (try simp [-getElem?_pos, -getElem?_neg] at hc) <;> (try (exfalso; omega)))
     | ((with_reducible first | refine GuardK_b (fun hc => ?_) (fun hc => ?_) | refine DGuard_b _ _ _ _ _ _ _ _ _ _ (fun hc => ?_) (fun hc => ?_)) <;> (try simp only [Bool.not_eq_true', Bool.not_eq_false', decide_eq_true_eq, decide_eq_false_iff_not] at hc) <;> (first | (exfalso; omega) | skip) <;> simp [-List.reduceReplicate, Nat.add_one_le_iff, -getElem?_pos, -getElem?_neg, List.getElem?_cons_zero, List.getElem?_cons_succ, bC, lt_, tt, hc])
     | (with_reducible refine And.intro (by omega) ?_)
     | fail)
  · rw [hm] at m1
    unfold hashM at *
    refine den_of Try.func13 rfl rfl (by simp [Try.ntmps13]) (fun X hX hO => ?_)
    rw [Try.ntmps13] at hX
    simp only [Try.results13]
    repeat' (first 
     | (with_reducible first | refine awp_scope ?_ | refine awp_seq ?_ | refine awp_block ?_)
     | ((with_reducible first | refine awp_label ?_ | refine awp_skip ?_); try simp only [thenA, inBlockA, noGotoA])
     | (with_reducible refine awp_exit ?_; simp only [thenA, inBlockA, noGotoA, if_true, Nat.reduceEqDiff, if_false, ↓reduceIte])
     | (with_reducible refine awp_ret ?_; (try simp only [thenA, inBlockA, noGotoA]); (try simp [-List.reduceReplicate, Nat.add_one_le_iff, -getElem?_pos, -getElem?_neg, List.getElem?_cons_zero, List.getElem?_cons_succ, bC, lt_, tt]))
     | ((with_reducible first | refine awp_reg 19 hX [1, 2, 4, 6] ?_ | refine awp_drw 19 hX [1, 2, 4, 6] Tab.mixed (by kernel_rfl) ?_ | refine DEv_cut _ _ _ _ _ _ _ _ _ _ _ _ (by kernel_rfl) ?_ | change postOf _ _ _ _ _); simp [-List.reduceReplicate, Nat.add_one_le_iff, -getElem?_pos, -getElem?_neg, List.getElem?_cons_zero, List.getElem?_cons_succ, bC, lt_, tt])
     | ((first | (refine (m1 _).det ?_) | (refine ⟨_, _, m1 _, fun _ => rfl, ?_⟩) | (refine (aw _).det ?_) | (refine ⟨_, _, aw _, fun _ => rfl, ?_⟩)); try simp [-List.reduceReplicate, Nat.add_one_le_iff, -getElem?_pos, -getElem?_neg, List.getElem?_cons_zero, List.getElem?_cons_succ, bC, lt_, tt])
     | (with_reducible refine awp_if_b rfl (fun hc => ?_) (fun hc => ?_) <;> (try simp [-getElem?_pos, -getElem?_neg] at hc) <;> (try (exfalso; omega)))
     | ((with_reducible first | refine GuardK_b (fun hc => ?_) (fun hc => ?_) | refine DGuard_b _ _ _ _ _ _ _ _ _ _ (fun hc => ?_) (fun hc => ?_)) <;> (try simp only [Bool.not_eq_true', Bool.not_eq_false', decide_eq_true_eq, decide_eq_false_iff_not] at hc) <;> (first | (exfalso; omega) | skip) <;> simp [-List.reduceReplicate, Nat.add_one_le_iff, -getElem?_pos, -getElem?_neg, List.getElem?_cons_zero, List.getElem?_cons_succ, bC, lt_, tt, hc])
     | (with_reducible refine And.intro (by omega) ?_)
     | fail)
set_option maxHeartbeats 4000000 in
theorem duelOfLaw_den (t : List UInt8) (ht : t.length = 32) (l : List ST) (hok : STok l) (ob : List Ob) : Den Try.prog 14 [hashM t, .c (.sl (stsC l) l.length false)] ob (fun r ob' => r = .c (bC true) ∧ ob' = ob) := by
  refine Den.frame (by simp [ltBs, ltB, lt_hash]) rfl ?_ ob
  have m1 := much30_den l
  have aw := awake42_den
  have tt := hash_take t ht
  have lt_ : (t.map bC8).length = 32 := by simp [ht]
  cases hm : muchS l
  · rw [hm] at m1
    have hl := muchS_no hm
    have p1 := duelOf_fn t ht l hok l.length false rfl (by omega)
    have p2 := ids33_den l hok l.length false rfl (by omega)
    have p3 := levels22_den t ht (idsH l) l.length false (idsH_len l) (by omega)
    have p4 := fun ob => same_den (levs t (idsH l)) (levs t (idsH l)) ob (by rw [levs_len, idsH_len]; omega)
    have p5 := hashes_den (idsH l) (idsH l) l.length l.length false false (idsH_len l) (idsH_len l) (by omega) (by omega)
    unfold intsC at p4
    rw [levs_len, idsH_len] at p4
    simp only [decide_true] at p4 p5
    unfold hashM at *
    generalize t.map bC8 = tc at *
    generalize hsC (idsH l) = hc at *
    generalize (levs t (idsH l)).map iC = lc at *
    generalize stsC l = cs at *
    have hu : ∀ a b : C, up [a, b] = [M.c a, M.c b] := fun _ _ => rfl
    refine den_of Try.func14 rfl rfl (by simp [Try.ntmps14]) (fun X hX hO => ?_)
    rw [Try.ntmps14] at hX
    simp only [Try.results14]
    repeat' (first 
     | (with_reducible first | refine awp_scope ?_ | refine awp_seq ?_ | refine awp_block ?_)
     | ((with_reducible first | refine awp_label ?_ | refine awp_skip ?_); try simp only [thenA, inBlockA, noGotoA])
     | (with_reducible refine awp_exit ?_; simp only [thenA, inBlockA, noGotoA, if_true, Nat.reduceEqDiff, if_false, ↓reduceIte])
     | (with_reducible refine awp_ret ?_; (try simp only [thenA, inBlockA, noGotoA]); (try simp [-List.reduceReplicate, Nat.add_one_le_iff, -getElem?_pos, -getElem?_neg, List.getElem?_cons_zero, List.getElem?_cons_succ, bC, lt_, tt, hu]))
     | ((with_reducible first | refine awp_reg 30 hX [1, 2, 4, 5, 6, 8] ?_ | refine awp_drw 30 hX [1, 2, 4, 5, 6, 8] Tab.mixed (by kernel_rfl) ?_ | refine DEv_cut _ _ _ _ _ _ _ _ _ _ _ _ (by kernel_rfl) ?_ | change postOf _ _ _ _ _); simp [-List.reduceReplicate, Nat.add_one_le_iff, -getElem?_pos, -getElem?_neg, List.getElem?_cons_zero, List.getElem?_cons_succ, bC, lt_, tt, hu])
     | ((first | (refine (m1 _).det ?_) | (refine ⟨_, _, m1 _, fun _ => rfl, ?_⟩) | (refine (p1 _).det ?_) | (refine ⟨_, _, p1 _, fun _ => rfl, ?_⟩) | (refine (p2 _).det ?_) | (refine ⟨_, _, p2 _, fun _ => rfl, ?_⟩) | (refine (p3 _).det ?_) | (refine ⟨_, _, p3 _, fun _ => rfl, ?_⟩) | (refine (p4 _).det ?_) | (refine ⟨_, _, p4 _, fun _ => rfl, ?_⟩) | (refine (p5 _).det ?_) | (refine ⟨_, _, p5 _, fun _ => rfl, ?_⟩) | (refine (aw _).det ?_) | (refine ⟨_, _, aw _, fun _ => rfl, ?_⟩)); try simp [-List.reduceReplicate, Nat.add_one_le_iff, -getElem?_pos, -getElem?_neg, List.getElem?_cons_zero, List.getElem?_cons_succ, bC, lt_, tt, hu])
     | (with_reducible refine awp_if_b rfl (fun hc => ?_) (fun hc => ?_) <;> (try simp [-getElem?_pos, -getElem?_neg] at hc) <;> (try (exfalso; omega)))
     | ((with_reducible first | refine GuardK_b (fun hc => ?_) (fun hc => ?_) | refine DGuard_b _ _ _ _ _ _ _ _ _ _ (fun hc => ?_) (fun hc => ?_)) <;> (try simp only [Bool.not_eq_true', Bool.not_eq_false', decide_eq_true_eq, decide_eq_false_iff_not] at hc) <;> (first | (exfalso; omega) | skip) <;> simp [-List.reduceReplicate, Nat.add_one_le_iff, -getElem?_pos, -getElem?_neg, List.getElem?_cons_zero, List.getElem?_cons_succ, bC, lt_, tt, hu, hc])
     | (with_reducible refine And.intro (by omega) ?_)
     | fail)
  · rw [hm] at m1
    unfold hashM at *
    refine den_of Try.func14 rfl rfl (by simp [Try.ntmps14]) (fun X hX hO => ?_)
    rw [Try.ntmps14] at hX
    simp only [Try.results14]
    repeat' (first 
     | (with_reducible first | refine awp_scope ?_ | refine awp_seq ?_ | refine awp_block ?_)
     | ((with_reducible first | refine awp_label ?_ | refine awp_skip ?_); try simp only [thenA, inBlockA, noGotoA])
     | (with_reducible refine awp_exit ?_; simp only [thenA, inBlockA, noGotoA, if_true, Nat.reduceEqDiff, if_false, ↓reduceIte])
     | (with_reducible refine awp_ret ?_; (try simp only [thenA, inBlockA, noGotoA]); (try simp [-List.reduceReplicate, Nat.add_one_le_iff, -getElem?_pos, -getElem?_neg, List.getElem?_cons_zero, List.getElem?_cons_succ, bC, lt_, tt]))
     | ((with_reducible first | refine awp_reg 30 hX [1, 2, 4, 5, 6, 8] ?_ | refine awp_drw 30 hX [1, 2, 4, 5, 6, 8] Tab.mixed (by kernel_rfl) ?_ | refine DEv_cut _ _ _ _ _ _ _ _ _ _ _ _ (by kernel_rfl) ?_ | change postOf _ _ _ _ _); simp [-List.reduceReplicate, Nat.add_one_le_iff, -getElem?_pos, -getElem?_neg, List.getElem?_cons_zero, List.getElem?_cons_succ, bC, lt_, tt])
     | ((first | (refine (m1 _).det ?_) | (refine ⟨_, _, m1 _, fun _ => rfl, ?_⟩) | (refine (aw _).det ?_) | (refine ⟨_, _, aw _, fun _ => rfl, ?_⟩)); try simp [-List.reduceReplicate, Nat.add_one_le_iff, -getElem?_pos, -getElem?_neg, List.getElem?_cons_zero, List.getElem?_cons_succ, bC, lt_, tt])
     | (with_reducible refine awp_if_b rfl (fun hc => ?_) (fun hc => ?_) <;> (try simp [-getElem?_pos, -getElem?_neg] at hc) <;> (try (exfalso; omega)))
     | ((with_reducible first | refine GuardK_b (fun hc => ?_) (fun hc => ?_) | refine DGuard_b _ _ _ _ _ _ _ _ _ _ (fun hc => ?_) (fun hc => ?_)) <;> (try simp only [Bool.not_eq_true', Bool.not_eq_false', decide_eq_true_eq, decide_eq_false_iff_not] at hc) <;> (first | (exfalso; omega) | skip) <;> simp [-List.reduceReplicate, Nat.add_one_le_iff, -getElem?_pos, -getElem?_neg, List.getElem?_cons_zero, List.getElem?_cons_succ, bC, lt_, tt, hc])
     | (with_reducible refine And.intro (by omega) ?_)
     | fail)
theorem opens_opening {P : Program} {t ti tl th tb : TypeId} {fs : Array Field} (ht : P.underlying t = some (.struct fs)) (hi : P.underlying ti = some (.int .i64)) (hl : P.underlying tl = some (.slice th)) (hh : P.underlying th = some (.array 32 tb)) (hb : P.underlying tb = some (.int .u8))
    (f0 : (fs[0]?).map (fun f => (f.offset, f.type)) = some (0, ti)) (f1 : (fs[1]?).map (fun f => (f.offset, f.type)) = some (1, ti)) (f2 : (fs[2]?).map (fun f => (f.offset, f.type)) = some (2, tl)) (c0 : P.cellsOf t = 3) (c1 : P.cellsOf ti = 1) (c2 : P.cellsOf tl = 1) (c3 : P.cellsOf th = 32) (c4 : P.cellsOf tb = 1) :
    Opens P t (fun p : Int × Int × List H32 => [iC p.1, iC p.2.1, .sl (hsC p.2.2) p.2.2.length false]) (fun p => (Lit.int .i64 p.1).wf = true ∧ (Lit.int .i64 p.2.1).wf = true ∧ p.2.2.length ≤ maxLen) :=
  (((seg_field 0 0 1 ht f0 c1 (opens_int hi)).app ((seg_field 1 1 1 ht f1 c1 (opens_int hi)).app (seg_field 2 2 1 ht f2 c2 (opens_hashes hl hh hb c4 c3)) (fun _ => rfl)) (fun _ => rfl)).opens ht c0).conv fun p hp => ⟨p, ⟨hp.1, hp.2.1, hp.2.2.1⟩, rfl⟩
theorem opens_step {P : Program} {t to_ ti tl th tb tH tv tn : TypeId} {fs fo fh : Array Field} (ht : P.underlying t = some (.struct fs)) (hto : P.underlying to_ = some (.struct fo)) (hi : P.underlying ti = some (.int .i64)) (hl : P.underlying tl = some (.slice th)) (hh : P.underlying th = some (.array 32 tb)) (hb : P.underlying tb = some (.int .u8))
    (hH : P.underlying tH = some (.struct fh)) (hv' : P.underlying tv = some (.int .u32)) (hn : P.underlying tn = some (.int .u64))
    (s0 : (fs[0]?).map (fun f => (f.offset, f.type)) = some (0, tH)) (s1 : (fs[1]?).map (fun f => (f.offset, f.type)) = some (66, to_)) (k0 : P.cellsOf t = 69) (k1 : P.cellsOf tH = 66) (k2 : P.cellsOf to_ = 3)
    (f0 : (fo[0]?).map (fun f => (f.offset, f.type)) = some (0, ti)) (f1 : (fo[1]?).map (fun f => (f.offset, f.type)) = some (1, ti)) (f2 : (fo[2]?).map (fun f => (f.offset, f.type)) = some (2, tl)) (c1 : P.cellsOf ti = 1) (c2 : P.cellsOf tl = 1) (c3 : P.cellsOf th = 32) (c4 : P.cellsOf tb = 1)
    (d1 : P.cellsOf tv = 1) (d4 : P.cellsOf tn = 1) (g0 : (fh[0]?).map (fun f => (f.offset, f.type)) = some (0, tv)) (g1 : (fh[1]?).map (fun f => (f.offset, f.type)) = some (1, th)) (g2 : (fh[2]?).map (fun f => (f.offset, f.type)) = some (33, th)) (g3 : (fh[3]?).map (fun f => (f.offset, f.type)) = some (65, tn)) (gs : fh.size = 4) :
    Opens P t stC' (fun s => HDok s.h) :=
  (((seg_field 0 0 66 ht s0 k1 (opens_header hH hv' hh hb hn d1 c3 c4 d4 k1 g0 g1 g2 g3 gs)).app (seg_field 1 66 3 ht s1 k2 (opens_opening hto hi hl hh hb f0 f1 f2 k2 c1 c2 c3 c4)) hdC_len).opens ht k0).conv fun p hp => ⟨⟨p.1, p.2.1, p.2.2.1, p.2.2.2⟩, hp.1, rfl⟩
theorem opens_steps {P : Program} {s t to_ ti tl th tb tH tv tn : TypeId} {fs fo fh : Array Field} (hs : P.underlying s = some (.slice t)) (ht : P.underlying t = some (.struct fs)) (hto : P.underlying to_ = some (.struct fo)) (hi : P.underlying ti = some (.int .i64)) (hl : P.underlying tl = some (.slice th)) (hh : P.underlying th = some (.array 32 tb)) (hb : P.underlying tb = some (.int .u8))
    (hH : P.underlying tH = some (.struct fh)) (hv' : P.underlying tv = some (.int .u32)) (hn : P.underlying tn = some (.int .u64))
    (s0 : (fs[0]?).map (fun f => (f.offset, f.type)) = some (0, tH)) (s1 : (fs[1]?).map (fun f => (f.offset, f.type)) = some (66, to_)) (k0 : P.cellsOf t = 69) (k1 : P.cellsOf tH = 66) (k2 : P.cellsOf to_ = 3)
    (f0 : (fo[0]?).map (fun f => (f.offset, f.type)) = some (0, ti)) (f1 : (fo[1]?).map (fun f => (f.offset, f.type)) = some (1, ti)) (f2 : (fo[2]?).map (fun f => (f.offset, f.type)) = some (2, tl)) (c1 : P.cellsOf ti = 1) (c2 : P.cellsOf tl = 1) (c3 : P.cellsOf th = 32) (c4 : P.cellsOf tb = 1)
    (d1 : P.cellsOf tv = 1) (d4 : P.cellsOf tn = 1) (g0 : (fh[0]?).map (fun f => (f.offset, f.type)) = some (0, tv)) (g1 : (fh[1]?).map (fun f => (f.offset, f.type)) = some (1, th)) (g2 : (fh[2]?).map (fun f => (f.offset, f.type)) = some (33, th)) (g3 : (fh[3]?).map (fun f => (f.offset, f.type)) = some (65, tn)) (gs : fh.size = 4) :
    Opens P s (fun l : List ST => [.sl (stsC l) l.length false]) (fun l => l.length ≤ maxLen ∧ ∀ s ∈ l, HDok s.h) :=
  opens_slice hs (fun a => by rw [k0]; exact stC_len a) (opens_step ht hto hi hl hh hb hH hv' hn s0 s1 k0 k1 k2 f0 f1 f2 c1 c2 c3 c4 d1 d4 g0 g1 g2 g3 gs)
end Go.Av
