/- 2 texts of the program logic over abstract values, joined: each is proved without any condition beyond its own words. -/
import Derived.Test.YtofomnllcmgfeaaAvTU3
import Derived.Test.YtofomnllcmgfeaaAvWalk1
import Derived.Test.YtofomnllcmgfeaaAvEngine3
set_option exponentiation.threshold 1000
set_option linter.unusedVariables false
set_option linter.unusedSimpArgs false
set_option maxRecDepth 100000
set_option maxHeartbeats 4000000
namespace Go.Av
open Go Go.Proofs Go.Proofs.Ytofomnllcmgfeaa Go.RowKit
/-! ### up: the document's answer, the laws -/
open Go.Av.Up (pl hit)
def plT (zs : List Int) (from_ level : Int) (k : Nat) : List Int := (pl zs from_ level k).map fun x : Nat => (x : Int)
theorem plT_all (zs : List Int) (from_ level : Int) : plT zs from_ level zs.length = plI zs from_ level := rfl
theorem plT_0 (zs : List Int) (from_ level : Int) : plT zs from_ level 0 = [] := by
  simp [plT, pl]
theorem plT_succ (zs : List Int) (from_ level : Int) (k : Nat) (x : Int) (h : zs[k]? = some x) : plT zs from_ level (k + 1) = plT zs from_ level k ++ if from_ ≤ (k : Int) ∧ level ≤ x then [(k : Int)] else [] := by
  have hk := (List.getElem?_eq_some_iff.1 h).1
  have e : zs[k]?.getD 0 = x := by rw [h]; rfl
  unfold plT
  by_cases h2 : level ≤ x
  · by_cases h1 : from_ ≤ (k : Int)
    · rw [Up.pl_yes hk h1 (by rw [e]; exact h2), if_pos ⟨h1, h2⟩, List.map_append]; rfl
    · rw [if_neg (fun q => h1 q.1), List.append_nil]
      congr 1
      unfold pl
      rw [show min (k + 1) zs.length = k + 1 by omega, show min k zs.length = k by omega, List.range_succ, List.filter_append]
      simp [List.filter_cons, hit, h1]
  · rw [Up.pl_no hk (by rw [e]; exact h2), if_neg (fun q => h2 q.2), List.append_nil]
theorem plT_len (zs : List Int) (from_ level : Int) (k : Nat) : (plT zs from_ level k).length ≤ k := by
  unfold plT
  rw [List.length_map]
  exact Up.pl_len _ _ _ _
set_option maxHeartbeats 4000000 in
theorem count38_den (zs : List Int) (level : Int) (hn : zs.length ≤ 1000000) : DenV Try.prog 84 [.c (intsC zs), .c (iC level)] (.c (iC ((plI zs 0 level).length : Int))) := by
  refine Den.frame rfl rfl ?_
  have hs := plT_succ zs 0 level
  have hl := plT_len zs 0 level
  have h0 := plT_0 zs 0 level
  rw [← plT_all]
  generalize plT zs 0 level = f at *
  refine den_of Try.func84 rfl rfl (by simp [Try.ntmps84]) (fun X hX hO => ?_)
  rw [Try.ntmps84] at hX
  simp only [Try.results84]
  repeat' (first 
   | (with_reducible first | refine awp_scope ?_ | refine awp_seq ?_ | refine awp_block ?_)
   | ((with_reducible first | refine awp_label ?_ | refine awp_skip ?_); try simp only [thenA, inBlockA, noGotoA])
   | (with_reducible refine awp_exit ?_; simp only [thenA, inBlockA, noGotoA, if_true, Nat.reduceEqDiff, if_false, ↓reduceIte])
   | (with_reducible refine awp_ret ?_; (try simp only [thenA, inBlockA, noGotoA]); (try simp [-List.reduceReplicate, Nat.add_one_le_iff, -getElem?_pos, -getElem?_neg, List.getElem?_cons_zero, List.getElem?_cons_succ, intsC, iC]))
   | ((with_reducible first | refine awp_reg 22 hX [0, 1, 4, 5, 6, 10, 18] ?_ | change postOf _ _ _ _ _); simp [-List.reduceReplicate, Nat.add_one_le_iff, -getElem?_pos, -getElem?_neg, List.getElem?_cons_zero, List.getElem?_cons_succ, intsC, iC])
   | (with_reducible refine awp_if_b rfl (fun hc => ?_) (fun hc => ?_) <;> (try simp [-getElem?_pos, -getElem?_neg] at hc) <;> (try (exfalso; omega)))
   | ((with_reducible first | refine GuardK_b (fun hc => ?_) (fun hc => ?_)) <;> (try simp only [Bool.not_eq_true', Bool.not_eq_false', decide_eq_true_eq, decide_eq_false_iff_not] at hc) <;> (first | (exfalso; omega) | skip) <;> simp [-List.reduceReplicate, Nat.add_one_le_iff, -getElem?_pos, -getElem?_neg, List.getElem?_cons_zero, List.getElem?_cons_succ, intsC, iC, hc])
   | ((with_reducible first | refine hother _ _ rfl ?_); simp only [inBlockA, thenA, noGotoA, Nat.reduceEqDiff, if_false, if_true, ↓reduceIte])
   | (with_reducible refine And.intro (by omega) ?_)
   | fail)
  refine awp_forU [0, 1, 5, 6] (fun i (_u : Unit) => [(5, .c (iC ((f i).length : Int))), (6, .c (iC i))]) (fun i (_u : Unit) => []) (fun i (_u : Unit) => True) (zs.length) (()) (by first | trivial | (simp; done) | omega | (intros; simp at *; done)) (by simp [-List.reduceReplicate, keep, iC, h0]) (by simp [-List.reduceReplicate, iC, h0]) ?_
  rintro i _u Q1 hi hH next hother
  conv => arg 5; arg 1; simp only [List.cons_append, List.nil_append, keep, get, Nat.reduceEqDiff, if_true, if_false, ↓reduceIte]
  have hwi := wrap_in ((i : Int) + 1) (by omega)
  have hli := hl i
  have hwc := wrap_in (((f i).length : Int) + 1) (by omega)
  by_cases hlt : i < zs.length
  · obtain ⟨x, hx⟩ := getI zs i (by omega) (by omega)
    simp only [Int.toNat_natCast] at hx
    have hsi := hs i x hx
    by_cases hge : level ≤ x
    · rw [if_pos ⟨by omega, hge⟩] at hsi
      repeat' (first 
       | (with_reducible first | refine awp_scope ?_ | refine awp_seq ?_ | refine awp_block ?_)
       | ((with_reducible first | refine awp_label ?_ | refine awp_skip ?_); try simp only [thenA, inBlockA, noGotoA])
       | (with_reducible refine awp_exit ?_; simp only [thenA, inBlockA, noGotoA, if_true, Nat.reduceEqDiff, if_false, ↓reduceIte])
       | (with_reducible refine awp_ret ?_; (try simp only [thenA, inBlockA, noGotoA]); (try simp [-List.reduceReplicate, Nat.add_one_le_iff, -getElem?_pos, -getElem?_neg, List.getElem?_cons_zero, List.getElem?_cons_succ, iC, hlt, hwi, hwc, hx, hge]))
       | ((with_reducible first | refine awp_reg 22 hX [0, 1, 4, 5, 6, 10, 18] ?_ | change postOf _ _ _ _ _); simp [-List.reduceReplicate, Nat.add_one_le_iff, -getElem?_pos, -getElem?_neg, List.getElem?_cons_zero, List.getElem?_cons_succ, iC, hlt, hwi, hwc, hx, hge])
       | (with_reducible refine awp_if_b rfl (fun hc => ?_) (fun hc => ?_) <;> (try simp [-getElem?_pos, -getElem?_neg] at hc) <;> (try (exfalso; omega)))
       | ((with_reducible first | refine GuardK_b (fun hc => ?_) (fun hc => ?_)) <;> (try simp only [Bool.not_eq_true', Bool.not_eq_false', decide_eq_true_eq, decide_eq_false_iff_not] at hc) <;> (first | (exfalso; omega) | skip) <;> simp [-List.reduceReplicate, Nat.add_one_le_iff, -getElem?_pos, -getElem?_neg, List.getElem?_cons_zero, List.getElem?_cons_succ, iC, hlt, hwi, hwc, hx, hge, hc])
       | ((with_reducible first | refine hother _ _ rfl ?_); simp only [inBlockA, thenA, noGotoA, Nat.reduceEqDiff, if_false, if_true, ↓reduceIte])
       | (with_reducible refine And.intro (by omega) ?_)
       | fail)
      refine next _ _ (()) (by omega) (by first | trivial | omega | assumption) (by simp [-List.reduceReplicate, keep, iC, hsi]) (by simp [-List.reduceReplicate, iC, hsi])
    · rw [if_neg (fun q => hge q.2), List.append_nil] at hsi
      repeat' (first 
       | (with_reducible first | refine awp_scope ?_ | refine awp_seq ?_ | refine awp_block ?_)
       | ((with_reducible first | refine awp_label ?_ | refine awp_skip ?_); try simp only [thenA, inBlockA, noGotoA])
       | (with_reducible refine awp_exit ?_; simp only [thenA, inBlockA, noGotoA, if_true, Nat.reduceEqDiff, if_false, ↓reduceIte])
       | (with_reducible refine awp_ret ?_; (try simp only [thenA, inBlockA, noGotoA]); (try simp [-List.reduceReplicate, Nat.add_one_le_iff, -getElem?_pos, -getElem?_neg, List.getElem?_cons_zero, List.getElem?_cons_succ, iC, hlt, hwi, hwc, hx, hge]))
       | ((with_reducible first | refine awp_reg 22 hX [0, 1, 4, 5, 6, 10, 18] ?_ | change postOf _ _ _ _ _); simp [-List.reduceReplicate, Nat.add_one_le_iff, -getElem?_pos, -getElem?_neg, List.getElem?_cons_zero, List.getElem?_cons_succ, iC, hlt, hwi, hwc, hx, hge])
       | (with_reducible refine awp_if_b rfl (fun hc => ?_) (fun hc => ?_) <;> (try simp [-getElem?_pos, -getElem?_neg] at hc) <;> (try (exfalso; omega)))
       | ((with_reducible first | refine GuardK_b (fun hc => ?_) (fun hc => ?_)) <;> (try simp only [Bool.not_eq_true', Bool.not_eq_false', decide_eq_true_eq, decide_eq_false_iff_not] at hc) <;> (first | (exfalso; omega) | skip) <;> simp [-List.reduceReplicate, Nat.add_one_le_iff, -getElem?_pos, -getElem?_neg, List.getElem?_cons_zero, List.getElem?_cons_succ, iC, hlt, hwi, hwc, hx, hge, hc])
       | ((with_reducible first | refine hother _ _ rfl ?_); simp only [inBlockA, thenA, noGotoA, Nat.reduceEqDiff, if_false, if_true, ↓reduceIte])
       | (with_reducible refine And.intro (by omega) ?_)
       | fail)
      refine next _ _ (()) (by omega) (by first | trivial | omega | assumption) (by simp [-List.reduceReplicate, keep, iC, hsi]) (by simp [-List.reduceReplicate, iC, hsi])
  · have hi2 : i = zs.length := by omega
    subst hi2
    repeat' (first 
     | (with_reducible first | refine awp_scope ?_ | refine awp_seq ?_ | refine awp_block ?_)
     | ((with_reducible first | refine awp_label ?_ | refine awp_skip ?_); try simp only [thenA, inBlockA, noGotoA])
     | (with_reducible refine awp_exit ?_; simp only [thenA, inBlockA, noGotoA, if_true, Nat.reduceEqDiff, if_false, ↓reduceIte])
     | (with_reducible refine awp_ret ?_; (try simp only [thenA, inBlockA, noGotoA]); (try simp [-List.reduceReplicate, Nat.add_one_le_iff, -getElem?_pos, -getElem?_neg, List.getElem?_cons_zero, List.getElem?_cons_succ, iC, hlt]))
     | ((with_reducible first | refine awp_reg 22 hX [0, 1, 4, 5, 6, 10, 18] ?_ | change postOf _ _ _ _ _); simp [-List.reduceReplicate, Nat.add_one_le_iff, -getElem?_pos, -getElem?_neg, List.getElem?_cons_zero, List.getElem?_cons_succ, iC, hlt])
     | (with_reducible refine awp_if_b rfl (fun hc => ?_) (fun hc => ?_) <;> (try simp [-getElem?_pos, -getElem?_neg] at hc) <;> (try (exfalso; omega)))
     | ((with_reducible first | refine GuardK_b (fun hc => ?_) (fun hc => ?_)) <;> (try simp only [Bool.not_eq_true', Bool.not_eq_false', decide_eq_true_eq, decide_eq_false_iff_not] at hc) <;> (first | (exfalso; omega) | skip) <;> simp [-List.reduceReplicate, Nat.add_one_le_iff, -getElem?_pos, -getElem?_neg, List.getElem?_cons_zero, List.getElem?_cons_succ, iC, hlt, hc])
     | ((with_reducible first | refine hother _ _ rfl ?_); simp only [inBlockA, thenA, noGotoA, Nat.reduceEqDiff, if_false, if_true, ↓reduceIte])
     | (with_reducible refine And.intro (by omega) ?_)
     | fail)
end Go.Av

set_option exponentiation.threshold 1000
set_option linter.unusedVariables false
set_option linter.unusedSimpArgs false
set_option maxRecDepth 100000
set_option maxHeartbeats 4000000
namespace Go.Av
open Go Go.Proofs Go.Proofs.Ytofomnllcmgfeaa Go.RowKit
/-! ### hashes -/
def bC8 (b : UInt8) : C := .v (.int .u8 (b.toNat : Int))
def hashM (l : List UInt8) : M := .agg (up (l.map bC8))
theorem eq_hash (l l' : List UInt8) (h : l.length = 32) (h' : l'.length = 32) : eqM (List.replicate 32 0) (up (l.map bC8)) (up (l'.map bC8)) = some (decide (l = l')) := by
  have e := eqM_ints (k := .u8) 32 (l.map fun b => (b.toNat : Int)) (l'.map fun b => (b.toNat : Int)) (by simp [h]) (by simp [h'])
  have inj : (l.map (fun b => (b.toNat : Int)) = l'.map fun b => (b.toNat : Int)) ↔ l = l' := by
    constructor
    · intro h
      exact List.map_inj_right (fun a b hab => UInt8.toNat_inj.1 (by omega)) |>.1 h
    · intro h; rw [h]
  rw [List.map_map, List.map_map] at e
  simp only [inj] at e
  exact e
theorem lt_hash (n : Nat) (l : List UInt8) : ltB n (hashM l) = true := by
  simp only [hashM, ltB]
  exact ltBs_up n _
end Go.Av
