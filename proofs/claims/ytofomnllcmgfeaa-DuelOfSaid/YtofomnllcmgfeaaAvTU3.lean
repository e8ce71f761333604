/- 1 texts of the program logic over abstract values, joined: each is proved without any condition beyond its own words. -/
import Derived.Test.YtofomnllcmgfeaaAvTU2
import Derived.Test.YtofomnllcmgfeaaAvWalk1
import Derived.Test.YtofomnllcmgfeaaAvEngine3
set_option exponentiation.threshold 1000
set_option linter.unusedVariables false
set_option linter.unusedSimpArgs false
set_option maxRecDepth 100000
set_option maxHeartbeats 4000000
namespace Go.Av
open Go Go.Proofs Go.Proofs.Ytofomnllcmgfeaa Go.RowKit
/-! ### up: Places, Count, Last: over states -/
open Go.Av.Up (pl hit)
/-- The places, as numbers of the language. -/
def plI (zs : List Int) (from_ level : Int) : List Int := (pl zs from_ level zs.length).map fun x : Nat => (x : Int)
theorem plI_len (zs : List Int) (from_ level : Int) : (plI zs from_ level).length ≤ zs.length := by
  unfold plI
  rw [List.length_map]
  exact Up.pl_len _ _ _ _
theorem ints_of {w : World} {E : Env} {zs : List Int} {full : Bool} {y : Value} (hst : ∀ b, E.st b → b < w.heap.size) (h : RepM w E [] (.c (.sl (zs.map iC) zs.length full)) y) : ∃ a cap, y = .slice a zs.length cap ∧ Up.Ints w.heap.size w y zs := by
  have h' : RepM w E [] (.c (.sl ((zs.map fun x => Value.int .i64 x).map C.v) zs.length full)) y := by
    have e : (zs.map fun x => Value.int .i64 x).map C.v = zs.map iC := by simp [iC]
    rw [e]; exact h
  rcases arg_row (by simp) h' with ⟨h0, rfl⟩ | ⟨a, cap, rfl, hle, hc⟩
  · have : zs = [] := List.eq_nil_of_length_eq_zero h0
    subst this
    exact ⟨none, 0, rfl, .inl ⟨⟨none, 0, rfl⟩, rfl⟩⟩
  · refine ⟨some a, cap, rfl, ?_⟩
    by_cases h0 : zs.length = 0
    · have : zs = [] := List.eq_nil_of_length_eq_zero h0
      subst this
      exact .inl ⟨⟨_, _, rfl⟩, rfl⟩
    · have hj := hc 0 (.int .i64 (zs[0]?.getD 0)) (by
        have : 0 < zs.length := by omega
        simp [this])
      have ha : a = ⟨a.block, a.off, none⟩ := by
        have := plain_of_cell hj.2
        unfold Addr.add at this
        simpa using this
      refine .inr ⟨a.block, a.off, cap, by rw [← ha], hst _ hj.1, fun j hjl => ?_⟩
      have := (hc j (.int .i64 (zs[j]?.getD 0)) (by simp [hjl])).2
      rw [ha, add_plain] at this
      exact this
theorem count_den (zs : List Int) (level : Int) (full : Bool) (hn : zs.length ≤ 1000000) : DenV Try.prog 19 [.c (.sl (zs.map iC) zs.length full), .c (iC level)] (.c (iC ((plI zs 0 level).length : Int))) := by
  refine Den.of_below (by kernel_rfl) rfl fun w E vals hs ha hst => ?_
  obtain ⟨va, vb, rfl⟩ : ∃ va vb, vals = #[va, vb] := by
    obtain ⟨l⟩ := vals
    match l, hs with
    | [a, b], _ => exact ⟨a, b, rfl⟩
  obtain rfl : vb = .int .i64 level := arg_v (ha 1 _ rfl)
  obtain ⟨a, cap, e, hI⟩ := ints_of hst (ha 0 _ rfl)
  simp only [Array.getD_eq_getD_getElem?, List.getElem?_toArray, List.getElem?_cons_zero, Option.getD_some] at e hI
  subst e
  refine ((callsIn_wide (n := 3)).1 (Up.count_in _ 3 trivial trivial trivial rfl (by omega) a zs.length cap zs level hn w hI)).mono fun e w' ⟨he, hb⟩ => ⟨?_, hb⟩
  rw [he]
  simp [plI]
theorem places_den (zs : List Int) (from_ level : Int) (full : Bool) (hf : from_ ≤ 9223372036854775807) (hn : zs.length ≤ 1000000) : DenV Try.prog 18 [.c (.sl (zs.map iC) zs.length full), .c (iC from_), .c (iC level)] (.c (intsC (plI zs from_ level))) := by
  have e0 : ((pl zs from_ level zs.length).map fun x : Nat => Value.int .i64 (x : Int)).map C.v = (plI zs from_ level).map iC := by simp [iC, plI]
  have e1 : (plI zs from_ level).length = (pl zs from_ level zs.length).length := by simp [plI]
  unfold intsC
  rw [← e0, e1]
  refine Den.of_row (e := 3) (by simp) (by simp [Value.oneCell']) (by kernel_rfl) rfl fun w E vals hs ha hst => ?_
  obtain ⟨va, vb, vc, rfl⟩ : ∃ va vb vc, vals = #[va, vb, vc] := by
    obtain ⟨l⟩ := vals
    match l, hs with
    | [a, b, c], _ => exact ⟨a, b, c, rfl⟩
  obtain rfl : vb = .int .i64 from_ := arg_v (ha 1 _ rfl)
  obtain rfl : vc = .int .i64 level := arg_v (ha 2 _ rfl)
  obtain ⟨a, cap, e, hI⟩ := ints_of hst (ha 0 _ rfl)
  simp only [Array.getD_eq_getD_getElem?, List.getElem?_toArray, List.getElem?_cons_zero, Option.getD_some] at e hI
  subst e
  exact (callsIn_wide (n := 3)).1 (Up.places_in _ 3 trivial trivial trivial rfl (by omega) a zs.length cap zs from_ level hf hn w hI)
/-- The n-th from the end. -/
def lastI (zs : List Int) (level n : Int) : Int := if 1 ≤ n ∧ n ≤ (plI zs 0 level).length then ((plI zs 0 level)[(plI zs 0 level).length - n.toNat]?).getD 0 else -1
set_option maxHeartbeats 4000000 in
theorem last_den (zs : List Int) (level n : Int) (full : Bool) (hn : zs.length ≤ 1000000) : DenV Try.prog 20 [.c (.sl (zs.map iC) zs.length full), .c (iC level), .c (iC n)] (.c (iC (lastI zs level n))) := by
  refine Den.frame rfl rfl ?_
  have h1 := plI_len zs 0 level
  have p1 := places_den zs 0 level full (by omega) hn
  have hl : lastI zs level n = if 1 ≤ n ∧ n ≤ (plI zs 0 level).length then ((plI zs 0 level)[(plI zs 0 level).length - n.toNat]?).getD 0 else -1 := rfl
  generalize lastI zs level n = r at *
  generalize plI zs 0 level = p at *
  refine den_of Try.func20 rfl rfl (by simp [Try.ntmps20]) (fun X hX hO => ?_)
  rw [Try.ntmps20] at hX
  simp only [Try.results20]
  by_cases c1 : n < 1
  · rw [if_neg (by omega)] at hl
    repeat' (first 
     | (with_reducible first | refine awp_scope ?_ | refine awp_seq ?_ | refine awp_block ?_)
     | ((with_reducible first | refine awp_label ?_ | refine awp_skip ?_); try simp only [thenA, inBlockA, noGotoA])
     | (with_reducible refine awp_exit ?_; simp only [thenA, inBlockA, noGotoA, if_true, Nat.reduceEqDiff, if_false, ↓reduceIte])
     | (with_reducible refine awp_ret ?_; (try simp only [thenA, inBlockA, noGotoA]); (try simp [-List.reduceReplicate, Nat.add_one_le_iff, -getElem?_pos, -getElem?_neg, List.getElem?_cons_zero, List.getElem?_cons_succ, intsC, iC, c1, hl]))
     | ((with_reducible first | refine awp_reg 26 hX [0, 1, 2, 6, 7, 18] ?_ | change postOf _ _ _ _ _); simp [-List.reduceReplicate, Nat.add_one_le_iff, -getElem?_pos, -getElem?_neg, List.getElem?_cons_zero, List.getElem?_cons_succ, intsC, iC, c1, hl])
     | ((first | (refine (p1 _).det ?_)); try simp [-List.reduceReplicate, Nat.add_one_le_iff, -getElem?_pos, -getElem?_neg, List.getElem?_cons_zero, List.getElem?_cons_succ, intsC, iC, c1, hl])
     | (with_reducible refine awp_if_b rfl (fun hc => ?_) (fun hc => ?_) <;> (try simp [-getElem?_pos, -getElem?_neg] at hc) <;> (try (exfalso; omega)))
     | ((with_reducible first | refine GuardK_b (fun hc => ?_) (fun hc => ?_)) <;> (try simp only [Bool.not_eq_true', Bool.not_eq_false', decide_eq_true_eq, decide_eq_false_iff_not] at hc) <;> (first | (exfalso; omega) | skip) <;> simp [-List.reduceReplicate, Nat.add_one_le_iff, -getElem?_pos, -getElem?_neg, List.getElem?_cons_zero, List.getElem?_cons_succ, intsC, iC, c1, hl, hc])
     | (with_reducible refine And.intro (by omega) ?_)
     | fail)
  · by_cases c2 : p.length < n
    · rw [if_neg (by omega)] at hl
      repeat' (first 
       | (with_reducible first | refine awp_scope ?_ | refine awp_seq ?_ | refine awp_block ?_)
       | ((with_reducible first | refine awp_label ?_ | refine awp_skip ?_); try simp only [thenA, inBlockA, noGotoA])
       | (with_reducible refine awp_exit ?_; simp only [thenA, inBlockA, noGotoA, if_true, Nat.reduceEqDiff, if_false, ↓reduceIte])
       | (with_reducible refine awp_ret ?_; (try simp only [thenA, inBlockA, noGotoA]); (try simp [-List.reduceReplicate, Nat.add_one_le_iff, -getElem?_pos, -getElem?_neg, List.getElem?_cons_zero, List.getElem?_cons_succ, intsC, iC, c1, c2, hl]))
       | ((with_reducible first | refine awp_reg 26 hX [0, 1, 2, 6, 7, 18] ?_ | change postOf _ _ _ _ _); simp [-List.reduceReplicate, Nat.add_one_le_iff, -getElem?_pos, -getElem?_neg, List.getElem?_cons_zero, List.getElem?_cons_succ, intsC, iC, c1, c2, hl])
       | ((first | (refine (p1 _).det ?_)); try simp [-List.reduceReplicate, Nat.add_one_le_iff, -getElem?_pos, -getElem?_neg, List.getElem?_cons_zero, List.getElem?_cons_succ, intsC, iC, c1, c2, hl])
       | (with_reducible refine awp_if_b rfl (fun hc => ?_) (fun hc => ?_) <;> (try simp [-getElem?_pos, -getElem?_neg] at hc) <;> (try (exfalso; omega)))
       | ((with_reducible first | refine GuardK_b (fun hc => ?_) (fun hc => ?_)) <;> (try simp only [Bool.not_eq_true', Bool.not_eq_false', decide_eq_true_eq, decide_eq_false_iff_not] at hc) <;> (first | (exfalso; omega) | skip) <;> simp [-List.reduceReplicate, Nat.add_one_le_iff, -getElem?_pos, -getElem?_neg, List.getElem?_cons_zero, List.getElem?_cons_succ, intsC, iC, c1, c2, hl, hc])
       | (with_reducible refine And.intro (by omega) ?_)
       | fail)
    · rw [if_pos (by omega)] at hl
      obtain ⟨x, hx⟩ := getI p (p.length - n) (by omega) (by omega)
      have e2 : ((p.length : Int) - n).toNat = p.length - n.toNat := by omega
      rw [← e2, hx] at hl
      have hw := wrap_in ((p.length : Int) - n) (by omega)
      repeat' (first 
       | (with_reducible first | refine awp_scope ?_ | refine awp_seq ?_ | refine awp_block ?_)
       | ((with_reducible first | refine awp_label ?_ | refine awp_skip ?_); try simp only [thenA, inBlockA, noGotoA])
       | (with_reducible refine awp_exit ?_; simp only [thenA, inBlockA, noGotoA, if_true, Nat.reduceEqDiff, if_false, ↓reduceIte])
       | (with_reducible refine awp_ret ?_; (try simp only [thenA, inBlockA, noGotoA]); (try simp [-List.reduceReplicate, Nat.add_one_le_iff, -getElem?_pos, -getElem?_neg, List.getElem?_cons_zero, List.getElem?_cons_succ, intsC, iC, c1, c2, hl, hw, hx]))
       | ((with_reducible first | refine awp_reg 26 hX [0, 1, 2, 6, 7, 18] ?_ | change postOf _ _ _ _ _); simp [-List.reduceReplicate, Nat.add_one_le_iff, -getElem?_pos, -getElem?_neg, List.getElem?_cons_zero, List.getElem?_cons_succ, intsC, iC, c1, c2, hl, hw, hx])
       | ((first | (refine (p1 _).det ?_)); try simp [-List.reduceReplicate, Nat.add_one_le_iff, -getElem?_pos, -getElem?_neg, List.getElem?_cons_zero, List.getElem?_cons_succ, intsC, iC, c1, c2, hl, hw, hx])
       | (with_reducible refine awp_if_b rfl (fun hc => ?_) (fun hc => ?_) <;> (try simp [-getElem?_pos, -getElem?_neg] at hc) <;> (try (exfalso; omega)))
       | ((with_reducible first | refine GuardK_b (fun hc => ?_) (fun hc => ?_)) <;> (try simp only [Bool.not_eq_true', Bool.not_eq_false', decide_eq_true_eq, decide_eq_false_iff_not] at hc) <;> (first | (exfalso; omega) | skip) <;> simp [-List.reduceReplicate, Nat.add_one_le_iff, -getElem?_pos, -getElem?_neg, List.getElem?_cons_zero, List.getElem?_cons_succ, intsC, iC, c1, c2, hl, hw, hx, hc])
       | (with_reducible refine And.intro (by omega) ?_)
       | fail)
end Go.Av
