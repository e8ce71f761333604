import Derived.Test.YtofomnllcmgfeaaAvT8
import Derived.Test.YtofomnllcmgfeaaAvEngine3
set_option linter.unusedVariables false
set_option linter.unusedSimpArgs false
set_option maxRecDepth 100000
set_option maxHeartbeats 4000000
namespace Go.Av
open Go Go.Proofs Go.Proofs.Ytofomnllcmgfeaa Go.RowKit
/-! ### ring: the least dominating set -/
open Go.Rg
def bq (v : List (List Int)) (i k : Nat) : Bool := beats v i k
def boolsC (b : List Bool) : C := .sl (b.map bC) b.length false
def boolO (b : List Bool) (g : Nat) : Ob := ⟨4, 1, false, g, up (b.map bC), none⟩
theorem gb_get {b : List Bool} {i : Nat} (h : i < b.length) : b[i]? = some (gb b i) := by
  have := List.getElem?_eq_getElem h
  rw [this, gb_of this]
set_option maxHeartbeats 4000000 in
theorem mark_den (v : List (List Int)) (b0 : List Bool) (hb0 : b0.length = v.length) (hn : v.length ≤ 1000000) (g : Nat) (ob : List Ob) :
    Den Try.prog 58 [.c (rowsC v), .ms ob.length g 0 v.length] (ob ++ [boolO b0 g]) (fun r ob' => ∃ b, IsCl (bq v) v.length b0 b ∧ r = .tup [] ∧ ob' = ob ++ [boolO b g]) := by
  generalize hQ : (fun (r : M) (ob' : List Ob) => ∃ b, IsCl (bq v) v.length b0 b ∧ r = .tup [] ∧ ob' = ob ++ [boolO b g]) = Q
  refine den_of Try.func58 rfl rfl (by simp [Try.ntmps58]) (fun X hX hO => ?_)
  rw [Try.ntmps58] at hX
  simp only [Try.results58]
  repeat' (first 
   | (with_reducible first | refine awp_scope ?_ | refine awp_seq ?_ | refine awp_block ?_)
   | ((with_reducible first | refine awp_label ?_ | refine awp_skip ?_); try simp only [thenA, inBlockA, noGotoA])
   | (with_reducible refine awp_exit ?_; simp only [thenA, inBlockA, noGotoA, if_true, Nat.reduceEqDiff, if_false, ↓reduceIte])
   | (with_reducible refine awp_ret ?_; (try simp only [thenA, inBlockA, noGotoA]); (try simp [-List.reduceReplicate, Nat.add_one_le_iff, -getElem?_pos, -getElem?_neg, List.getElem?_cons_zero, List.getElem?_cons_succ, rowsC]))
   | ((with_reducible first | refine awp_reg 41 hX [0, 1, 4, 5, 6, 7, 9, 10, 11, 14, 15, 16, 35] ?_ | change postOf _ _ _ _ _); simp [-List.reduceReplicate, Nat.add_one_le_iff, -getElem?_pos, -getElem?_neg, List.getElem?_cons_zero, List.getElem?_cons_succ, rowsC])
   | (with_reducible refine awp_if_b rfl (fun hc => ?_) (fun hc => ?_) <;> (try simp [-getElem?_pos, -getElem?_neg] at hc) <;> (try (exfalso; omega)))
   | ((with_reducible first | refine GuardK_b (fun hc => ?_) (fun hc => ?_)) <;> (try simp only [Bool.not_eq_true', Bool.not_eq_false', decide_eq_true_eq, decide_eq_false_iff_not] at hc) <;> (first | (exfalso; omega) | skip) <;> simp [-List.reduceReplicate, Nat.add_one_le_iff, -getElem?_pos, -getElem?_neg, List.getElem?_cons_zero, List.getElem?_cons_succ, rowsC, hc])
   | ((with_reducible first | refine hother _ _ rfl ?_ | refine hother2 _ _ rfl ?_ | refine hother3 _ _ rfl ?_); simp only [inBlockA, thenA, noGotoA, Nat.reduceEqDiff, if_false, if_true, ↓reduceIte])
   | (with_reducible refine And.intro (by omega) ?_)
   | fail)
  refine awp_whileU [0, 1, 4] (fun (p : List Bool × Bool) => [(4, .c (bC p.2))]) (fun (p : List Bool × Bool) => ob ++ [boolO p.1 g]) (fun (p : List Bool × Bool) => Rg.Way (bq v) v.length b0 p.1 ∧ (p.2 = false → Dom (bq v) v.length (gb p.1))) (fun p => if p.2 then fal p.1 + 1 else 0) (b0, true) ⟨way_start hb0, by simp⟩ (by simp [keep, bC]) (by simp) ?_
  rintro ⟨b, again⟩ Q1 ⟨hway, hdom⟩ next0 hother3
  conv => arg 5; arg 1; simp only [List.cons_append, List.nil_append, keep, get, Nat.reduceEqDiff, if_true, if_false, ↓reduceIte]
  simp only at hway hdom next0 ⊢
  cases again
  · repeat' (first 
     | (with_reducible first | refine awp_scope ?_ | refine awp_seq ?_ | refine awp_block ?_)
     | ((with_reducible first | refine awp_label ?_ | refine awp_skip ?_); try simp only [thenA, inBlockA, noGotoA])
     | (with_reducible refine awp_exit ?_; simp only [thenA, inBlockA, noGotoA, if_true, Nat.reduceEqDiff, if_false, ↓reduceIte])
     | (with_reducible refine awp_ret ?_; (try simp only [thenA, inBlockA, noGotoA]); (try simp [-List.reduceReplicate, Nat.add_one_le_iff, -getElem?_pos, -getElem?_neg, List.getElem?_cons_zero, List.getElem?_cons_succ, bC]))
     | ((with_reducible first | refine awp_reg 41 hX [0, 1, 4, 5, 6, 7, 9, 10, 11, 14, 15, 16, 35] ?_ | change postOf _ _ _ _ _); simp [-List.reduceReplicate, Nat.add_one_le_iff, -getElem?_pos, -getElem?_neg, List.getElem?_cons_zero, List.getElem?_cons_succ, bC])
     | (with_reducible refine awp_if_b rfl (fun hc => ?_) (fun hc => ?_) <;> (try simp [-getElem?_pos, -getElem?_neg] at hc) <;> (try (exfalso; omega)))
     | ((with_reducible first | refine GuardK_b (fun hc => ?_) (fun hc => ?_)) <;> (try simp only [Bool.not_eq_true', Bool.not_eq_false', decide_eq_true_eq, decide_eq_false_iff_not] at hc) <;> (first | (exfalso; omega) | skip) <;> simp [-List.reduceReplicate, Nat.add_one_le_iff, -getElem?_pos, -getElem?_neg, List.getElem?_cons_zero, List.getElem?_cons_succ, bC, hc])
     | ((with_reducible first | refine hother _ _ rfl ?_ | refine hother2 _ _ rfl ?_ | refine hother3 _ _ rfl ?_); simp only [inBlockA, thenA, noGotoA, Nat.reduceEqDiff, if_false, if_true, ↓reduceIte])
     | (with_reducible refine And.intro (by omega) ?_)
     | fail)
    subst hQ
    exact ⟨b, way_end hway (hdom rfl), rfl, rfl⟩
  repeat' (first 
   | (with_reducible first | refine awp_scope ?_ | refine awp_seq ?_ | refine awp_block ?_)
   | ((with_reducible first | refine awp_label ?_ | refine awp_skip ?_); try simp only [thenA, inBlockA, noGotoA])
   | (with_reducible refine awp_exit ?_; simp only [thenA, inBlockA, noGotoA, if_true, Nat.reduceEqDiff, if_false, ↓reduceIte])
   | (with_reducible refine awp_ret ?_; (try simp only [thenA, inBlockA, noGotoA]); (try simp [-List.reduceReplicate, Nat.add_one_le_iff, -getElem?_pos, -getElem?_neg, List.getElem?_cons_zero, List.getElem?_cons_succ, bC, rowsC]))
   | ((with_reducible first | refine awp_reg 41 hX [0, 1, 4, 5, 6, 7, 9, 10, 11, 14, 15, 16, 35] ?_ | change postOf _ _ _ _ _); simp [-List.reduceReplicate, Nat.add_one_le_iff, -getElem?_pos, -getElem?_neg, List.getElem?_cons_zero, List.getElem?_cons_succ, bC, rowsC])
   | (with_reducible refine awp_if_b rfl (fun hc => ?_) (fun hc => ?_) <;> (try simp [-getElem?_pos, -getElem?_neg] at hc) <;> (try (exfalso; omega)))
   | ((with_reducible first | refine GuardK_b (fun hc => ?_) (fun hc => ?_)) <;> (try simp only [Bool.not_eq_true', Bool.not_eq_false', decide_eq_true_eq, decide_eq_false_iff_not] at hc) <;> (first | (exfalso; omega) | skip) <;> simp [-List.reduceReplicate, Nat.add_one_le_iff, -getElem?_pos, -getElem?_neg, List.getElem?_cons_zero, List.getElem?_cons_succ, bC, rowsC, hc])
   | ((with_reducible first | refine hother _ _ rfl ?_ | refine hother2 _ _ rfl ?_ | refine hother3 _ _ rfl ?_); simp only [inBlockA, thenA, noGotoA, Nat.reduceEqDiff, if_false, if_true, ↓reduceIte])
   | (with_reducible refine And.intro (by omega) ?_)
   | fail)
  refine awp_forU [0, 1, 4, 9, 10] (fun i (p : List Bool × Bool) => [(4, .c (bC p.2)), (9, .c (iC v.length)), (10, .c (iC i))]) (fun i (p : List Bool × Bool) => ob ++ [boolO p.1 g]) (fun i (p : List Bool × Bool) => Rg.Way (bq v) v.length b0 p.1 ∧ (p.2 = false → p.1 = b ∧ ∀ i' k', i' < i → k' < v.length → gb b i' = true → gb b k' = false → bq v i' k' = true) ∧ (p.2 = true → fal p.1 < fal b)) (v.length) ((b, false)) (⟨hway, fun _ => ⟨rfl, fun i' k' h => by omega⟩, by simp⟩) (by simp [-List.reduceReplicate, keep, iC, bC, rowsC]) (by simp [-List.reduceReplicate, iC, bC, rowsC]) ?_
  rintro i p Q1 hi hH next hother
  conv => arg 5; arg 1; simp only [List.cons_append, List.nil_append, keep, get, Nat.reduceEqDiff, if_true, if_false, ↓reduceIte]
  have next1 := next; have hother2 := hother; clear next hother
  obtain ⟨b1, ag⟩ := p
  obtain ⟨hw1, hf1, ht1⟩ := hH
  simp only at hw1 hf1 ht1
  have hl1 : b1.length = v.length := hw1.1
  have hwi := wrap_in ((i : Int) + 1) (by omega)
  by_cases hlt : i < v.length
  · repeat' (first 
     | (with_reducible first | refine awp_scope ?_ | refine awp_seq ?_ | refine awp_block ?_)
     | ((with_reducible first | refine awp_label ?_ | refine awp_skip ?_); try simp only [thenA, inBlockA, noGotoA])
     | (with_reducible refine awp_exit ?_; simp only [thenA, inBlockA, noGotoA, if_true, Nat.reduceEqDiff, if_false, ↓reduceIte])
     | (with_reducible refine awp_ret ?_; (try simp only [thenA, inBlockA, noGotoA]); (try simp [-List.reduceReplicate, Nat.add_one_le_iff, -getElem?_pos, -getElem?_neg, List.getElem?_cons_zero, List.getElem?_cons_succ, bC, rowsC, iC, hlt]))
     | ((with_reducible first | refine awp_reg 41 hX [0, 1, 4, 5, 6, 7, 9, 10, 11, 14, 15, 16, 35] ?_ | change postOf _ _ _ _ _); simp [-List.reduceReplicate, Nat.add_one_le_iff, -getElem?_pos, -getElem?_neg, List.getElem?_cons_zero, List.getElem?_cons_succ, bC, rowsC, iC, hlt])
     | (with_reducible refine awp_if_b rfl (fun hc => ?_) (fun hc => ?_) <;> (try simp [-getElem?_pos, -getElem?_neg] at hc) <;> (try (exfalso; omega)))
     | ((with_reducible first | refine GuardK_b (fun hc => ?_) (fun hc => ?_)) <;> (try simp only [Bool.not_eq_true', Bool.not_eq_false', decide_eq_true_eq, decide_eq_false_iff_not] at hc) <;> (first | (exfalso; omega) | skip) <;> simp [-List.reduceReplicate, Nat.add_one_le_iff, -getElem?_pos, -getElem?_neg, List.getElem?_cons_zero, List.getElem?_cons_succ, bC, rowsC, iC, hlt, hc])
     | ((with_reducible first | refine hother _ _ rfl ?_ | refine hother2 _ _ rfl ?_ | refine hother3 _ _ rfl ?_); simp only [inBlockA, thenA, noGotoA, Nat.reduceEqDiff, if_false, if_true, ↓reduceIte])
     | (with_reducible refine And.intro (by omega) ?_)
     | fail)
    refine awp_forU [0, 1, 4, 5, 9, 10, 14, 15] (fun k (p : List Bool × Bool) => [(4, .c (bC p.2)), (14, .c (iC v.length)), (15, .c (iC k))]) (fun k (p : List Bool × Bool) => ob ++ [boolO p.1 g]) (fun k (p : List Bool × Bool) => Rg.Way (bq v) v.length b0 p.1 ∧ (p.2 = false → p.1 = b ∧ (∀ i' k', i' < i → k' < v.length → gb b i' = true → gb b k' = false → bq v i' k' = true) ∧ ∀ k', k' < k → gb b i = true → gb b k' = false → bq v i k' = true) ∧ (p.2 = true → fal p.1 < fal b)) (v.length) ((b1, ag)) (⟨hw1, fun h => ⟨(hf1 h).1, (hf1 h).2, fun k' h => by omega⟩, ht1⟩) (by simp [-List.reduceReplicate, keep, iC, bC, rowsC]) (by simp [-List.reduceReplicate, iC, bC, rowsC]) ?_
    rintro k p Q1 hi hH next hother
    conv => arg 5; arg 1; simp only [List.cons_append, List.nil_append, keep, get, Nat.reduceEqDiff, if_true, if_false, ↓reduceIte]
    obtain ⟨b2, ag2⟩ := p
    obtain ⟨hw2, hf2, ht2⟩ := hH
    simp only at hw2 hf2 ht2
    have hl2 : b2.length = v.length := hw2.1
    have hwk := wrap_in ((k : Int) + 1) (by omega)
    by_cases hkl : k < v.length
    · have g1 := gb_get (b := b2) (i := i) (by omega)
      have g2 := gb_get (b := b2) (i := k) (by omega)
      have hset : (up (b2.map bC)).set k (M.c (C.v (Value.bool true))) = up ((b2.set k true).map bC) := by simp [up, bC, List.map_set]
      have keepF : (gb b2 i = true → gb b2 k = false → bq v i k = true) → (ag2 = false → b2 = b ∧ (∀ i' k', i' < i → k' < v.length → gb b i' = true → gb b k' = false → bq v i' k' = true) ∧ ∀ k', k' < k + 1 → gb b i = true → gb b k' = false → bq v i k' = true) := fun h e => by
        obtain ⟨e1, e2, e3⟩ := hf2 e
        refine ⟨e1, e2, fun k' hk' q1 q2 => ?_⟩
        by_cases ek : k' = k
        · subst ek; rw [← e1] at q1 q2; exact h q1 q2
        · exact e3 k' (by omega) q1 q2
      cases c1 : gb b2 i
      · have nx : Rg.Way (bq v) v.length b0 b2 ∧ (ag2 = false → b2 = b ∧ (∀ i' k', i' < i → k' < v.length → gb b i' = true → gb b k' = false → bq v i' k' = true) ∧ ∀ k', k' < k + 1 → gb b i = true → gb b k' = false → bq v i k' = true) ∧ (ag2 = true → fal b2 < fal b) := ⟨hw2, keepF (by rw [c1]; intro h; simp at h), ht2⟩
        rw [c1] at g1
        repeat' (first 
         | (with_reducible first | refine awp_scope ?_ | refine awp_seq ?_ | refine awp_block ?_)
         | ((with_reducible first | refine awp_label ?_ | refine awp_skip ?_); try simp only [thenA, inBlockA, noGotoA])
         | (with_reducible refine awp_exit ?_; simp only [thenA, inBlockA, noGotoA, if_true, Nat.reduceEqDiff, if_false, ↓reduceIte])
         | (with_reducible refine awp_ret ?_; (try simp only [thenA, inBlockA, noGotoA]); (try simp [-List.reduceReplicate, Nat.add_one_le_iff, -getElem?_pos, -getElem?_neg, List.getElem?_cons_zero, List.getElem?_cons_succ, bC, rowsC, iC, hkl, boolO, g1, hl2, hwk, hlt]))
         | ((with_reducible first | refine awp_reg 41 hX [0, 1, 4, 5, 6, 7, 9, 10, 11, 14, 15, 16, 35] ?_ | change postOf _ _ _ _ _); simp [-List.reduceReplicate, Nat.add_one_le_iff, -getElem?_pos, -getElem?_neg, List.getElem?_cons_zero, List.getElem?_cons_succ, bC, rowsC, iC, hkl, boolO, g1, hl2, hwk, hlt])
         | (with_reducible refine awp_if_b rfl (fun hc => ?_) (fun hc => ?_) <;> (try simp [-getElem?_pos, -getElem?_neg] at hc) <;> (try (exfalso; omega)))
         | ((with_reducible first | refine GuardK_b (fun hc => ?_) (fun hc => ?_)) <;> (try simp only [Bool.not_eq_true', Bool.not_eq_false', decide_eq_true_eq, decide_eq_false_iff_not] at hc) <;> (first | (exfalso; omega) | skip) <;> simp [-List.reduceReplicate, Nat.add_one_le_iff, -getElem?_pos, -getElem?_neg, List.getElem?_cons_zero, List.getElem?_cons_succ, bC, rowsC, iC, hkl, boolO, g1, hl2, hwk, hlt, hc])
         | ((with_reducible first | refine hother _ _ rfl ?_ | refine hother2 _ _ rfl ?_ | refine hother3 _ _ rfl ?_); simp only [inBlockA, thenA, noGotoA, Nat.reduceEqDiff, if_false, if_true, ↓reduceIte])
         | (with_reducible refine And.intro (by omega) ?_)
         | fail)
        refine next _ _ ((b2, ag2)) (by omega) (by first | trivial | omega | assumption) (by simp [-List.reduceReplicate, keep, iC, bC, boolO]) (by simp [-List.reduceReplicate, iC, bC, boolO])
      · rw [c1] at g1
        cases c2 : gb b2 k
        · rw [c2] at g2
          cases c3 : beats v i k
          · have nx : Rg.Way (bq v) v.length b0 (b2.set k true) ∧ (true = false → b2.set k true = b ∧ (∀ i' k', i' < i → k' < v.length → gb b i' = true → gb b k' = false → bq v i' k' = true) ∧ ∀ k', k' < k + 1 → gb b i = true → gb b k' = false → bq v i k' = true) ∧ (true = true → fal (b2.set k true) < fal b) := by
              refine ⟨way_step hw2 hlt hkl c1 c3, fun h => by simp at h, fun _ => ?_⟩
              have := fal_set (b := b2) (k := k) (by omega) c2
              cases ag2
              · have e := (hf2 rfl).1
                subst e; omega
              · have := ht2 rfl; omega
            repeat' (first 
             | (with_reducible first | refine awp_scope ?_ | refine awp_seq ?_ | refine awp_block ?_)
             | ((with_reducible first | refine awp_label ?_ | refine awp_skip ?_); try simp only [thenA, inBlockA, noGotoA])
             | (with_reducible refine awp_exit ?_; simp only [thenA, inBlockA, noGotoA, if_true, Nat.reduceEqDiff, if_false, ↓reduceIte])
             | (with_reducible refine awp_ret ?_; (try simp only [thenA, inBlockA, noGotoA]); (try simp [-List.reduceReplicate, Nat.add_one_le_iff, -getElem?_pos, -getElem?_neg, List.getElem?_cons_zero, List.getElem?_cons_succ, bC, rowsC, iC, hkl, boolO, g1, g2, hl2, hwk, hlt, c3, hset]))
             | ((with_reducible first | refine awp_reg 41 hX [0, 1, 4, 5, 6, 7, 9, 10, 11, 14, 15, 16, 35] ?_ | change postOf _ _ _ _ _); simp [-List.reduceReplicate, Nat.add_one_le_iff, -getElem?_pos, -getElem?_neg, List.getElem?_cons_zero, List.getElem?_cons_succ, bC, rowsC, iC, hkl, boolO, g1, g2, hl2, hwk, hlt, c3, hset])
             | ((first | ((with_reducible refine Den.at_ (f := 34) ?_); refine (beats_den _ _ _ _).det ?_)); try simp [-List.reduceReplicate, Nat.add_one_le_iff, -getElem?_pos, -getElem?_neg, List.getElem?_cons_zero, List.getElem?_cons_succ, bC, rowsC, iC, hkl, boolO, g1, g2, hl2, hwk, hlt, c3, hset])
             | (with_reducible refine awp_if_b rfl (fun hc => ?_) (fun hc => ?_) <;> (try simp [-getElem?_pos, -getElem?_neg] at hc) <;> (try (exfalso; omega)))
             | ((with_reducible first | refine GuardK_b (fun hc => ?_) (fun hc => ?_)) <;> (try simp only [Bool.not_eq_true', Bool.not_eq_false', decide_eq_true_eq, decide_eq_false_iff_not] at hc) <;> (first | (exfalso; omega) | skip) <;> simp [-List.reduceReplicate, Nat.add_one_le_iff, -getElem?_pos, -getElem?_neg, List.getElem?_cons_zero, List.getElem?_cons_succ, bC, rowsC, iC, hkl, boolO, g1, g2, hl2, hwk, hlt, c3, hset, hc])
             | ((with_reducible first | refine hother _ _ rfl ?_ | refine hother2 _ _ rfl ?_ | refine hother3 _ _ rfl ?_); simp only [inBlockA, thenA, noGotoA, Nat.reduceEqDiff, if_false, if_true, ↓reduceIte])
             | (with_reducible refine And.intro (by omega) ?_)
             | fail)
            refine next _ _ ((b2.set k true, true)) (by omega) (by first | trivial | omega | assumption) (by simp [-List.reduceReplicate, keep, iC, bC, boolO]) (by simp [-List.reduceReplicate, iC, bC, boolO])
          · have nx : Rg.Way (bq v) v.length b0 b2 ∧ (ag2 = false → b2 = b ∧ (∀ i' k', i' < i → k' < v.length → gb b i' = true → gb b k' = false → bq v i' k' = true) ∧ ∀ k', k' < k + 1 → gb b i = true → gb b k' = false → bq v i k' = true) ∧ (ag2 = true → fal b2 < fal b) := ⟨hw2, keepF (fun _ _ => c3), ht2⟩
            repeat' (first 
             | (with_reducible first | refine awp_scope ?_ | refine awp_seq ?_ | refine awp_block ?_)
             | ((with_reducible first | refine awp_label ?_ | refine awp_skip ?_); try simp only [thenA, inBlockA, noGotoA])
             | (with_reducible refine awp_exit ?_; simp only [thenA, inBlockA, noGotoA, if_true, Nat.reduceEqDiff, if_false, ↓reduceIte])
             | (with_reducible refine awp_ret ?_; (try simp only [thenA, inBlockA, noGotoA]); (try simp [-List.reduceReplicate, Nat.add_one_le_iff, -getElem?_pos, -getElem?_neg, List.getElem?_cons_zero, List.getElem?_cons_succ, bC, rowsC, iC, hkl, boolO, g1, g2, hl2, hwk, hlt, c3]))
             | ((with_reducible first | refine awp_reg 41 hX [0, 1, 4, 5, 6, 7, 9, 10, 11, 14, 15, 16, 35] ?_ | change postOf _ _ _ _ _); simp [-List.reduceReplicate, Nat.add_one_le_iff, -getElem?_pos, -getElem?_neg, List.getElem?_cons_zero, List.getElem?_cons_succ, bC, rowsC, iC, hkl, boolO, g1, g2, hl2, hwk, hlt, c3])
             | ((first | ((with_reducible refine Den.at_ (f := 34) ?_); refine (beats_den _ _ _ _).det ?_)); try simp [-List.reduceReplicate, Nat.add_one_le_iff, -getElem?_pos, -getElem?_neg, List.getElem?_cons_zero, List.getElem?_cons_succ, bC, rowsC, iC, hkl, boolO, g1, g2, hl2, hwk, hlt, c3])
             | (with_reducible refine awp_if_b rfl (fun hc => ?_) (fun hc => ?_) <;> (try simp [-getElem?_pos, -getElem?_neg] at hc) <;> (try (exfalso; omega)))
             | ((with_reducible first | refine GuardK_b (fun hc => ?_) (fun hc => ?_)) <;> (try simp only [Bool.not_eq_true', Bool.not_eq_false', decide_eq_true_eq, decide_eq_false_iff_not] at hc) <;> (first | (exfalso; omega) | skip) <;> simp [-List.reduceReplicate, Nat.add_one_le_iff, -getElem?_pos, -getElem?_neg, List.getElem?_cons_zero, List.getElem?_cons_succ, bC, rowsC, iC, hkl, boolO, g1, g2, hl2, hwk, hlt, c3, hc])
             | ((with_reducible first | refine hother _ _ rfl ?_ | refine hother2 _ _ rfl ?_ | refine hother3 _ _ rfl ?_); simp only [inBlockA, thenA, noGotoA, Nat.reduceEqDiff, if_false, if_true, ↓reduceIte])
             | (with_reducible refine And.intro (by omega) ?_)
             | fail)
            refine next _ _ ((b2, ag2)) (by omega) (by first | trivial | omega | assumption) (by simp [-List.reduceReplicate, keep, iC, bC, boolO]) (by simp [-List.reduceReplicate, iC, bC, boolO])
        · have nx : Rg.Way (bq v) v.length b0 b2 ∧ (ag2 = false → b2 = b ∧ (∀ i' k', i' < i → k' < v.length → gb b i' = true → gb b k' = false → bq v i' k' = true) ∧ ∀ k', k' < k + 1 → gb b i = true → gb b k' = false → bq v i k' = true) ∧ (ag2 = true → fal b2 < fal b) := ⟨hw2, keepF (by rw [c2]; intro _ h; simp at h), ht2⟩
          rw [c2] at g2
          repeat' (first 
           | (with_reducible first | refine awp_scope ?_ | refine awp_seq ?_ | refine awp_block ?_)
           | ((with_reducible first | refine awp_label ?_ | refine awp_skip ?_); try simp only [thenA, inBlockA, noGotoA])
           | (with_reducible refine awp_exit ?_; simp only [thenA, inBlockA, noGotoA, if_true, Nat.reduceEqDiff, if_false, ↓reduceIte])
           | (with_reducible refine awp_ret ?_; (try simp only [thenA, inBlockA, noGotoA]); (try simp [-List.reduceReplicate, Nat.add_one_le_iff, -getElem?_pos, -getElem?_neg, List.getElem?_cons_zero, List.getElem?_cons_succ, bC, rowsC, iC, hkl, boolO, g1, g2, hl2, hwk, hlt]))
           | ((with_reducible first | refine awp_reg 41 hX [0, 1, 4, 5, 6, 7, 9, 10, 11, 14, 15, 16, 35] ?_ | change postOf _ _ _ _ _); simp [-List.reduceReplicate, Nat.add_one_le_iff, -getElem?_pos, -getElem?_neg, List.getElem?_cons_zero, List.getElem?_cons_succ, bC, rowsC, iC, hkl, boolO, g1, g2, hl2, hwk, hlt])
           | (with_reducible refine awp_if_b rfl (fun hc => ?_) (fun hc => ?_) <;> (try simp [-getElem?_pos, -getElem?_neg] at hc) <;> (try (exfalso; omega)))
           | ((with_reducible first | refine GuardK_b (fun hc => ?_) (fun hc => ?_)) <;> (try simp only [Bool.not_eq_true', Bool.not_eq_false', decide_eq_true_eq, decide_eq_false_iff_not] at hc) <;> (first | (exfalso; omega) | skip) <;> simp [-List.reduceReplicate, Nat.add_one_le_iff, -getElem?_pos, -getElem?_neg, List.getElem?_cons_zero, List.getElem?_cons_succ, bC, rowsC, iC, hkl, boolO, g1, g2, hl2, hwk, hlt, hc])
           | ((with_reducible first | refine hother _ _ rfl ?_ | refine hother2 _ _ rfl ?_ | refine hother3 _ _ rfl ?_); simp only [inBlockA, thenA, noGotoA, Nat.reduceEqDiff, if_false, if_true, ↓reduceIte])
           | (with_reducible refine And.intro (by omega) ?_)
           | fail)
          refine next _ _ ((b2, ag2)) (by omega) (by first | trivial | omega | assumption) (by simp [-List.reduceReplicate, keep, iC, bC, boolO]) (by simp [-List.reduceReplicate, iC, bC, boolO])
    · have hk2 : k = v.length := by omega
      subst hk2
      have nx : Rg.Way (bq v) v.length b0 b2 ∧ (ag2 = false → b2 = b ∧ ∀ i' k', i' < i + 1 → k' < v.length → gb b i' = true → gb b k' = false → bq v i' k' = true) ∧ (ag2 = true → fal b2 < fal b) := by
        refine ⟨hw2, fun e => ?_, ht2⟩
        obtain ⟨e1, e2, e3⟩ := hf2 e
        refine ⟨e1, fun i' k' hi' hk' q1 q2 => ?_⟩
        by_cases ei : i' = i
        · subst ei; exact e3 k' hk' q1 q2
        · exact e2 i' k' (by omega) hk' q1 q2
      repeat' (first 
       | (with_reducible first | refine awp_scope ?_ | refine awp_seq ?_ | refine awp_block ?_)
       | ((with_reducible first | refine awp_label ?_ | refine awp_skip ?_); try simp only [thenA, inBlockA, noGotoA])
       | (with_reducible refine awp_exit ?_; simp only [thenA, inBlockA, noGotoA, if_true, Nat.reduceEqDiff, if_false, ↓reduceIte])
       | (with_reducible refine awp_ret ?_; (try simp only [thenA, inBlockA, noGotoA]); (try simp [-List.reduceReplicate, Nat.add_one_le_iff, -getElem?_pos, -getElem?_neg, List.getElem?_cons_zero, List.getElem?_cons_succ, bC, rowsC, iC, hkl, hwi]))
       | ((with_reducible first | refine awp_reg 41 hX [0, 1, 4, 5, 6, 7, 9, 10, 11, 14, 15, 16, 35] ?_ | change postOf _ _ _ _ _); simp [-List.reduceReplicate, Nat.add_one_le_iff, -getElem?_pos, -getElem?_neg, List.getElem?_cons_zero, List.getElem?_cons_succ, bC, rowsC, iC, hkl, hwi])
       | (with_reducible refine awp_if_b rfl (fun hc => ?_) (fun hc => ?_) <;> (try simp [-getElem?_pos, -getElem?_neg] at hc) <;> (try (exfalso; omega)))
       | ((with_reducible first | refine GuardK_b (fun hc => ?_) (fun hc => ?_)) <;> (try simp only [Bool.not_eq_true', Bool.not_eq_false', decide_eq_true_eq, decide_eq_false_iff_not] at hc) <;> (first | (exfalso; omega) | skip) <;> simp [-List.reduceReplicate, Nat.add_one_le_iff, -getElem?_pos, -getElem?_neg, List.getElem?_cons_zero, List.getElem?_cons_succ, bC, rowsC, iC, hkl, hwi, hc])
       | ((with_reducible first | refine hother _ _ rfl ?_ | refine hother2 _ _ rfl ?_ | refine hother3 _ _ rfl ?_); simp only [inBlockA, thenA, noGotoA, Nat.reduceEqDiff, if_false, if_true, ↓reduceIte])
       | (with_reducible refine And.intro (by omega) ?_)
       | fail)
      refine next1 _ _ ((b2, ag2)) (by omega) (by first | trivial | omega | assumption) (by simp [-List.reduceReplicate, keep, iC, bC, boolO]) (by simp [-List.reduceReplicate, iC, bC, boolO])
  · have hi2 : i = v.length := by omega
    subst hi2
    repeat' (first 
     | (with_reducible first | refine awp_scope ?_ | refine awp_seq ?_ | refine awp_block ?_)
     | ((with_reducible first | refine awp_label ?_ | refine awp_skip ?_); try simp only [thenA, inBlockA, noGotoA])
     | (with_reducible refine awp_exit ?_; simp only [thenA, inBlockA, noGotoA, if_true, Nat.reduceEqDiff, if_false, ↓reduceIte])
     | (with_reducible refine awp_ret ?_; (try simp only [thenA, inBlockA, noGotoA]); (try simp [-List.reduceReplicate, Nat.add_one_le_iff, -getElem?_pos, -getElem?_neg, List.getElem?_cons_zero, List.getElem?_cons_succ, bC, rowsC, iC, hlt]))
     | ((with_reducible first | refine awp_reg 41 hX [0, 1, 4, 5, 6, 7, 9, 10, 11, 14, 15, 16, 35] ?_ | change postOf _ _ _ _ _); simp [-List.reduceReplicate, Nat.add_one_le_iff, -getElem?_pos, -getElem?_neg, List.getElem?_cons_zero, List.getElem?_cons_succ, bC, rowsC, iC, hlt])
     | (with_reducible refine awp_if_b rfl (fun hc => ?_) (fun hc => ?_) <;> (try simp [-getElem?_pos, -getElem?_neg] at hc) <;> (try (exfalso; omega)))
     | ((with_reducible first | refine GuardK_b (fun hc => ?_) (fun hc => ?_)) <;> (try simp only [Bool.not_eq_true', Bool.not_eq_false', decide_eq_true_eq, decide_eq_false_iff_not] at hc) <;> (first | (exfalso; omega) | skip) <;> simp [-List.reduceReplicate, Nat.add_one_le_iff, -getElem?_pos, -getElem?_neg, List.getElem?_cons_zero, List.getElem?_cons_succ, bC, rowsC, iC, hlt, hc])
     | ((with_reducible first | refine hother _ _ rfl ?_ | refine hother2 _ _ rfl ?_ | refine hother3 _ _ rfl ?_); simp only [inBlockA, thenA, noGotoA, Nat.reduceEqDiff, if_false, if_true, ↓reduceIte])
     | (with_reducible refine And.intro (by omega) ?_)
     | fail)
    refine next0 _ _ (b1, ag) ?_ ⟨hw1, fun e => ?_⟩ (by simp [keep, bC]) rfl
    · cases ag
      · simp
      · have := ht1 rfl
        simp
        omega
    · simp only at e
      obtain ⟨e1, e2⟩ := hf1 e
      simp only
      rw [e1]
      exact fun i' k' h1 h2 h3 h4 => e2 i' k' h1 h2 h3 h4
set_option maxHeartbeats 4000000 in
theorem size_den (b : List Bool) (hn : b.length ≤ 1000000) : DenV Try.prog 59 [.c (boolsC b)] (.c (iC (siz b))) := by
  refine Den.frame rfl rfl ?_
  rw [← sizTo_all]
  have hs := fun i x => sizTo_succ (b := b) (i := i) (x := x)
  have hl := sizTo_le b
  have h0 : sizTo b 0 = 0 := rfl
  generalize sizTo b = f at *
  refine den_of Try.func59 rfl rfl (by simp [Try.ntmps59]) (fun X hX hO => ?_)
  rw [Try.ntmps59] at hX
  simp only [Try.results59]
  repeat' (first 
   | (with_reducible first | refine awp_scope ?_ | refine awp_seq ?_ | refine awp_block ?_)
   | ((with_reducible first | refine awp_label ?_ | refine awp_skip ?_); try simp only [thenA, inBlockA, noGotoA])
   | (with_reducible refine awp_exit ?_; simp only [thenA, inBlockA, noGotoA, if_true, Nat.reduceEqDiff, if_false, ↓reduceIte])
   | (with_reducible refine awp_ret ?_; (try simp only [thenA, inBlockA, noGotoA]); (try simp [-List.reduceReplicate, Nat.add_one_le_iff, -getElem?_pos, -getElem?_neg, List.getElem?_cons_zero, List.getElem?_cons_succ, boolsC]))
   | ((with_reducible first | refine awp_reg 17 hX [0, 2, 3, 5, 6, 7, 8, 9, 12] ?_ | change postOf _ _ _ _ _); simp [-List.reduceReplicate, Nat.add_one_le_iff, -getElem?_pos, -getElem?_neg, List.getElem?_cons_zero, List.getElem?_cons_succ, boolsC])
   | (with_reducible refine awp_if_b rfl (fun hc => ?_) (fun hc => ?_) <;> (try simp [-getElem?_pos, -getElem?_neg] at hc) <;> (try (exfalso; omega)))
   | ((with_reducible first | refine GuardK_b (fun hc => ?_) (fun hc => ?_)) <;> (try simp only [Bool.not_eq_true', Bool.not_eq_false', decide_eq_true_eq, decide_eq_false_iff_not] at hc) <;> (first | (exfalso; omega) | skip) <;> simp [-List.reduceReplicate, Nat.add_one_le_iff, -getElem?_pos, -getElem?_neg, List.getElem?_cons_zero, List.getElem?_cons_succ, boolsC, hc])
   | ((with_reducible first | refine hother _ _ rfl ?_); simp only [inBlockA, thenA, noGotoA, Nat.reduceEqDiff, if_false, if_true, ↓reduceIte])
   | (with_reducible refine And.intro (by omega) ?_)
   | fail)
  refine awp_forU [3, 6, 7, 8] (fun i (_u : Unit) => [(3, .c (iC (f i))), (8, .c (iC i))]) (fun i (_u : Unit) => []) (fun i (_u : Unit) => True) (b.length) (()) (by first | trivial | (simp; done) | omega | (intros; simp at *; done)) (by simp [-List.reduceReplicate, keep, iC, h0]) (by simp [-List.reduceReplicate, iC, h0]) ?_
  rintro i _u Q1 hi hH next hother
  conv => arg 5; arg 1; simp only [List.cons_append, List.nil_append, keep, get, Nat.reduceEqDiff, if_true, if_false, ↓reduceIte]
  have hwi := wrap_in ((i : Int) + 1) (by omega)
  have hli := hl i
  have hwf := wrap_in ((f i : Int) + 1) (by omega)
  by_cases hlt : i < b.length
  · obtain ⟨x, hx⟩ : ∃ x, b[i]? = some x := ⟨_, List.getElem?_eq_getElem hlt⟩
    have hsi := hs i x hx
    cases x
    · repeat' (first 
       | (with_reducible first | refine awp_scope ?_ | refine awp_seq ?_ | refine awp_block ?_)
       | ((with_reducible first | refine awp_label ?_ | refine awp_skip ?_); try simp only [thenA, inBlockA, noGotoA])
       | (with_reducible refine awp_exit ?_; simp only [thenA, inBlockA, noGotoA, if_true, Nat.reduceEqDiff, if_false, ↓reduceIte])
       | (with_reducible refine awp_ret ?_; (try simp only [thenA, inBlockA, noGotoA]); (try simp [-List.reduceReplicate, Nat.add_one_le_iff, -getElem?_pos, -getElem?_neg, List.getElem?_cons_zero, List.getElem?_cons_succ, iC, bC, hlt, hx, hwi]))
       | ((with_reducible first | refine awp_reg 17 hX [0, 2, 3, 5, 6, 7, 8, 9, 12] ?_ | change postOf _ _ _ _ _); simp [-List.reduceReplicate, Nat.add_one_le_iff, -getElem?_pos, -getElem?_neg, List.getElem?_cons_zero, List.getElem?_cons_succ, iC, bC, hlt, hx, hwi])
       | (with_reducible refine awp_if_b rfl (fun hc => ?_) (fun hc => ?_) <;> (try simp [-getElem?_pos, -getElem?_neg] at hc) <;> (try (exfalso; omega)))
       | ((with_reducible first | refine GuardK_b (fun hc => ?_) (fun hc => ?_)) <;> (try simp only [Bool.not_eq_true', Bool.not_eq_false', decide_eq_true_eq, decide_eq_false_iff_not] at hc) <;> (first | (exfalso; omega) | skip) <;> simp [-List.reduceReplicate, Nat.add_one_le_iff, -getElem?_pos, -getElem?_neg, List.getElem?_cons_zero, List.getElem?_cons_succ, iC, bC, hlt, hx, hwi, hc])
       | ((with_reducible first | refine hother _ _ rfl ?_); simp only [inBlockA, thenA, noGotoA, Nat.reduceEqDiff, if_false, if_true, ↓reduceIte])
       | (with_reducible refine And.intro (by omega) ?_)
       | fail)
      refine next _ _ (()) (by omega) (by first | trivial | omega | assumption) (by simp [-List.reduceReplicate, keep, iC, hsi]) (by simp [-List.reduceReplicate, iC, hsi])
    · repeat' (first 
       | (with_reducible first | refine awp_scope ?_ | refine awp_seq ?_ | refine awp_block ?_)
       | ((with_reducible first | refine awp_label ?_ | refine awp_skip ?_); try simp only [thenA, inBlockA, noGotoA])
       | (with_reducible refine awp_exit ?_; simp only [thenA, inBlockA, noGotoA, if_true, Nat.reduceEqDiff, if_false, ↓reduceIte])
       | (with_reducible refine awp_ret ?_; (try simp only [thenA, inBlockA, noGotoA]); (try simp [-List.reduceReplicate, Nat.add_one_le_iff, -getElem?_pos, -getElem?_neg, List.getElem?_cons_zero, List.getElem?_cons_succ, iC, bC, hlt, hx, hwi, hwf]))
       | ((with_reducible first | refine awp_reg 17 hX [0, 2, 3, 5, 6, 7, 8, 9, 12] ?_ | change postOf _ _ _ _ _); simp [-List.reduceReplicate, Nat.add_one_le_iff, -getElem?_pos, -getElem?_neg, List.getElem?_cons_zero, List.getElem?_cons_succ, iC, bC, hlt, hx, hwi, hwf])
       | (with_reducible refine awp_if_b rfl (fun hc => ?_) (fun hc => ?_) <;> (try simp [-getElem?_pos, -getElem?_neg] at hc) <;> (try (exfalso; omega)))
       | ((with_reducible first | refine GuardK_b (fun hc => ?_) (fun hc => ?_)) <;> (try simp only [Bool.not_eq_true', Bool.not_eq_false', decide_eq_true_eq, decide_eq_false_iff_not] at hc) <;> (first | (exfalso; omega) | skip) <;> simp [-List.reduceReplicate, Nat.add_one_le_iff, -getElem?_pos, -getElem?_neg, List.getElem?_cons_zero, List.getElem?_cons_succ, iC, bC, hlt, hx, hwi, hwf, hc])
       | ((with_reducible first | refine hother _ _ rfl ?_); simp only [inBlockA, thenA, noGotoA, Nat.reduceEqDiff, if_false, if_true, ↓reduceIte])
       | (with_reducible refine And.intro (by omega) ?_)
       | fail)
      refine next _ _ (()) (by omega) (by first | trivial | omega | assumption) (by simp [-List.reduceReplicate, keep, iC, hsi]) (by simp [-List.reduceReplicate, iC, hsi])
  · have hi2 : i = b.length := by omega
    subst hi2
    repeat' (first 
     | (with_reducible first | refine awp_scope ?_ | refine awp_seq ?_ | refine awp_block ?_)
     | ((with_reducible first | refine awp_label ?_ | refine awp_skip ?_); try simp only [thenA, inBlockA, noGotoA])
     | (with_reducible refine awp_exit ?_; simp only [thenA, inBlockA, noGotoA, if_true, Nat.reduceEqDiff, if_false, ↓reduceIte])
     | (with_reducible refine awp_ret ?_; (try simp only [thenA, inBlockA, noGotoA]); (try simp [-List.reduceReplicate, Nat.add_one_le_iff, -getElem?_pos, -getElem?_neg, List.getElem?_cons_zero, List.getElem?_cons_succ, iC, hlt]))
     | ((with_reducible first | refine awp_reg 17 hX [0, 2, 3, 5, 6, 7, 8, 9, 12] ?_ | change postOf _ _ _ _ _); simp [-List.reduceReplicate, Nat.add_one_le_iff, -getElem?_pos, -getElem?_neg, List.getElem?_cons_zero, List.getElem?_cons_succ, iC, hlt])
     | (with_reducible refine awp_if_b rfl (fun hc => ?_) (fun hc => ?_) <;> (try simp [-getElem?_pos, -getElem?_neg] at hc) <;> (try (exfalso; omega)))
     | ((with_reducible first | refine GuardK_b (fun hc => ?_) (fun hc => ?_)) <;> (try simp only [Bool.not_eq_true', Bool.not_eq_false', decide_eq_true_eq, decide_eq_false_iff_not] at hc) <;> (first | (exfalso; omega) | skip) <;> simp [-List.reduceReplicate, Nat.add_one_le_iff, -getElem?_pos, -getElem?_neg, List.getElem?_cons_zero, List.getElem?_cons_succ, iC, hlt, hc])
     | ((with_reducible first | refine hother _ _ rfl ?_); simp only [inBlockA, thenA, noGotoA, Nat.reduceEqDiff, if_false, if_true, ↓reduceIte])
     | (with_reducible refine And.intro (by omega) ?_)
     | fail)
/-- The smallest of the least sets about the first ones. -/
def TopTo (q : Nat → Nat → Bool) (n m : Nat) (b : List Bool) : Prop := (∃ i, i < m ∧ IsCl q n (one n i) b) ∧ ∀ i c, i < m → IsCl q n (one n i) c → siz b ≤ siz c
def bestM : Option (List Bool) → M
  | none => .c (.v (.slice none 0 0))
  | some b => .c (boolsC b)
def BestI (q : Nat → Nat → Bool) (n m : Nat) : Option (List Bool) → Prop
  | none => m = 0
  | some b => b.length = n ∧ TopTo q n m b
theorem bestI_step {q : Nat → Nat → Bool} {n i : Nat} {o : Option (List Bool)} {b : List Bool} (h : BestI q n i o) (hb : IsCl q n (one n i) b) (hlt : ∀ c, o = some c → siz b < siz c) : BestI q n (i + 1) (some b) := by
  refine ⟨hb.1, ⟨i, by omega, hb⟩, fun j c hj hc => ?_⟩
  by_cases e : j = i
  · subst e; rw [cl_unique hb hc]; exact Nat.le_refl _
  · cases o with
    | none => have : i = 0 := h; omega
    | some c0 =>
      have h1 := hlt c0 rfl
      have h2 := h.2.2 j c (by omega) hc
      omega
theorem bestI_keep {q : Nat → Nat → Bool} {n i : Nat} {c0 b : List Bool} (h : BestI q n i (some c0)) (hb : IsCl q n (one n i) b) (hlt : ¬ siz b < siz c0) : BestI q n (i + 1) (some c0) := by
  refine ⟨h.1, ?_, fun j c hj hc => ?_⟩
  · obtain ⟨j, hj, hc⟩ := h.2.1
    exact ⟨j, by omega, hc⟩
  · by_cases e : j = i
    · subst e; rw [← cl_unique hb hc]; omega
    · exact h.2.2 j c (by omega) hc
set_option maxHeartbeats 4000000 in
theorem top_den (v : List (List Int)) (hn : v.length ≤ 1000) (ob : List Ob) : Den Try.prog 24 [.c (rowsC v)] ob (fun r ob' => ∃ b, BestI (bq v) v.length v.length b ∧ r = .c (intsC ((posF (gb (b.getD [])) (b.getD []).length).map fun x : Nat => (x : Int))) ∧ ob' = ob) := by
  generalize hQ : (fun (r : M) (ob' : List Ob) => ∃ b, BestI (bq v) v.length v.length b ∧ r = .c (intsC ((posF (gb (b.getD [])) (b.getD []).length).map fun x : Nat => (x : Int))) ∧ ob' = ob) = Q
  refine den_of Try.func24 rfl rfl (by simp [Try.ntmps24]) (fun X hX hO => ?_)
  rw [Try.ntmps24] at hX
  simp only [Try.results24]
  repeat' (first 
   | (with_reducible first | refine awp_scope ?_ | refine awp_seq ?_ | refine awp_block ?_)
   | ((with_reducible first | refine awp_label ?_ | refine awp_skip ?_); try simp only [thenA, inBlockA, noGotoA])
   | (with_reducible refine awp_exit ?_; simp only [thenA, inBlockA, noGotoA, if_true, Nat.reduceEqDiff, if_false, ↓reduceIte])
   | (with_reducible refine awp_ret ?_; (try simp only [thenA, inBlockA, noGotoA]); (try simp [-List.reduceReplicate, Nat.add_one_le_iff, -getElem?_pos, -getElem?_neg, List.getElem?_cons_zero, List.getElem?_cons_succ, rowsC, iC]))
   | ((with_reducible first | refine awp_reg 48 hX [0, 2, 3, 4, 5, 6, 7, 8, 10, 11, 12, 31, 34, 35, 36, 37, 41] ?_ | change postOf _ _ _ _ _); simp [-List.reduceReplicate, Nat.add_one_le_iff, -getElem?_pos, -getElem?_neg, List.getElem?_cons_zero, List.getElem?_cons_succ, rowsC, iC])
   | (with_reducible refine awp_if_b rfl (fun hc => ?_) (fun hc => ?_) <;> (try simp [-getElem?_pos, -getElem?_neg] at hc) <;> (try (exfalso; omega)))
   | ((with_reducible first | refine GuardK_b (fun hc => ?_) (fun hc => ?_)) <;> (try simp only [Bool.not_eq_true', Bool.not_eq_false', decide_eq_true_eq, decide_eq_false_iff_not] at hc) <;> (first | (exfalso; omega) | skip) <;> simp [-List.reduceReplicate, Nat.add_one_le_iff, -getElem?_pos, -getElem?_neg, List.getElem?_cons_zero, List.getElem?_cons_succ, rowsC, iC, hc])
   | ((with_reducible first | refine hother _ _ rfl ?_); simp only [inBlockA, thenA, noGotoA, Nat.reduceEqDiff, if_false, if_true, ↓reduceIte])
   | (with_reducible refine And.intro (by omega) ?_)
   | fail)
  refine awp_forU [0, 3, 10, 11] (fun i (o : Option (List Bool)) => [(3, bestM o), (10, .c (iC v.length)), (11, .c (iC i))]) (fun i (o : Option (List Bool)) => ob) (fun i (o : Option (List Bool)) => BestI (bq v) v.length i o) (v.length) (none) (rfl) (by simp [-List.reduceReplicate, keep, iC, bestM, rowsC]) (by simp [-List.reduceReplicate, iC, bestM, rowsC]) ?_
  rintro i o Q1 hi hH next hother
  conv => arg 5; arg 1; simp only [List.cons_append, List.nil_append, keep, get, Nat.reduceEqDiff, if_true, if_false, ↓reduceIte]
  have hwi := wrap_in ((i : Int) + 1) (by omega)
  by_cases hlt : i < v.length
  · have hone : (one v.length i).map bC = (List.replicate v.length (C.v (Value.bool false))).set i (C.v (Value.bool true)) := by simp [one, bC, List.map_set]
    have p := mark_den v (one v.length i) (by simp [one]) (by omega) 0 ob
    unfold boolO at p
    rw [hone] at p
    have lt0 : ∀ o, ltB ob.length (bestM o) = true := fun o => by cases o <;> rfl
    repeat' (first 
     | (with_reducible first | refine awp_scope ?_ | refine awp_seq ?_ | refine awp_block ?_)
     | ((with_reducible first | refine awp_label ?_ | refine awp_skip ?_); try simp only [thenA, inBlockA, noGotoA])
     | (with_reducible refine awp_exit ?_; simp only [thenA, inBlockA, noGotoA, if_true, Nat.reduceEqDiff, if_false, ↓reduceIte])
     | (with_reducible refine awp_ret ?_; (try simp only [thenA, inBlockA, noGotoA]); (try simp [-List.reduceReplicate, Nat.add_one_le_iff, -getElem?_pos, -getElem?_neg, List.getElem?_cons_zero, List.getElem?_cons_succ, iC, hlt]))
     | ((with_reducible first | refine awp_reg 48 hX [0, 2, 3, 4, 5, 6, 7, 8, 10, 11, 12, 31, 34, 35, 36, 37, 41] ?_ | change postOf _ _ _ _ _); simp [-List.reduceReplicate, Nat.add_one_le_iff, -getElem?_pos, -getElem?_neg, List.getElem?_cons_zero, List.getElem?_cons_succ, iC, hlt])
     | (with_reducible refine awp_if_b rfl (fun hc => ?_) (fun hc => ?_) <;> (try simp [-getElem?_pos, -getElem?_neg] at hc) <;> (try (exfalso; omega)))
     | ((with_reducible first | refine GuardK_b (fun hc => ?_) (fun hc => ?_)) <;> (try simp only [Bool.not_eq_true', Bool.not_eq_false', decide_eq_true_eq, decide_eq_false_iff_not] at hc) <;> (first | (exfalso; omega) | skip) <;> simp [-List.reduceReplicate, Nat.add_one_le_iff, -getElem?_pos, -getElem?_neg, List.getElem?_cons_zero, List.getElem?_cons_succ, iC, hlt, hc])
     | ((with_reducible first | refine hother _ _ rfl ?_); simp only [inBlockA, thenA, noGotoA, Nat.reduceEqDiff, if_false, if_true, ↓reduceIte])
     | (with_reducible refine And.intro (by omega) ?_)
     | fail)
    refine p.mono ?_
    rintro _ _ ⟨b, hcl, rfl, rfl⟩
    refine awp_frz2 5 ob [] [] _ (b.map bC) _ hO rfl rfl rfl (by simp [ltB, lt0]) (by simp) ?_
    have hlb : b.length = v.length := hcl.1
    have s1 := size_den b (by omega)
    have hz : ¬ v.length = 0 := by omega
    unfold boolsC at s1
    rw [hlb] at s1
    cases o with
    | none =>
      have nx : BestI (bq v) v.length (i + 1) (some b) := bestI_step hH hcl (fun c h => by cases h)
      repeat' (first 
       | (with_reducible first | refine awp_scope ?_ | refine awp_seq ?_ | refine awp_block ?_)
       | ((with_reducible first | refine awp_label ?_ | refine awp_skip ?_); try simp only [thenA, inBlockA, noGotoA])
       | (with_reducible refine awp_exit ?_; simp only [thenA, inBlockA, noGotoA, if_true, Nat.reduceEqDiff, if_false, ↓reduceIte])
       | (with_reducible refine awp_ret ?_; (try simp only [thenA, inBlockA, noGotoA]); (try simp [-List.reduceReplicate, Nat.add_one_le_iff, -getElem?_pos, -getElem?_neg, List.getElem?_cons_zero, List.getElem?_cons_succ, iC, bestM, hwi]))
       | ((with_reducible first | refine awp_reg 48 hX [0, 2, 3, 4, 5, 6, 7, 8, 10, 11, 12, 31, 34, 35, 36, 37, 41] ?_ | change postOf _ _ _ _ _); simp [-List.reduceReplicate, Nat.add_one_le_iff, -getElem?_pos, -getElem?_neg, List.getElem?_cons_zero, List.getElem?_cons_succ, iC, bestM, hwi])
       | ((first | (refine (s1 _).det ?_)); try simp [-List.reduceReplicate, Nat.add_one_le_iff, -getElem?_pos, -getElem?_neg, List.getElem?_cons_zero, List.getElem?_cons_succ, iC, bestM, hwi])
       | (with_reducible refine awp_if_b rfl (fun hc => ?_) (fun hc => ?_) <;> (try simp [-getElem?_pos, -getElem?_neg] at hc) <;> (try (exfalso; omega)))
       | ((with_reducible first | refine GuardK_b (fun hc => ?_) (fun hc => ?_)) <;> (try simp only [Bool.not_eq_true', Bool.not_eq_false', decide_eq_true_eq, decide_eq_false_iff_not] at hc) <;> (first | (exfalso; omega) | skip) <;> simp [-List.reduceReplicate, Nat.add_one_le_iff, -getElem?_pos, -getElem?_neg, List.getElem?_cons_zero, List.getElem?_cons_succ, iC, bestM, hwi, hc])
       | ((with_reducible first | refine hother _ _ rfl ?_); simp only [inBlockA, thenA, noGotoA, Nat.reduceEqDiff, if_false, if_true, ↓reduceIte])
       | (with_reducible refine And.intro (by omega) ?_)
       | fail)
      refine next _ _ ((some b)) (by omega) (by first | trivial | omega | assumption) (by simp [-List.reduceReplicate, keep, bestM, iC, boolsC, hlb]) (by simp [-List.reduceReplicate, bestM, iC, boolsC, hlb])
    | some c =>
      have hlc : c.length = v.length := hH.1
      have s2 := size_den c (by omega)
      unfold boolsC at s2
      rw [hlc] at s2
      by_cases hss : siz b < siz c
      · have nx : BestI (bq v) v.length (i + 1) (some b) := bestI_step hH hcl (fun c' h => by cases h; exact hss)
        repeat' (first 
         | (with_reducible first | refine awp_scope ?_ | refine awp_seq ?_ | refine awp_block ?_)
         | ((with_reducible first | refine awp_label ?_ | refine awp_skip ?_); try simp only [thenA, inBlockA, noGotoA])
         | (with_reducible refine awp_exit ?_; simp only [thenA, inBlockA, noGotoA, if_true, Nat.reduceEqDiff, if_false, ↓reduceIte])
         | (with_reducible refine awp_ret ?_; (try simp only [thenA, inBlockA, noGotoA]); (try simp [-List.reduceReplicate, Nat.add_one_le_iff, -getElem?_pos, -getElem?_neg, List.getElem?_cons_zero, List.getElem?_cons_succ, iC, bestM, boolsC, hlc, hz, hwi, hss]))
         | ((with_reducible first | refine awp_reg 48 hX [0, 2, 3, 4, 5, 6, 7, 8, 10, 11, 12, 31, 34, 35, 36, 37, 41] ?_ | change postOf _ _ _ _ _); simp [-List.reduceReplicate, Nat.add_one_le_iff, -getElem?_pos, -getElem?_neg, List.getElem?_cons_zero, List.getElem?_cons_succ, iC, bestM, boolsC, hlc, hz, hwi, hss])
         | ((first | (refine (s1 _).det ?_) | (refine (s2 _).det ?_)); try simp [-List.reduceReplicate, Nat.add_one_le_iff, -getElem?_pos, -getElem?_neg, List.getElem?_cons_zero, List.getElem?_cons_succ, iC, bestM, boolsC, hlc, hz, hwi, hss])
         | (with_reducible refine awp_if_b rfl (fun hc => ?_) (fun hc => ?_) <;> (try simp [-getElem?_pos, -getElem?_neg] at hc) <;> (try (exfalso; omega)))
         | ((with_reducible first | refine GuardK_b (fun hc => ?_) (fun hc => ?_)) <;> (try simp only [Bool.not_eq_true', Bool.not_eq_false', decide_eq_true_eq, decide_eq_false_iff_not] at hc) <;> (first | (exfalso; omega) | skip) <;> simp [-List.reduceReplicate, Nat.add_one_le_iff, -getElem?_pos, -getElem?_neg, List.getElem?_cons_zero, List.getElem?_cons_succ, iC, bestM, boolsC, hlc, hz, hwi, hss, hc])
         | ((with_reducible first | refine hother _ _ rfl ?_); simp only [inBlockA, thenA, noGotoA, Nat.reduceEqDiff, if_false, if_true, ↓reduceIte])
         | (with_reducible refine And.intro (by omega) ?_)
         | fail)
        refine next _ _ ((some b)) (by omega) (by first | trivial | omega | assumption) (by simp [-List.reduceReplicate, keep, bestM, iC, boolsC, hlb]) (by simp [-List.reduceReplicate, bestM, iC, boolsC, hlb])
      · have nx : BestI (bq v) v.length (i + 1) (some c) := bestI_keep hH hcl hss
        repeat' (first 
         | (with_reducible first | refine awp_scope ?_ | refine awp_seq ?_ | refine awp_block ?_)
         | ((with_reducible first | refine awp_label ?_ | refine awp_skip ?_); try simp only [thenA, inBlockA, noGotoA])
         | (with_reducible refine awp_exit ?_; simp only [thenA, inBlockA, noGotoA, if_true, Nat.reduceEqDiff, if_false, ↓reduceIte])
         | (with_reducible refine awp_ret ?_; (try simp only [thenA, inBlockA, noGotoA]); (try simp [-List.reduceReplicate, Nat.add_one_le_iff, -getElem?_pos, -getElem?_neg, List.getElem?_cons_zero, List.getElem?_cons_succ, iC, bestM, boolsC, hlc, hz, hwi, hss]))
         | ((with_reducible first | refine awp_reg 48 hX [0, 2, 3, 4, 5, 6, 7, 8, 10, 11, 12, 31, 34, 35, 36, 37, 41] ?_ | change postOf _ _ _ _ _); simp [-List.reduceReplicate, Nat.add_one_le_iff, -getElem?_pos, -getElem?_neg, List.getElem?_cons_zero, List.getElem?_cons_succ, iC, bestM, boolsC, hlc, hz, hwi, hss])
         | ((first | (refine (s1 _).det ?_) | (refine (s2 _).det ?_)); try simp [-List.reduceReplicate, Nat.add_one_le_iff, -getElem?_pos, -getElem?_neg, List.getElem?_cons_zero, List.getElem?_cons_succ, iC, bestM, boolsC, hlc, hz, hwi, hss])
         | (with_reducible refine awp_if_b rfl (fun hc => ?_) (fun hc => ?_) <;> (try simp [-getElem?_pos, -getElem?_neg] at hc) <;> (try (exfalso; omega)))
         | ((with_reducible first | refine GuardK_b (fun hc => ?_) (fun hc => ?_)) <;> (try simp only [Bool.not_eq_true', Bool.not_eq_false', decide_eq_true_eq, decide_eq_false_iff_not] at hc) <;> (first | (exfalso; omega) | skip) <;> simp [-List.reduceReplicate, Nat.add_one_le_iff, -getElem?_pos, -getElem?_neg, List.getElem?_cons_zero, List.getElem?_cons_succ, iC, bestM, boolsC, hlc, hz, hwi, hss, hc])
         | ((with_reducible first | refine hother _ _ rfl ?_); simp only [inBlockA, thenA, noGotoA, Nat.reduceEqDiff, if_false, if_true, ↓reduceIte])
         | (with_reducible refine And.intro (by omega) ?_)
         | fail)
        refine next _ _ ((some c)) (by omega) (by first | trivial | omega | assumption) (by simp [-List.reduceReplicate, keep, bestM, iC, boolsC, hlc]) (by simp [-List.reduceReplicate, bestM, iC, boolsC, hlc])
  · have hi2 : i = v.length := by omega
    subst hi2
    cases o with
    | none =>
      have hB := hH
      repeat' (first 
       | (with_reducible first | refine awp_scope ?_ | refine awp_seq ?_ | refine awp_block ?_)
       | ((with_reducible first | refine awp_label ?_ | refine awp_skip ?_); try simp only [thenA, inBlockA, noGotoA])
       | (with_reducible refine awp_exit ?_; simp only [thenA, inBlockA, noGotoA, if_true, Nat.reduceEqDiff, if_false, ↓reduceIte])
       | (with_reducible refine awp_ret ?_; (try simp only [thenA, inBlockA, noGotoA]); (try simp [-List.reduceReplicate, Nat.add_one_le_iff, -getElem?_pos, -getElem?_neg, List.getElem?_cons_zero, List.getElem?_cons_succ, iC, bestM, hlt]))
       | ((with_reducible first | refine awp_reg 48 hX [0, 2, 3, 4, 5, 6, 7, 8, 10, 11, 12, 31, 34, 35, 36, 37, 41] ?_ | change postOf _ _ _ _ _); simp [-List.reduceReplicate, Nat.add_one_le_iff, -getElem?_pos, -getElem?_neg, List.getElem?_cons_zero, List.getElem?_cons_succ, iC, bestM, hlt])
       | (with_reducible refine awp_if_b rfl (fun hc => ?_) (fun hc => ?_) <;> (try simp [-getElem?_pos, -getElem?_neg] at hc) <;> (try (exfalso; omega)))
       | ((with_reducible first | refine GuardK_b (fun hc => ?_) (fun hc => ?_)) <;> (try simp only [Bool.not_eq_true', Bool.not_eq_false', decide_eq_true_eq, decide_eq_false_iff_not] at hc) <;> (first | (exfalso; omega) | skip) <;> simp [-List.reduceReplicate, Nat.add_one_le_iff, -getElem?_pos, -getElem?_neg, List.getElem?_cons_zero, List.getElem?_cons_succ, iC, bestM, hlt, hc])
       | ((with_reducible first | refine hother _ _ rfl ?_); simp only [inBlockA, thenA, noGotoA, Nat.reduceEqDiff, if_false, if_true, ↓reduceIte])
       | (with_reducible refine And.intro (by omega) ?_)
       | fail)
      refine awp_nil 6 3 1 (by simp) ?_
      simp
      refine awp_forU [6, 34, 35, 36] (fun k (_u : Unit) => [(36, .c (iC k))]) (fun k (_u : Unit) => ob ++ [⟨3, 1, true, 0, [], none⟩]) (fun k (_u : Unit) => True) (0) (()) (by first | trivial | (simp; done) | omega | (intros; simp at *; done)) (by simp [-List.reduceReplicate, keep, iC]) (by simp [-List.reduceReplicate, iC]) ?_
      rintro k _u Q1 hi hH next hother
      conv => arg 5; arg 1; simp only [List.cons_append, List.nil_append, keep, get, Nat.reduceEqDiff, if_true, if_false, ↓reduceIte]
      have hk0 : k = 0 := by omega
      subst hk0
      have hexit := hother; clear hother
      repeat' (first 
       | (with_reducible first | refine awp_scope ?_ | refine awp_seq ?_ | refine awp_block ?_)
       | ((with_reducible first | refine awp_label ?_ | refine awp_skip ?_); try simp only [thenA, inBlockA, noGotoA])
       | (with_reducible refine awp_exit ?_; simp only [thenA, inBlockA, noGotoA, if_true, Nat.reduceEqDiff, if_false, ↓reduceIte])
       | (with_reducible refine awp_ret ?_; (try simp only [thenA, inBlockA, noGotoA]); (try simp [-List.reduceReplicate, Nat.add_one_le_iff, -getElem?_pos, -getElem?_neg, List.getElem?_cons_zero, List.getElem?_cons_succ, iC]))
       | ((with_reducible first | refine awp_reg 48 hX [0, 2, 3, 4, 5, 6, 7, 8, 10, 11, 12, 31, 34, 35, 36, 37, 41] ?_ | change postOf _ _ _ _ _); simp [-List.reduceReplicate, Nat.add_one_le_iff, -getElem?_pos, -getElem?_neg, List.getElem?_cons_zero, List.getElem?_cons_succ, iC])
       | (with_reducible refine awp_if_b rfl (fun hc => ?_) (fun hc => ?_) <;> (try simp [-getElem?_pos, -getElem?_neg] at hc) <;> (try (exfalso; omega)))
       | ((with_reducible first | refine GuardK_b (fun hc => ?_) (fun hc => ?_)) <;> (try simp only [Bool.not_eq_true', Bool.not_eq_false', decide_eq_true_eq, decide_eq_false_iff_not] at hc) <;> (first | (exfalso; omega) | skip) <;> simp [-List.reduceReplicate, Nat.add_one_le_iff, -getElem?_pos, -getElem?_neg, List.getElem?_cons_zero, List.getElem?_cons_succ, iC, hc])
       | ((with_reducible first | refine hother _ _ rfl ?_); simp only [inBlockA, thenA, noGotoA, Nat.reduceEqDiff, if_false, if_true, ↓reduceIte])
       | (with_reducible refine And.intro (by omega) ?_)
       | fail)
      refine hexit _ _ rfl ?_
      simp only [inBlockA, thenA, ↓reduceIte]
      refine awp_frz2 6 ob [] [] _ [] _ hO rfl rfl rfl (by simp [ltB]) (by simp) ?_
      repeat' (first 
       | (with_reducible first | refine awp_scope ?_ | refine awp_seq ?_ | refine awp_block ?_)
       | ((with_reducible first | refine awp_label ?_ | refine awp_skip ?_); try simp only [thenA, inBlockA, noGotoA])
       | (with_reducible refine awp_exit ?_; simp only [thenA, inBlockA, noGotoA, if_true, Nat.reduceEqDiff, if_false, ↓reduceIte])
       | (with_reducible refine awp_ret ?_; (try simp only [thenA, inBlockA, noGotoA]); (try simp [-List.reduceReplicate, Nat.add_one_le_iff, -getElem?_pos, -getElem?_neg, List.getElem?_cons_zero, List.getElem?_cons_succ]))
       | ((with_reducible first | refine awp_reg 48 hX [0, 2, 3, 4, 5, 6, 7, 8, 10, 11, 12, 31, 34, 35, 36, 37, 41] ?_ | change postOf _ _ _ _ _); simp [-List.reduceReplicate, Nat.add_one_le_iff, -getElem?_pos, -getElem?_neg, List.getElem?_cons_zero, List.getElem?_cons_succ])
       | (with_reducible refine awp_if_b rfl (fun hc => ?_) (fun hc => ?_) <;> (try simp [-getElem?_pos, -getElem?_neg] at hc) <;> (try (exfalso; omega)))
       | ((with_reducible first | refine GuardK_b (fun hc => ?_) (fun hc => ?_)) <;> (try simp only [Bool.not_eq_true', Bool.not_eq_false', decide_eq_true_eq, decide_eq_false_iff_not] at hc) <;> (first | (exfalso; omega) | skip) <;> simp [-List.reduceReplicate, Nat.add_one_le_iff, -getElem?_pos, -getElem?_neg, List.getElem?_cons_zero, List.getElem?_cons_succ, hc])
       | ((with_reducible first | refine hother _ _ rfl ?_); simp only [inBlockA, thenA, noGotoA, Nat.reduceEqDiff, if_false, if_true, ↓reduceIte])
       | (with_reducible refine And.intro (by omega) ?_)
       | fail)
      subst hQ
      exact ⟨none, hB, rfl, rfl⟩
    | some b =>
      have hlb : b.length = v.length := hH.1
      have hp := posF_succ (gb b)
      have hpl := posF_len (gb b)
      have hQ2 : ∀ r, r = .c (intsC ((posF (gb b) b.length).map fun x : Nat => (x : Int))) → Q r ob := fun r h => by
        subst hQ; exact ⟨some b, hH, h, rfl⟩
      have hp0 := posF_0 (gb b)
      have hg := fun k => gb_get (b := b) (i := k)
      clear hQ
      generalize posF (gb b) = f at *
      repeat' (first 
       | (with_reducible first | refine awp_scope ?_ | refine awp_seq ?_ | refine awp_block ?_)
       | ((with_reducible first | refine awp_label ?_ | refine awp_skip ?_); try simp only [thenA, inBlockA, noGotoA])
       | (with_reducible refine awp_exit ?_; simp only [thenA, inBlockA, noGotoA, if_true, Nat.reduceEqDiff, if_false, ↓reduceIte])
       | (with_reducible refine awp_ret ?_; (try simp only [thenA, inBlockA, noGotoA]); (try simp [-List.reduceReplicate, Nat.add_one_le_iff, -getElem?_pos, -getElem?_neg, List.getElem?_cons_zero, List.getElem?_cons_succ, iC, bestM, hlt, boolsC]))
       | ((with_reducible first | refine awp_reg 48 hX [0, 2, 3, 4, 5, 6, 7, 8, 10, 11, 12, 31, 34, 35, 36, 37, 41] ?_ | change postOf _ _ _ _ _); simp [-List.reduceReplicate, Nat.add_one_le_iff, -getElem?_pos, -getElem?_neg, List.getElem?_cons_zero, List.getElem?_cons_succ, iC, bestM, hlt, boolsC])
       | (with_reducible refine awp_if_b rfl (fun hc => ?_) (fun hc => ?_) <;> (try simp [-getElem?_pos, -getElem?_neg] at hc) <;> (try (exfalso; omega)))
       | ((with_reducible first | refine GuardK_b (fun hc => ?_) (fun hc => ?_)) <;> (try simp only [Bool.not_eq_true', Bool.not_eq_false', decide_eq_true_eq, decide_eq_false_iff_not] at hc) <;> (first | (exfalso; omega) | skip) <;> simp [-List.reduceReplicate, Nat.add_one_le_iff, -getElem?_pos, -getElem?_neg, List.getElem?_cons_zero, List.getElem?_cons_succ, iC, bestM, hlt, boolsC, hc])
       | ((with_reducible first | refine hother _ _ rfl ?_); simp only [inBlockA, thenA, noGotoA, Nat.reduceEqDiff, if_false, if_true, ↓reduceIte])
       | (with_reducible refine And.intro (by omega) ?_)
       | fail)
      refine awp_nil 6 3 1 (by simp) ?_
      simp
      refine awp_forU [6, 34, 35, 36] (fun k (g : Nat × Bool) => [(6, .ms ob.length g.1 0 (f k).length), (36, .c (iC k))]) (fun k (g : Nat × Bool) => ob ++ [⟨3, 1, g.2, g.1, up ((f k).map fun x : Nat => iC x), none⟩]) (fun k (g : Nat × Bool) => True) (b.length) ((0, true)) (by first | trivial | (simp; done) | omega | (intros; simp at *; done)) (by simp [-List.reduceReplicate, keep, iC, hp0]) (by simp [-List.reduceReplicate, iC, hp0]) ?_
      rintro k g Q1 hi hH next hother
      conv => arg 5; arg 1; simp only [List.cons_append, List.nil_append, keep, get, Nat.reduceEqDiff, if_true, if_false, ↓reduceIte]
      have hwk := wrap_in ((k : Int) + 1) (by omega)
      have hplk := hpl k
      by_cases hkl : k < b.length
      · have hgk := hg k hkl
        have hpk := hp k
        cases c : gb b k
        · rw [c] at hgk hpk
          simp only [Bool.false_eq_true, if_false, List.append_nil] at hpk
          repeat' (first 
           | (with_reducible first | refine awp_scope ?_ | refine awp_seq ?_ | refine awp_block ?_)
           | ((with_reducible first | refine awp_label ?_ | refine awp_skip ?_); try simp only [thenA, inBlockA, noGotoA])
           | (with_reducible refine awp_exit ?_; simp only [thenA, inBlockA, noGotoA, if_true, Nat.reduceEqDiff, if_false, ↓reduceIte])
           | (with_reducible refine awp_ret ?_; (try simp only [thenA, inBlockA, noGotoA]); (try simp [-List.reduceReplicate, Nat.add_one_le_iff, -getElem?_pos, -getElem?_neg, List.getElem?_cons_zero, List.getElem?_cons_succ, iC, bC, hkl, hgk, hwk]))
           | ((with_reducible first | refine awp_reg 48 hX [0, 2, 3, 4, 5, 6, 7, 8, 10, 11, 12, 31, 34, 35, 36, 37, 41] ?_ | change postOf _ _ _ _ _); simp [-List.reduceReplicate, Nat.add_one_le_iff, -getElem?_pos, -getElem?_neg, List.getElem?_cons_zero, List.getElem?_cons_succ, iC, bC, hkl, hgk, hwk])
           | (with_reducible refine awp_if_b rfl (fun hc => ?_) (fun hc => ?_) <;> (try simp [-getElem?_pos, -getElem?_neg] at hc) <;> (try (exfalso; omega)))
           | ((with_reducible first | refine GuardK_b (fun hc => ?_) (fun hc => ?_)) <;> (try simp only [Bool.not_eq_true', Bool.not_eq_false', decide_eq_true_eq, decide_eq_false_iff_not] at hc) <;> (first | (exfalso; omega) | skip) <;> simp [-List.reduceReplicate, Nat.add_one_le_iff, -getElem?_pos, -getElem?_neg, List.getElem?_cons_zero, List.getElem?_cons_succ, iC, bC, hkl, hgk, hwk, hc])
           | ((with_reducible first | refine hother _ _ rfl ?_); simp only [inBlockA, thenA, noGotoA, Nat.reduceEqDiff, if_false, if_true, ↓reduceIte])
           | (with_reducible refine And.intro (by omega) ?_)
           | fail)
          refine next _ _ (g) (by omega) (by first | trivial | omega | assumption) (by simp [-List.reduceReplicate, keep, iC, hpk]) (by simp [-List.reduceReplicate, iC, hpk])
        · rw [c] at hgk hpk
          simp only [if_true] at hpk
          repeat' (first 
           | (with_reducible first | refine awp_scope ?_ | refine awp_seq ?_ | refine awp_block ?_)
           | ((with_reducible first | refine awp_label ?_ | refine awp_skip ?_); try simp only [thenA, inBlockA, noGotoA])
           | (with_reducible refine awp_exit ?_; simp only [thenA, inBlockA, noGotoA, if_true, Nat.reduceEqDiff, if_false, ↓reduceIte])
           | (with_reducible refine awp_ret ?_; (try simp only [thenA, inBlockA, noGotoA]); (try simp [-List.reduceReplicate, Nat.add_one_le_iff, -getElem?_pos, -getElem?_neg, List.getElem?_cons_zero, List.getElem?_cons_succ, iC, bC, hkl, hgk, hwk, hplk, roomB]))
           | ((with_reducible first | refine awp_reg 48 hX [0, 2, 3, 4, 5, 6, 7, 8, 10, 11, 12, 31, 34, 35, 36, 37, 41] ?_ | change postOf _ _ _ _ _); simp [-List.reduceReplicate, Nat.add_one_le_iff, -getElem?_pos, -getElem?_neg, List.getElem?_cons_zero, List.getElem?_cons_succ, iC, bC, hkl, hgk, hwk, hplk, roomB])
           | (with_reducible refine awp_if_b rfl (fun hc => ?_) (fun hc => ?_) <;> (try simp [-getElem?_pos, -getElem?_neg] at hc) <;> (try (exfalso; omega)))
           | ((with_reducible first | refine GuardK_b (fun hc => ?_) (fun hc => ?_)) <;> (try simp only [Bool.not_eq_true', Bool.not_eq_false', decide_eq_true_eq, decide_eq_false_iff_not] at hc) <;> (first | (exfalso; omega) | skip) <;> simp [-List.reduceReplicate, Nat.add_one_le_iff, -getElem?_pos, -getElem?_neg, List.getElem?_cons_zero, List.getElem?_cons_succ, iC, bC, hkl, hgk, hwk, hplk, roomB, hc])
           | ((with_reducible first | refine hother _ _ rfl ?_); simp only [inBlockA, thenA, noGotoA, Nat.reduceEqDiff, if_false, if_true, ↓reduceIte])
           | (with_reducible refine And.intro (by omega) ?_)
           | fail)
          refine next _ _ ((g.1 + 1, false)) (by omega) (by first | trivial | omega | assumption) (by simp [-List.reduceReplicate, keep, iC, hpk]) (by simp [-List.reduceReplicate, iC, hpk])
      · have hk2 : k = b.length := by omega
        subst hk2
        have hexit := hother; clear hother
        repeat' (first 
         | (with_reducible first | refine awp_scope ?_ | refine awp_seq ?_ | refine awp_block ?_)
         | ((with_reducible first | refine awp_label ?_ | refine awp_skip ?_); try simp only [thenA, inBlockA, noGotoA])
         | (with_reducible refine awp_exit ?_; simp only [thenA, inBlockA, noGotoA, if_true, Nat.reduceEqDiff, if_false, ↓reduceIte])
         | (with_reducible refine awp_ret ?_; (try simp only [thenA, inBlockA, noGotoA]); (try simp [-List.reduceReplicate, Nat.add_one_le_iff, -getElem?_pos, -getElem?_neg, List.getElem?_cons_zero, List.getElem?_cons_succ, iC, hkl]))
         | ((with_reducible first | refine awp_reg 48 hX [0, 2, 3, 4, 5, 6, 7, 8, 10, 11, 12, 31, 34, 35, 36, 37, 41] ?_ | change postOf _ _ _ _ _); simp [-List.reduceReplicate, Nat.add_one_le_iff, -getElem?_pos, -getElem?_neg, List.getElem?_cons_zero, List.getElem?_cons_succ, iC, hkl])
         | (with_reducible refine awp_if_b rfl (fun hc => ?_) (fun hc => ?_) <;> (try simp [-getElem?_pos, -getElem?_neg] at hc) <;> (try (exfalso; omega)))
         | ((with_reducible first | refine GuardK_b (fun hc => ?_) (fun hc => ?_)) <;> (try simp only [Bool.not_eq_true', Bool.not_eq_false', decide_eq_true_eq, decide_eq_false_iff_not] at hc) <;> (first | (exfalso; omega) | skip) <;> simp [-List.reduceReplicate, Nat.add_one_le_iff, -getElem?_pos, -getElem?_neg, List.getElem?_cons_zero, List.getElem?_cons_succ, iC, hkl, hc])
         | ((with_reducible first | refine hother _ _ rfl ?_); simp only [inBlockA, thenA, noGotoA, Nat.reduceEqDiff, if_false, if_true, ↓reduceIte])
         | (with_reducible refine And.intro (by omega) ?_)
         | fail)
        refine hexit _ _ rfl ?_
        simp only [inBlockA, thenA, ↓reduceIte]
        refine awp_frz2 6 ob [] [] _ ((f b.length).map fun x : Nat => iC x) _ hO rfl rfl rfl (by simp [ltB]) (by simp) ?_
        repeat' (first 
         | (with_reducible first | refine awp_scope ?_ | refine awp_seq ?_ | refine awp_block ?_)
         | ((with_reducible first | refine awp_label ?_ | refine awp_skip ?_); try simp only [thenA, inBlockA, noGotoA])
         | (with_reducible refine awp_exit ?_; simp only [thenA, inBlockA, noGotoA, if_true, Nat.reduceEqDiff, if_false, ↓reduceIte])
         | (with_reducible refine awp_ret ?_; (try simp only [thenA, inBlockA, noGotoA]); (try simp [-List.reduceReplicate, Nat.add_one_le_iff, -getElem?_pos, -getElem?_neg, List.getElem?_cons_zero, List.getElem?_cons_succ]))
         | ((with_reducible first | refine awp_reg 48 hX [0, 2, 3, 4, 5, 6, 7, 8, 10, 11, 12, 31, 34, 35, 36, 37, 41] ?_ | change postOf _ _ _ _ _); simp [-List.reduceReplicate, Nat.add_one_le_iff, -getElem?_pos, -getElem?_neg, List.getElem?_cons_zero, List.getElem?_cons_succ])
         | (with_reducible refine awp_if_b rfl (fun hc => ?_) (fun hc => ?_) <;> (try simp [-getElem?_pos, -getElem?_neg] at hc) <;> (try (exfalso; omega)))
         | ((with_reducible first | refine GuardK_b (fun hc => ?_) (fun hc => ?_)) <;> (try simp only [Bool.not_eq_true', Bool.not_eq_false', decide_eq_true_eq, decide_eq_false_iff_not] at hc) <;> (first | (exfalso; omega) | skip) <;> simp [-List.reduceReplicate, Nat.add_one_le_iff, -getElem?_pos, -getElem?_neg, List.getElem?_cons_zero, List.getElem?_cons_succ, hc])
         | ((with_reducible first | refine hother _ _ rfl ?_); simp only [inBlockA, thenA, noGotoA, Nat.reduceEqDiff, if_false, if_true, ↓reduceIte])
         | (with_reducible refine And.intro (by omega) ?_)
         | fail)
        exact hQ2 _ (by simp [intsC])
end Go.Av
