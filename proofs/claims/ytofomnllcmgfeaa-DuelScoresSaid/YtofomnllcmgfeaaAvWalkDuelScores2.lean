/- 12 texts of the program logic over abstract values, joined: each is proved without any condition beyond its own words. -/
import Derived.Test.YtofomnllcmgfeaaAvWalkDuelScores1
import Derived.RangeFuncBox
import Derived.RangeFuncLeaves
import Derived.Shelf.Abstract
import Derived.WalkKit
import Derived.OwnWalkIn
import Derived.TacticsInMore
import Derived.LoopNIn
import Derived.LoopIn
import Derived.Maps.AppendAt
import Derived.Below
import Derived.Stop.RegionWithIn
import Derived.Shelf.RegionOpen
import Derived.RangeFuncCalls
import Derived.Test.YtofomnllcmgfeaaProg
import Derived.Test.YtofomnllcmgfeaaAvEngine3
import Derived.Shelf.Strings.Builder1
import Derived.Shelf.Strings.Builder2
import Derived.Shelf.Strings.OnBuilder
import Derived.Shelf.Strings.BuilderF
import Derived.Shelf.Strings.Prefix
import Derived.Shelf.Bits.Mul64
import Derived.Shelf.Strings.Repeat
set_option linter.unusedVariables false
set_option linter.unusedSimpArgs false
set_option maxRecDepth 100000
set_option maxHeartbeats 4000000
namespace Go.Av
open Go Go.Proofs Go.Proofs.Ytofomnllcmgfeaa Go.RowKit
/-! ### Limbs, Of, Power, Mul -/
theorem d4s_len (l : List Nat) : (d4s l).length = 4 * l.length := by
  have := flat_len (f := d4) (sz := 4) (fun _ => rfl) l
  unfold d4s
  omega
theorem d4s_take (l : List Nat) (i x : Nat) (h : l[i]? = some x) : d4s (l.take (i + 1)) = d4s (l.take i) ++ d4 x := by
  unfold d4s
  rw [List.take_add_one, h, List.flatMap_append]
  simp
set_option maxHeartbeats 8000000 in
theorem limbs_den (l : List Nat) (n : Nat) (full : Bool) (hn : l.length = n) (hN : n ≤ 100000) (h0 : 0 < n) (hl : ∀ x ∈ l, x < 18446744073709551616) :
    DenV Try.prog 45 [.c (.sl (l.map u64C) n full)] (.c (ndC (dg (v64 l)))) := by
  refine Den.frame rfl rfl ?_
  have hv : trm (d4s l) = dg (v64 l) := by rw [trm_dg _ (d4s_lt l), d4s_val l hl]
  have p1 := trim_den (d4s l) false (4 * n) (by rw [d4s_len, hn]) (by omega)
  rw [hv] at p1
  have hst := d4s_take l
  have hsl := fun i => d4s_len (l.take i)
  have hs0 : d4s (l.take 0) = [] := rfl
  have hsn : d4s (l.take n) = d4s l := by rw [List.take_of_length_le (by omega)]
  obtain ⟨D, hD⟩ : ∃ D : Nat → List Nat, ∀ i, d4s (l.take i) = D i := ⟨_, fun _ => rfl⟩
  simp only [hD] at *
  have hDl : ∀ i, i ≤ n → (D i).length = 4 * i := fun i hi => by rw [hsl, List.length_take, Nat.min_eq_left (by omega)]
  clear hsl hD hv
  refine den_of Try.func45 rfl rfl (by simp [Try.ntmps45]) (fun X hX hO => ?_)
  rw [Try.ntmps45] at hX
  simp only [Try.results45]
  repeat' (first 
   | (with_reducible first | refine awp_scope ?_ | refine awp_seq ?_ | refine awp_block ?_)
   | ((with_reducible first | refine awp_label ?_ | refine awp_skip ?_); try simp only [thenA, inBlockA, noGotoA])
   | (with_reducible refine awp_exit ?_; simp only [thenA, inBlockA, noGotoA, if_true, Nat.reduceEqDiff, if_false, ↓reduceIte])
   | (with_reducible refine awp_ret ?_; (try simp only [thenA, inBlockA, noGotoA]); (try simp [-List.reduceReplicate, Nat.add_one_le_iff, -getElem?_pos, -getElem?_neg, List.getElem?_cons_zero, List.getElem?_cons_succ]))
   | ((with_reducible first | refine awp_reg 31 hX [0, 2, 3, 4, 5, 6, 10, 18] ?_ | change postOf _ _ _ _ _); simp [-List.reduceReplicate, Nat.add_one_le_iff, -getElem?_pos, -getElem?_neg, List.getElem?_cons_zero, List.getElem?_cons_succ])
   | (with_reducible refine awp_if_b rfl (fun hc => ?_) (fun hc => ?_) <;> (try simp [-getElem?_pos, -getElem?_neg] at hc) <;> (try (exfalso; omega)))
   | ((with_reducible first | refine GuardK_b (fun hc => ?_) (fun hc => ?_)) <;> (try simp only [Bool.not_eq_true', Bool.not_eq_false', decide_eq_true_eq, decide_eq_false_iff_not] at hc) <;> (first | (exfalso; omega) | skip) <;> simp [-List.reduceReplicate, Nat.add_one_le_iff, -getElem?_pos, -getElem?_neg, List.getElem?_cons_zero, List.getElem?_cons_succ, hc])
   | ((with_reducible first | refine hother _ _ rfl ?_ | refine hother2 _ _ rfl ?_); simp only [inBlockA, thenA, noGotoA, Nat.reduceEqDiff, if_false, if_true, ↓reduceIte])
   | (with_reducible refine And.intro (by omega) ?_)
   | fail)
  refine awp_nil 3 3 1 (by simp) ?_
  simp
  refine awp_forU [0, 3, 4] (fun i (g : Nat × Bool) => [(3, .ms 0 g.1 0 (4 * i)), (4, .c (iC i))]) (fun i (g : Nat × Bool) => [⟨3, 1, g.2, g.1, up ((D i).map nI), none⟩]) (fun i (g : Nat × Bool) => True) (n) ((0, true)) (by first | trivial | (simp; done) | omega | (intros; simp at *; done)) (by simp [-List.reduceReplicate, keep, iC, hs0]) (by simp [-List.reduceReplicate, iC, hs0]) ?_
  rintro i g Q1 hi hH next hother
  conv => arg 5; arg 1; simp only [List.cons_append, List.nil_append, keep, get, Nat.reduceEqDiff, if_true, if_false, ↓reduceIte]
  have hwi := wrap_in ((i : Int) + 1) (by omega)
  by_cases hlt : i < n
  · obtain ⟨x, hx⟩ : ∃ x, l[i]? = some x := ⟨_, List.getElem?_eq_getElem (by omega)⟩
    have hxl := hl x (List.mem_of_getElem? hx)
    have hsi := hst i x hx
    have hdl := hDl i (by omega)
    repeat' (first 
     | (with_reducible first | refine awp_scope ?_ | refine awp_seq ?_ | refine awp_block ?_)
     | ((with_reducible first | refine awp_label ?_ | refine awp_skip ?_); try simp only [thenA, inBlockA, noGotoA])
     | (with_reducible refine awp_exit ?_; simp only [thenA, inBlockA, noGotoA, if_true, Nat.reduceEqDiff, if_false, ↓reduceIte])
     | (with_reducible refine awp_ret ?_; (try simp only [thenA, inBlockA, noGotoA]); (try simp [-List.reduceReplicate, Nat.add_one_le_iff, -getElem?_pos, -getElem?_neg, List.getElem?_cons_zero, List.getElem?_cons_succ, iC, hlt, hx]))
     | ((with_reducible first | refine awp_reg 31 hX [0, 2, 3, 4, 5, 6, 10, 18] ?_ | change postOf _ _ _ _ _); simp [-List.reduceReplicate, Nat.add_one_le_iff, -getElem?_pos, -getElem?_neg, List.getElem?_cons_zero, List.getElem?_cons_succ, iC, hlt, hx])
     | (with_reducible refine awp_if_b rfl (fun hc => ?_) (fun hc => ?_) <;> (try simp [-getElem?_pos, -getElem?_neg] at hc) <;> (try (exfalso; omega)))
     | ((with_reducible first | refine GuardK_b (fun hc => ?_) (fun hc => ?_)) <;> (try simp only [Bool.not_eq_true', Bool.not_eq_false', decide_eq_true_eq, decide_eq_false_iff_not] at hc) <;> (first | (exfalso; omega) | skip) <;> simp [-List.reduceReplicate, Nat.add_one_le_iff, -getElem?_pos, -getElem?_neg, List.getElem?_cons_zero, List.getElem?_cons_succ, iC, hlt, hx, hc])
     | ((with_reducible first | refine hother _ _ rfl ?_ | refine hother2 _ _ rfl ?_); simp only [inBlockA, thenA, noGotoA, Nat.reduceEqDiff, if_false, if_true, ↓reduceIte])
     | (with_reducible refine And.intro (by omega) ?_)
     | fail)
    have next1 := next; have hother2 := hother; clear next hother
    have f1 : x / 65536 < 18446744073709551616 := by omega
    obtain ⟨XK, hXK0, hXK1, hXKb⟩ : ∃ XK : Nat → Nat, XK 0 = x ∧ (∀ k, XK (k + 1) = XK k / 65536) ∧ d4 x = [XK 0 % 65536, XK 1 % 65536, XK 2 % 65536, XK 3 % 65536] :=
      ⟨fun k => x / 65536 ^ k, by simp, fun k => by simp only; rw [Nat.div_div_eq_div_mul, Nat.pow_succ], by simp [d4, Nat.div_div_eq_div_mul]⟩
    have hXl : ∀ k, k ≤ 4 → XK k < 18446744073709551616 := by
      intro k
      induction k with
      | zero => intro _; omega
      | succ k ih => intro hk; have := ih (by omega); rw [hXK1]; omega
    obtain ⟨T, hT0, hT4, hT1, hTl⟩ : ∃ T : Nat → List Nat, T 0 = D i ∧ T 4 = D (i + 1) ∧ (∀ k, k < 4 → T (k + 1) = T k ++ [XK k % 65536]) ∧ ∀ k, k ≤ 4 → (T k).length = 4 * i + k := by
      refine ⟨fun k => D i ++ (d4 x).take k, by simp, by rw [hsi]; rfl, fun k hk => ?_, fun k hk => by simp [hdl, d4]; omega⟩
      rw [hXKb]
      match k, hk with
      | 0, _ => simp
      | 1, _ => simp
      | 2, _ => simp
      | 3, _ => simp
    rw [← hT0]
    clear hXKb hsi
    refine awp_forU [0, 3, 4, 5, 6] (fun k (q : Nat × Bool) => [(3, .ms 0 q.1 0 (4 * i + k)), (5, .c (u64C (XK k))), (6, .c (iC k))]) (fun k (q : Nat × Bool) => [⟨3, 1, q.2, q.1, up ((T k).map nI), none⟩]) (fun k (q : Nat × Bool) => True) (4) (g) (by first | trivial | (simp; done) | omega | (intros; simp at *; done)) (by simp [-List.reduceReplicate, keep, iC, u64C, hXK0]) (by simp [-List.reduceReplicate, iC, u64C, hXK0]) ?_
    rintro k q Q1 hi hH next hother
    conv => arg 5; arg 1; simp only [List.cons_append, List.nil_append, keep, get, Nat.reduceEqDiff, if_true, if_false, ↓reduceIte]
    have hwk := wrap_in ((k : Int) + 1) (by omega)
    by_cases hk4 : k < 4
    · have hk2 : (k : Int) < 4 := by omega
      have hxk := hXl k (by omega)
      have t1 := hT1 k hk4
      have tl := hTl k (by omega)
      have s1 := hXK1 k
      have m1 : ((XK k : Int)).tmod 65536 = ((XK k % 65536 : Nat) : Int) := rfl
      have w1 := wrap_in ((XK k % 65536 : Nat) : Int) (by have := Nat.mod_lt (XK k) (show 65536 > 0 by decide); omega)
      have m2 : ((XK k : Int)).tdiv 65536 = ((XK k / 65536 : Nat) : Int) := rfl
      have w2 := wrapU64 ((XK k / 65536 : Nat) : Int) (by omega)
      have hlt2 : (XK k / 65536 : Nat) < 18446744073709551616 := by omega
      rw [← s1] at m2 w2
      generalize XK (k + 1) = xk1 at *
      generalize XK k % 65536 = dk at *
      repeat' (first 
       | (with_reducible first | refine awp_scope ?_ | refine awp_seq ?_ | refine awp_block ?_)
       | ((with_reducible first | refine awp_label ?_ | refine awp_skip ?_); try simp only [thenA, inBlockA, noGotoA])
       | (with_reducible refine awp_exit ?_; simp only [thenA, inBlockA, noGotoA, if_true, Nat.reduceEqDiff, if_false, ↓reduceIte])
       | (with_reducible refine awp_ret ?_; (try simp only [thenA, inBlockA, noGotoA]); (try simp [-List.reduceReplicate, Nat.add_one_le_iff, -getElem?_pos, -getElem?_neg, List.getElem?_cons_zero, List.getElem?_cons_succ, iC, bC, u64C, nI, hk2, m1, w1, m2, w2, tl, roomB, hwk]))
       | ((with_reducible first | refine awp_reg 31 hX [0, 2, 3, 4, 5, 6, 10, 18] ?_ | change postOf _ _ _ _ _); simp [-List.reduceReplicate, Nat.add_one_le_iff, -getElem?_pos, -getElem?_neg, List.getElem?_cons_zero, List.getElem?_cons_succ, iC, bC, u64C, nI, hk2, m1, w1, m2, w2, tl, roomB, hwk])
       | (with_reducible refine awp_if_b rfl (fun hc => ?_) (fun hc => ?_) <;> (try simp [-getElem?_pos, -getElem?_neg] at hc) <;> (try (exfalso; omega)))
       | ((with_reducible first | refine GuardK_b (fun hc => ?_) (fun hc => ?_)) <;> (try simp only [Bool.not_eq_true', Bool.not_eq_false', decide_eq_true_eq, decide_eq_false_iff_not] at hc) <;> (first | (exfalso; omega) | skip) <;> simp [-List.reduceReplicate, Nat.add_one_le_iff, -getElem?_pos, -getElem?_neg, List.getElem?_cons_zero, List.getElem?_cons_succ, iC, bC, u64C, nI, hk2, m1, w1, m2, w2, tl, roomB, hwk, hc])
       | ((with_reducible first | refine hother _ _ rfl ?_ | refine hother2 _ _ rfl ?_); simp only [inBlockA, thenA, noGotoA, Nat.reduceEqDiff, if_false, if_true, ↓reduceIte])
       | (with_reducible refine And.intro (by omega) ?_)
       | fail)
      refine next _ _ ((q.1 + 1, false)) (by omega) (by first | trivial | omega | assumption) (by simp [-List.reduceReplicate, keep, iC, u64C, nI, t1, Nat.add_assoc]) (by simp [-List.reduceReplicate, iC, u64C, nI, t1, Nat.add_assoc])
    · have hk3 : k = 4 := by omega
      subst hk3
      have e4 : 4 * (i + 1) = 4 * i + 4 := by omega
      repeat' (first 
       | (with_reducible first | refine awp_scope ?_ | refine awp_seq ?_ | refine awp_block ?_)
       | ((with_reducible first | refine awp_label ?_ | refine awp_skip ?_); try simp only [thenA, inBlockA, noGotoA])
       | (with_reducible refine awp_exit ?_; simp only [thenA, inBlockA, noGotoA, if_true, Nat.reduceEqDiff, if_false, ↓reduceIte])
       | (with_reducible refine awp_ret ?_; (try simp only [thenA, inBlockA, noGotoA]); (try simp [-List.reduceReplicate, Nat.add_one_le_iff, -getElem?_pos, -getElem?_neg, List.getElem?_cons_zero, List.getElem?_cons_succ, iC, bC, u64C, hwi]))
       | ((with_reducible first | refine awp_reg 31 hX [0, 2, 3, 4, 5, 6, 10, 18] ?_ | change postOf _ _ _ _ _); simp [-List.reduceReplicate, Nat.add_one_le_iff, -getElem?_pos, -getElem?_neg, List.getElem?_cons_zero, List.getElem?_cons_succ, iC, bC, u64C, hwi])
       | (with_reducible refine awp_if_b rfl (fun hc => ?_) (fun hc => ?_) <;> (try simp [-getElem?_pos, -getElem?_neg] at hc) <;> (try (exfalso; omega)))
       | ((with_reducible first | refine GuardK_b (fun hc => ?_) (fun hc => ?_)) <;> (try simp only [Bool.not_eq_true', Bool.not_eq_false', decide_eq_true_eq, decide_eq_false_iff_not] at hc) <;> (first | (exfalso; omega) | skip) <;> simp [-List.reduceReplicate, Nat.add_one_le_iff, -getElem?_pos, -getElem?_neg, List.getElem?_cons_zero, List.getElem?_cons_succ, iC, bC, u64C, hwi, hc])
       | ((with_reducible first | refine hother _ _ rfl ?_ | refine hother2 _ _ rfl ?_); simp only [inBlockA, thenA, noGotoA, Nat.reduceEqDiff, if_false, if_true, ↓reduceIte])
       | (with_reducible refine And.intro (by omega) ?_)
       | fail)
      refine next1 _ _ (q) (by omega) (by first | trivial | omega | assumption) (by simp [-List.reduceReplicate, keep, iC, hT4, e4]) (by simp [-List.reduceReplicate, iC, hT4, e4])
  · have hi2 : i = n := by omega
    subst hi2
    have hexit := hother; clear hother next
    repeat' (first 
     | (with_reducible first | refine awp_scope ?_ | refine awp_seq ?_ | refine awp_block ?_)
     | ((with_reducible first | refine awp_label ?_ | refine awp_skip ?_); try simp only [thenA, inBlockA, noGotoA])
     | (with_reducible refine awp_exit ?_; simp only [thenA, inBlockA, noGotoA, if_true, Nat.reduceEqDiff, if_false, ↓reduceIte])
     | (with_reducible refine awp_ret ?_; (try simp only [thenA, inBlockA, noGotoA]); (try simp [-List.reduceReplicate, Nat.add_one_le_iff, -getElem?_pos, -getElem?_neg, List.getElem?_cons_zero, List.getElem?_cons_succ, iC, bC]))
     | ((with_reducible first | refine awp_reg 31 hX [0, 2, 3, 4, 5, 6, 10, 18] ?_ | change postOf _ _ _ _ _); simp [-List.reduceReplicate, Nat.add_one_le_iff, -getElem?_pos, -getElem?_neg, List.getElem?_cons_zero, List.getElem?_cons_succ, iC, bC])
     | (with_reducible refine awp_if_b rfl (fun hc => ?_) (fun hc => ?_) <;> (try simp [-getElem?_pos, -getElem?_neg] at hc) <;> (try (exfalso; omega)))
     | ((with_reducible first | refine GuardK_b (fun hc => ?_) (fun hc => ?_)) <;> (try simp only [Bool.not_eq_true', Bool.not_eq_false', decide_eq_true_eq, decide_eq_false_iff_not] at hc) <;> (first | (exfalso; omega) | skip) <;> simp [-List.reduceReplicate, Nat.add_one_le_iff, -getElem?_pos, -getElem?_neg, List.getElem?_cons_zero, List.getElem?_cons_succ, iC, bC, hc])
     | ((with_reducible first | refine hother _ _ rfl ?_ | refine hother2 _ _ rfl ?_); simp only [inBlockA, thenA, noGotoA, Nat.reduceEqDiff, if_false, if_true, ↓reduceIte])
     | (with_reducible refine And.intro (by omega) ?_)
     | fail)
    refine hexit _ _ rfl ?_
    simp only [inBlockA, thenA, ↓reduceIte]
    refine awp_frz2 3 [] [] [] _ ((D i).map nI) _ hO rfl rfl rfl (by simp [ltB]) (by simp) ?_
    rw [hsn]
    repeat' (first 
     | (with_reducible first | refine awp_scope ?_ | refine awp_seq ?_ | refine awp_block ?_)
     | ((with_reducible first | refine awp_label ?_ | refine awp_skip ?_); try simp only [thenA, inBlockA, noGotoA])
     | (with_reducible refine awp_exit ?_; simp only [thenA, inBlockA, noGotoA, if_true, Nat.reduceEqDiff, if_false, ↓reduceIte])
     | (with_reducible refine awp_ret ?_; (try simp only [thenA, inBlockA, noGotoA]); (try simp [-List.reduceReplicate, Nat.add_one_le_iff, -getElem?_pos, -getElem?_neg, List.getElem?_cons_zero, List.getElem?_cons_succ, iC, bC]))
     | ((with_reducible first | refine awp_reg 31 hX [0, 2, 3, 4, 5, 6, 10, 18] ?_ | change postOf _ _ _ _ _); simp [-List.reduceReplicate, Nat.add_one_le_iff, -getElem?_pos, -getElem?_neg, List.getElem?_cons_zero, List.getElem?_cons_succ, iC, bC])
     | ((first | (refine (p1 _).det ?_)); try simp [-List.reduceReplicate, Nat.add_one_le_iff, -getElem?_pos, -getElem?_neg, List.getElem?_cons_zero, List.getElem?_cons_succ, iC, bC])
     | (with_reducible refine awp_if_b rfl (fun hc => ?_) (fun hc => ?_) <;> (try simp [-getElem?_pos, -getElem?_neg] at hc) <;> (try (exfalso; omega)))
     | ((with_reducible first | refine GuardK_b (fun hc => ?_) (fun hc => ?_)) <;> (try simp only [Bool.not_eq_true', Bool.not_eq_false', decide_eq_true_eq, decide_eq_false_iff_not] at hc) <;> (first | (exfalso; omega) | skip) <;> simp [-List.reduceReplicate, Nat.add_one_le_iff, -getElem?_pos, -getElem?_neg, List.getElem?_cons_zero, List.getElem?_cons_succ, iC, bC, hc])
     | ((with_reducible first | refine hother _ _ rfl ?_ | refine hother2 _ _ rfl ?_); simp only [inBlockA, thenA, noGotoA, Nat.reduceEqDiff, if_false, if_true, ↓reduceIte])
     | (with_reducible refine And.intro (by omega) ?_)
     | fail)
theorem v64_one (x : Nat) : v64 [x] = x := by simp [v64]
theorem of05_den (x : Nat) (hx : x < 18446744073709551616) : DenV Try.prog 86 [.c (u64C x)] (.c (ndC (dg x))) := by
  refine Den.frame rfl rfl ?_
  have p1 := limbs_den [x] 1 true rfl (by omega) (by omega) (by simp; exact hx)
  rw [v64_one] at p1
  simp only [List.map_cons, List.map_nil] at p1
  generalize dg x = d at *
  unfold u64C at *
  refine den_of Try.func86 rfl rfl (by simp [Try.ntmps86]) (fun X hX hO => ?_)
  rw [Try.ntmps86] at hX
  simp only [Try.results86]
  repeat' (first 
   | (with_reducible first | refine awp_scope ?_ | refine awp_seq ?_ | refine awp_block ?_)
   | ((with_reducible first | refine awp_label ?_ | refine awp_skip ?_); try simp only [thenA, inBlockA, noGotoA])
   | (with_reducible refine awp_exit ?_; simp only [thenA, inBlockA, noGotoA, if_true, Nat.reduceEqDiff, if_false, ↓reduceIte])
   | (with_reducible refine awp_ret ?_; (try simp only [thenA, inBlockA, noGotoA]); (try simp [-List.reduceReplicate, Nat.add_one_le_iff, -getElem?_pos, -getElem?_neg, List.getElem?_cons_zero, List.getElem?_cons_succ]))
   | ((with_reducible first | refine awp_reg 6 hX [0, 2] ?_ | change postOf _ _ _ _ _); simp [-List.reduceReplicate, Nat.add_one_le_iff, -getElem?_pos, -getElem?_neg, List.getElem?_cons_zero, List.getElem?_cons_succ])
   | ((first | (refine (p1 _).det ?_)); try simp [-List.reduceReplicate, Nat.add_one_le_iff, -getElem?_pos, -getElem?_neg, List.getElem?_cons_zero, List.getElem?_cons_succ])
   | (with_reducible refine awp_if_b rfl (fun hc => ?_) (fun hc => ?_) <;> (try simp [-getElem?_pos, -getElem?_neg] at hc) <;> (try (exfalso; omega)))
   | ((with_reducible first | refine GuardK_b (fun hc => ?_) (fun hc => ?_)) <;> (try simp only [Bool.not_eq_true', Bool.not_eq_false', decide_eq_true_eq, decide_eq_false_iff_not] at hc) <;> (first | (exfalso; omega) | skip) <;> simp [-List.reduceReplicate, Nat.add_one_le_iff, -getElem?_pos, -getElem?_neg, List.getElem?_cons_zero, List.getElem?_cons_succ, hc])
   | (with_reducible refine And.intro (by omega) ?_)
   | fail)
/-- Digits of a power of two. -/
def pwL (n : Nat) : List Nat := List.replicate (n / 16) 0 ++ [2 ^ (n % 16)]
theorem pwL_val (n : Nat) : dgv (pwL n) = 2 ^ n := by
  unfold pwL
  rw [dgv_app, dgv_rep, List.length_replicate]
  simp only [dgv, Nat.zero_add, Nat.mul_zero, Nat.add_zero]
  rw [show (65536 : Nat) = 2 ^ 16 by rfl, ← Nat.pow_mul, ← Nat.pow_add]
  congr 1
  omega
theorem pwL_lt (n : Nat) : ∀ d ∈ pwL n, d < 65536 := fun d hd => by
  unfold pwL at hd
  rcases List.mem_append.1 hd with h | h
  · rw [List.mem_replicate] at h; omega
  · simp only [List.mem_singleton] at h
    subst h
    exact Nat.lt_of_lt_of_le (Nat.pow_lt_pow_right (show 1 < 2 by decide) (Nat.mod_lt n (show 16 > 0 by decide))) (by decide)
theorem pwL_len (n : Nat) : (pwL n).length = n / 16 + 1 := by simp [pwL]
theorem up_set (l : List C) (s : Nat) (z : C) : (up l).set s (M.c z) = up (l.set s z) := by simp [up, List.map_set]
set_option maxHeartbeats 4000000 in
theorem power_own (n : Nat) (hn : n ≤ 10000) : Den Try.prog 87 [.c (iC n)] [] (fun r ob' => r = .ms 0 0 0 (n / 16 + 1) ∧ ob' = [⟨3, 1, false, 0, up ((pwL n).map nI), none⟩]) := by
  have hl := pwL_len n
  obtain ⟨s, hs⟩ : ∃ s, n / 16 = s := ⟨_, rfl⟩
  obtain ⟨b, hb⟩ : ∃ b, n % 16 = b := ⟨_, rfl⟩
  have hset : (List.replicate (s + 1) (C.v (.int .i64 0))).set s (C.v (.int .i64 ((2 ^ b : Nat) : Int))) = (pwL n).map nI := by
    unfold pwL
    rw [hs, hb, List.map_append, List.map_replicate, List.replicate_succ', List.set_append_right _ _ (by simp)]
    simp [nI, iC]
  rw [hs] at hl
  have q1 : ((n : Int)).tdiv 16 = (s : Int) := by rw [← hs]; rfl
  have q2 : ((n : Int)).tmod 16 = (b : Int) := by rw [← hb]; rfl
  have w1 := wrap_in (s : Int) (by omega)
  have w2 := wrap_in ((s : Int) + 1) (by omega)
  have hb16 : b < 16 := by omega
  have mb : min b IntKind.i64.bits = b := by show min b 64 = b; omega
  have i1 : ¬ (b : Int) < 0 := by omega
  have hp : 2 ^ b ≤ 2 ^ 15 := Nat.pow_le_pow_right (by decide) (by omega)
  obtain ⟨pb, hpb⟩ : ∃ pb, 2 ^ b = pb := ⟨_, rfl⟩
  have e2 : ((2 : Int) ^ b) = (pb : Int) := by rw [← hpb]; simp
  rw [hpb] at hp hset
  have w3 : IntKind.i64.wrap (2 ^ b) = (pb : Int) := by
    rw [e2, wrap_in _ (by omega)]
  have tn : ((s : Int) + 1).toNat = s + 1 := by omega
  have lr : (List.replicate (s + 1) (C.v (Value.int .i64 0))).length = s + 1 := by simp
  have hup : (up (List.replicate (s + 1) (C.v (.int .i64 0)))).set s (M.c (C.v (.int .i64 (pb : Int)))) = up ((pwL n).map nI) := by rw [up_set, hset]
  rw [hs]
  clear hset hpb e2
  generalize (pwL n).map nI = cs at *
  refine den_of Try.func87 rfl rfl (by simp [Try.ntmps87]) (fun X hX hO => ?_)
  rw [Try.ntmps87] at hX
  simp only [Try.results87]
  repeat' (first 
   | (with_reducible first | refine awp_scope ?_ | refine awp_seq ?_ | refine awp_block ?_)
   | ((with_reducible first | refine awp_label ?_ | refine awp_skip ?_); try simp only [thenA, inBlockA, noGotoA])
   | (with_reducible refine awp_exit ?_; simp only [thenA, inBlockA, noGotoA, if_true, Nat.reduceEqDiff, if_false, ↓reduceIte])
   | (with_reducible refine awp_ret ?_; (try simp only [thenA, inBlockA, noGotoA]); (try simp [-List.reduceReplicate, Nat.add_one_le_iff, -getElem?_pos, -getElem?_neg, List.getElem?_cons_zero, List.getElem?_cons_succ, iC, bC, q1, q2, w1, w2, mb, i1, w3, tn, lr, hup]))
   | ((with_reducible first | refine awp_reg 16 hX [0, 2, 3] ?_ | change postOf _ _ _ _ _); simp [-List.reduceReplicate, Nat.add_one_le_iff, -getElem?_pos, -getElem?_neg, List.getElem?_cons_zero, List.getElem?_cons_succ, iC, bC, q1, q2, w1, w2, mb, i1, w3, tn, lr, hup])
   | (with_reducible refine awp_if_b rfl (fun hc => ?_) (fun hc => ?_) <;> (try simp [-getElem?_pos, -getElem?_neg] at hc) <;> (try (exfalso; omega)))
   | ((with_reducible first | refine GuardK_b (fun hc => ?_) (fun hc => ?_)) <;> (try simp only [Bool.not_eq_true', Bool.not_eq_false', decide_eq_true_eq, decide_eq_false_iff_not] at hc) <;> (first | (exfalso; omega) | skip) <;> simp [-List.reduceReplicate, Nat.add_one_le_iff, -getElem?_pos, -getElem?_neg, List.getElem?_cons_zero, List.getElem?_cons_succ, iC, bC, q1, q2, w1, w2, mb, i1, w3, tn, lr, hup, hc])
   | (with_reducible refine And.intro (by omega) ?_)
   | fail)
theorem power_den (n : Nat) (hn : n ≤ 10000) : DenV Try.prog 87 [.c (iC n)] (.c (ndC (pwL n))) :=
  Den.frame rfl rfl ((power_own n hn).freeze fun r ob' ⟨h1, h2⟩ => ⟨0, _, _, (pwL n).map nI, h1, h2, rfl, rfl, by unfold ndC; rw [pwL_len]⟩)
/-! Mul -/
theorem mul_bound (X Y i k c lx ly : Nat) (h : c * 65536 ^ (i + k) ≤ X * Y) (hc : 0 < c) (hx : X < 65536 ^ (i + 1)) (hy : Y < 65536 ^ ly) (hi : i < lx) : i + k < lx + ly + 1 := by
  rcases Nat.lt_or_ge (i + k) (lx + ly + 1) with d | d
  · exact d
  · exfalso
    have h1 : 65536 ^ (i + k) ≤ X * Y := Nat.le_trans (by
      have := Nat.mul_le_mul_right (65536 ^ (i + k)) hc
      simpa using this) h
    have h2 : X * Y ≤ 65536 ^ (i + 1) * 65536 ^ ly := Nat.mul_le_mul (by omega) (by omega)
    rw [← Nat.pow_add] at h2
    have h3 : 65536 ^ (i + 1 + ly) < 65536 ^ (i + k) := Nat.pow_lt_pow_right (by decide) (by omega)
    omega
theorem all_set {l : List Nat} {j d : Nat} (h : ∀ x ∈ l, x < 65536) (hd : d < 65536) : ∀ x ∈ l.set j d, x < 65536 := fun x hx => by
  rcases List.mem_or_eq_of_mem_set hx with h1 | h1
  · exact h x h1
  · subst h1; exact hd
/-- One digit's step. -/
theorem mul_step (out x y : List Nat) (i k o c yk T Y0 : Nat) (h : out[i + k]? = some o)
    (hv : dgv out + c * 65536 ^ (i + k) = T + Y0) : dgv (out.set (i + k) ((o + c + yk) % 65536)) + (o + c + yk) / 65536 * 65536 ^ (i + k + 1) = T + (Y0 + yk * 65536 ^ (i + k)) := by
  have h1 := dgv_set out (i + k) o ((o + c + yk) % 65536) h
  have e : (o + c + yk) % 65536 * 65536 ^ (i + k) + (o + c + yk) / 65536 * 65536 ^ (i + k + 1) = (o + c + yk) * 65536 ^ (i + k) := by
    rw [Nat.pow_succ, ← Nat.mul_assoc, Nat.mul_right_comm, ← Nat.add_mul]
    congr 1
    omega
  have e2 : (o + c + yk) * 65536 ^ (i + k) = o * 65536 ^ (i + k) + c * 65536 ^ (i + k) + yk * 65536 ^ (i + k) := by rw [Nat.add_mul, Nat.add_mul]
  omega
end Go.Av

set_option linter.unusedVariables false
set_option linter.unusedSimpArgs false
set_option maxRecDepth 100000
set_option maxHeartbeats 4000000
namespace Go.Av
open Go Go.Proofs Go.Proofs.Ytofomnllcmgfeaa Go.RowKit
/-! ### Mul -/
set_option maxHeartbeats 8000000 in
theorem mul_den (x y : List Nat) (hx : ∀ d ∈ x, d < 65536) (hy : ∀ d ∈ y, d < 65536) (hlx : x.length ≤ 10000) (hly : y.length ≤ 10000) :
    DenV Try.prog 85 [.c (ndC x), .c (ndC y)] (.c (ndC (dg (dgv x * dgv y)))) := by
  refine Den.frame rfl rfl ?_
  obtain ⟨L, hL⟩ : ∃ L, x.length + y.length + 1 = L := ⟨_, rfl⟩
  have tr := fun (out : List Nat) (h : out.length = L) => trim_den out false L h (by omega)
  have hfin : ∀ out : List Nat, (∀ d ∈ out, d < 65536) → dgv out = dgv (x.take x.length) * dgv y → trm out = dg (dgv x * dgv y) := fun out h1 h2 => by
    rw [trm_dg out h1, h2, List.take_of_length_le (Nat.le_refl _)]
  have hg0 : (List.replicate L 0).map nI = List.replicate L (C.v (.int .i64 0)) := by rw [List.map_replicate]; rfl
  have hXs := fun (i d : Nat) (h : x[i]? = some d) => dgv_take x i d h
  have hYs := fun (i d : Nat) (h : y[i]? = some d) => dgv_take y i d h
  have hXl : ∀ i, i < x.length → dgv (x.take (i + 1)) < 65536 ^ (i + 1) := fun i h => by
    have := dgv_lt (x.take (i + 1)) (fun d hd => hx d (List.mem_of_mem_take hd))
    rwa [List.length_take, Nat.min_eq_left (by omega)] at this
  have hYl := dgv_lt y hy
  have hstep := mul_step
  have w1 := wrap_in ((x.length : Int) + (y.length : Int)) (by omega)
  have w2 := wrap_in ((x.length : Int) + (y.length : Int) + 1) (by omega)
  have hLi : (x.length : Int) + (y.length : Int) + 1 = (L : Int) := by omega
  rw [hLi] at w2
  unfold ndC
  refine den_of Try.func85 rfl rfl (by simp [Try.ntmps85]) (fun X hX hO => ?_)
  rw [Try.ntmps85] at hX
  simp only [Try.results85]
  repeat' (first 
   | (with_reducible first | refine awp_scope ?_ | refine awp_seq ?_ | refine awp_block ?_)
   | ((with_reducible first | refine awp_label ?_ | refine awp_skip ?_); try simp only [thenA, inBlockA, noGotoA])
   | (with_reducible refine awp_exit ?_; simp only [thenA, inBlockA, noGotoA, if_true, Nat.reduceEqDiff, if_false, ↓reduceIte])
   | (with_reducible refine awp_ret ?_; (try simp only [thenA, inBlockA, noGotoA]); (try simp [-List.reduceReplicate, Nat.add_one_le_iff, -getElem?_pos, -getElem?_neg, List.getElem?_cons_zero, List.getElem?_cons_succ, iC, w1, w2, hLi]))
   | ((with_reducible first | refine awp_reg 67 hX [0, 1, 4, 5, 6, 7, 8, 9, 20, 30, 44] ?_ | refine awp_drw 67 hX [0, 1, 4, 5, 6, 7, 8, 9, 20, 30, 44] Tab.mixed (by kernel_rfl) ?_ | refine DEv_cut _ _ _ _ _ _ _ _ _ _ _ _ (by kernel_rfl) ?_ | change postOf _ _ _ _ _); simp [-List.reduceReplicate, Nat.add_one_le_iff, -getElem?_pos, -getElem?_neg, List.getElem?_cons_zero, List.getElem?_cons_succ, iC, w1, w2, hLi])
   | (with_reducible refine awp_if_b rfl (fun hc => ?_) (fun hc => ?_) <;> (try simp [-getElem?_pos, -getElem?_neg] at hc) <;> (try (exfalso; omega)))
   | ((with_reducible first | refine GuardK_b (fun hc => ?_) (fun hc => ?_) | refine DGuard_b _ _ _ _ _ _ _ _ _ _ (fun hc => ?_) (fun hc => ?_)) <;> (try simp only [Bool.not_eq_true', Bool.not_eq_false', decide_eq_true_eq, decide_eq_false_iff_not] at hc) <;> (first | (exfalso; omega) | skip) <;> simp [-List.reduceReplicate, Nat.add_one_le_iff, -getElem?_pos, -getElem?_neg, List.getElem?_cons_zero, List.getElem?_cons_succ, iC, w1, w2, hLi, hc])
   | ((with_reducible first | refine hother _ _ rfl ?_ | refine hother2 _ _ rfl ?_); simp only [inBlockA, thenA, noGotoA, Nat.reduceEqDiff, if_false, if_true, ↓reduceIte])
   | (with_reducible refine And.intro (by omega) ?_)
   | fail)
  rw [← hg0]
  refine awp_forU [0, 1, 5, 6] (fun i (out : List Nat) => [(6, .c (iC i))]) (fun i (out : List Nat) => [⟨3, 1, false, 0, up (out.map nI), none⟩]) (fun i (out : List Nat) => out.length = L ∧ (∀ d ∈ out, d < 65536) ∧ dgv out = dgv (x.take i) * dgv y) (x.length) (List.replicate L 0) (⟨by simp, fun d hd => by rw [List.mem_replicate] at hd; omega, by rw [dgv_rep]; simp [dgv]⟩) (by simp [-List.reduceReplicate, keep, iC]) (by simp [-List.reduceReplicate, iC]) ?_
  rintro i out Q1 hi hH next hother
  conv => arg 5; arg 1; simp only [List.cons_append, List.nil_append, keep, get, Nat.reduceEqDiff, if_true, if_false, ↓reduceIte]
  obtain ⟨ho1, ho2, ho3⟩ := hH
  have hwi := wrap_in ((i : Int) + 1) (by omega)
  by_cases hlt : i < x.length
  · obtain ⟨xi, hxi⟩ : ∃ d, x[i]? = some d := ⟨_, List.getElem?_eq_getElem hlt⟩
    have hxb := hx xi (List.mem_of_getElem? hxi)
    have hxs := hXs i xi hxi
    have hxl := hXl i hlt
    repeat' (first 
     | (with_reducible first | refine awp_scope ?_ | refine awp_seq ?_ | refine awp_block ?_)
     | ((with_reducible first | refine awp_label ?_ | refine awp_skip ?_); try simp only [thenA, inBlockA, noGotoA])
     | (with_reducible refine awp_exit ?_; simp only [thenA, inBlockA, noGotoA, if_true, Nat.reduceEqDiff, if_false, ↓reduceIte])
     | (with_reducible refine awp_ret ?_; (try simp only [thenA, inBlockA, noGotoA]); (try simp [-List.reduceReplicate, Nat.add_one_le_iff, -getElem?_pos, -getElem?_neg, List.getElem?_cons_zero, List.getElem?_cons_succ, iC, bC, hlt]))
     | ((with_reducible first | refine awp_reg 67 hX [0, 1, 4, 5, 6, 7, 8, 9, 20, 30, 44] ?_ | refine awp_drw 67 hX [0, 1, 4, 5, 6, 7, 8, 9, 20, 30, 44] Tab.mixed (by kernel_rfl) ?_ | refine DEv_cut _ _ _ _ _ _ _ _ _ _ _ _ (by kernel_rfl) ?_ | change postOf _ _ _ _ _); simp [-List.reduceReplicate, Nat.add_one_le_iff, -getElem?_pos, -getElem?_neg, List.getElem?_cons_zero, List.getElem?_cons_succ, iC, bC, hlt])
     | (with_reducible refine awp_if_b rfl (fun hc => ?_) (fun hc => ?_) <;> (try simp [-getElem?_pos, -getElem?_neg] at hc) <;> (try (exfalso; omega)))
     | ((with_reducible first | refine GuardK_b (fun hc => ?_) (fun hc => ?_) | refine DGuard_b _ _ _ _ _ _ _ _ _ _ (fun hc => ?_) (fun hc => ?_)) <;> (try simp only [Bool.not_eq_true', Bool.not_eq_false', decide_eq_true_eq, decide_eq_false_iff_not] at hc) <;> (first | (exfalso; omega) | skip) <;> simp [-List.reduceReplicate, Nat.add_one_le_iff, -getElem?_pos, -getElem?_neg, List.getElem?_cons_zero, List.getElem?_cons_succ, iC, bC, hlt, hc])
     | ((with_reducible first | refine hother _ _ rfl ?_ | refine hother2 _ _ rfl ?_); simp only [inBlockA, thenA, noGotoA, Nat.reduceEqDiff, if_false, if_true, ↓reduceIte])
     | (with_reducible refine And.intro (by omega) ?_)
     | fail)
    have next1 := next; have hother2 := hother; clear next hother
    refine awp_forU [0, 1, 5, 6, 7, 8] (fun k (p : List Nat × Nat) => [(7, .c (iC p.2)), (8, .c (iC k))]) (fun k (p : List Nat × Nat) => [⟨3, 1, false, 0, up (p.1.map nI), none⟩]) (fun k (p : List Nat × Nat) => p.1.length = L ∧ (∀ d ∈ p.1, d < 65536) ∧ p.2 < 65536 ∧ dgv p.1 + p.2 * 65536 ^ (i + k) = dgv (x.take i) * dgv y + xi * 65536 ^ i * dgv (y.take k)) (L - i) ((out, 0)) (⟨ho1, ho2, by omega, by simp [dgv]; exact ho3⟩) (by simp [-List.reduceReplicate, keep, iC]) (by simp [-List.reduceReplicate, iC]) ?_
    rintro k p Q1 hi hH next hother
    conv => arg 5; arg 1; simp only [List.cons_append, List.nil_append, keep, get, Nat.reduceEqDiff, if_true, if_false, ↓reduceIte]
    obtain ⟨o1, c⟩ := p
    obtain ⟨hp1, hp2, hp3, hp4⟩ := hH
    simp only at hp1 hp2 hp3 hp4
    have hwk := wrap_in ((k : Int) + 1) (by omega)
    have hwik := wrap_in ((i : Int) + (k : Int)) (by omega)
    have hikn : ((i : Int) + (k : Int)).toNat = i + k := by omega
    have hol : (o1.map nI).length = L := by simp [hp1]
    by_cases hky : k < y.length
    · have hikL : i + k < L := by omega
      obtain ⟨yk, hyk⟩ : ∃ d, y[k]? = some d := ⟨_, List.getElem?_eq_getElem hky⟩
      have hyb := hy yk (List.mem_of_getElem? hyk)
      have hys := hYs k yk hyk
      obtain ⟨o, ho⟩ : ∃ d, o1[i + k]? = some d := ⟨_, List.getElem?_eq_getElem (by omega)⟩
      have hob := hp2 o (List.mem_of_getElem? ho)
      have hmb : xi * yk ≤ 65535 * 65535 := Nat.mul_le_mul (by omega) (by omega)
      have hY : xi * 65536 ^ i * dgv (y.take (k + 1)) = xi * 65536 ^ i * dgv (y.take k) + xi * yk * 65536 ^ (i + k) := by
        rw [hys, Nat.mul_add]
        congr 1
        rw [Nat.pow_add, Nat.mul_assoc, Nat.mul_assoc, Nat.mul_comm yk (65536 ^ k), Nat.mul_left_comm (65536 ^ i) (65536 ^ k), Nat.mul_comm yk]
        rw [Nat.mul_left_comm (65536 ^ k), Nat.mul_assoc]
      have hst := hstep o1 x y i k o c (xi * yk) _ _ ho hp4
      obtain ⟨m, hm⟩ : ∃ m, xi * yk = m := ⟨_, rfl⟩
      have hmi : ((xi : Int) * (yk : Int)) = (m : Int) := by rw [← hm, Int.natCast_mul]
      rw [hm] at hst hmb hY
      have v1 := wrap_in ((o : Int) + (c : Int)) (by omega)
      have v2 := wrap_in ((m : Int)) (by omega)
      have v3 := wrap_in ((o : Int) + (c : Int) + (m : Int)) (by omega)
      have v4 : ((o : Int) + (c : Int) + (m : Int)).tmod 65536 = (((o + c + m) % 65536 : Nat) : Int) := by
        rw [show ((o : Int) + (c : Int) + (m : Int)) = ((o + c + m : Nat) : Int) by omega]; rfl
      have v5 : ((o : Int) + (c : Int) + (m : Int)).tdiv 65536 = (((o + c + m) / 65536 : Nat) : Int) := by
        rw [show ((o : Int) + (c : Int) + (m : Int)) = ((o + c + m : Nat) : Int) by omega]; rfl
      have v6 := wrap_in (((o + c + m) / 65536 : Nat) : Int) (by omega)
      have hq1 : (o + c + m) / 65536 < 65536 := by omega
      have hq2 : (o + c + m) % 65536 < 65536 := Nat.mod_lt _ (by decide)
      generalize (o + c + m) / 65536 = qd at *
      generalize (o + c + m) % 65536 = qm at *
      have nx : (o1.set (i + k) qm).length = L ∧ (∀ d ∈ o1.set (i + k) qm, d < 65536) ∧ qd < 65536 ∧ dgv (o1.set (i + k) qm) + qd * 65536 ^ (i + (k + 1)) = dgv (x.take i) * dgv y + xi * 65536 ^ i * dgv (y.take (k + 1)) :=
        ⟨by simp [hp1], all_set hp2 hq2, hq1, by rw [hY]; exact hst⟩
      have og : (o1.map nI)[i + k]? = some (nI o) := by rw [List.getElem?_map, ho]; rfl
      have xg : (x.map nI)[i]? = some (nI xi) := by rw [List.getElem?_map, hxi]; rfl
      have yg : (y.map nI)[k]? = some (nI yk) := by rw [List.getElem?_map, hyk]; rfl
      have hset : (up (o1.map nI)).set (i + k) (M.c (nI qm)) = up ((o1.set (i + k) qm).map nI) := by rw [up_set, List.map_set]
      have hnext := fun fr' ob' => next fr' ob' (o1.set (i + k) qm, qd) (by omega) nx
      clear next nx hst hY hp4 hstep hfin tr
      generalize (o1.set (i + k) qm).map nI = oc' at *
      generalize o1.map nI = oc at *
      generalize x.map nI = xc at *
      generalize y.map nI = yc at *
      unfold nI iC at og xg yg hset
      repeat' (first 
       | (with_reducible first | refine awp_scope ?_ | refine awp_seq ?_ | refine awp_block ?_)
       | ((with_reducible first | refine awp_label ?_ | refine awp_skip ?_); try simp only [thenA, inBlockA, noGotoA])
       | (with_reducible refine awp_exit ?_; simp only [thenA, inBlockA, noGotoA, if_true, Nat.reduceEqDiff, if_false, ↓reduceIte])
       | (with_reducible refine awp_ret ?_; (try simp only [thenA, inBlockA, noGotoA]); (try simp [-List.reduceReplicate, Nat.add_one_le_iff, -getElem?_pos, -getElem?_neg, List.getElem?_cons_zero, List.getElem?_cons_succ, iC, bC, hlt, hky, hwik, hikn, hol, hikL, og, xg, yg, hset, hmi, v1, v2, v3, v4, v5, v6, hwk]))
       | ((with_reducible first | refine awp_reg 67 hX [0, 1, 4, 5, 6, 7, 8, 9, 20, 30, 44] ?_ | refine awp_drw 67 hX [0, 1, 4, 5, 6, 7, 8, 9, 20, 30, 44] Tab.mixed (by kernel_rfl) ?_ | refine DEv_cut _ _ _ _ _ _ _ _ _ _ _ _ (by kernel_rfl) ?_ | change postOf _ _ _ _ _); simp [-List.reduceReplicate, Nat.add_one_le_iff, -getElem?_pos, -getElem?_neg, List.getElem?_cons_zero, List.getElem?_cons_succ, iC, bC, hlt, hky, hwik, hikn, hol, hikL, og, xg, yg, hset, hmi, v1, v2, v3, v4, v5, v6, hwk])
       | (with_reducible refine awp_if_b rfl (fun hc => ?_) (fun hc => ?_) <;> (try simp [-getElem?_pos, -getElem?_neg] at hc) <;> (try (exfalso; omega)))
       | ((with_reducible first | refine GuardK_b (fun hc => ?_) (fun hc => ?_) | refine DGuard_b _ _ _ _ _ _ _ _ _ _ (fun hc => ?_) (fun hc => ?_)) <;> (try simp only [Bool.not_eq_true', Bool.not_eq_false', decide_eq_true_eq, decide_eq_false_iff_not] at hc) <;> (first | (exfalso; omega) | skip) <;> simp [-List.reduceReplicate, Nat.add_one_le_iff, -getElem?_pos, -getElem?_neg, List.getElem?_cons_zero, List.getElem?_cons_succ, iC, bC, hlt, hky, hwik, hikn, hol, hikL, og, xg, yg, hset, hmi, v1, v2, v3, v4, v5, v6, hwk, hc])
       | ((with_reducible first | refine hother _ _ rfl ?_ | refine hother2 _ _ rfl ?_); simp only [inBlockA, thenA, noGotoA, Nat.reduceEqDiff, if_false, if_true, ↓reduceIte])
       | (with_reducible refine And.intro (by omega) ?_)
       | fail)
      exact hnext _ _ (by simp [keep, iC]) rfl
    · have hyt : ∀ j, y.length ≤ j → y.take j = y := fun j h => List.take_of_length_le h
      by_cases hc0 : c = 0
      · subst hc0
        rw [hyt k (by omega), Nat.zero_mul, Nat.add_zero] at hp4
        have nx : o1.length = L ∧ (∀ d ∈ o1, d < 65536) ∧ dgv o1 = dgv (x.take (i + 1)) * dgv y := by
          refine ⟨hp1, hp2, ?_⟩
          rw [hp4, hxs, Nat.add_mul]
        repeat' (first 
         | (with_reducible first | refine awp_scope ?_ | refine awp_seq ?_ | refine awp_block ?_)
         | ((with_reducible first | refine awp_label ?_ | refine awp_skip ?_); try simp only [thenA, inBlockA, noGotoA])
         | (with_reducible refine awp_exit ?_; simp only [thenA, inBlockA, noGotoA, if_true, Nat.reduceEqDiff, if_false, ↓reduceIte])
         | (with_reducible refine awp_ret ?_; (try simp only [thenA, inBlockA, noGotoA]); (try simp [-List.reduceReplicate, Nat.add_one_le_iff, -getElem?_pos, -getElem?_neg, List.getElem?_cons_zero, List.getElem?_cons_succ, iC, bC, hlt, hky, hwi]))
         | ((with_reducible first | refine awp_reg 67 hX [0, 1, 4, 5, 6, 7, 8, 9, 20, 30, 44] ?_ | refine awp_drw 67 hX [0, 1, 4, 5, 6, 7, 8, 9, 20, 30, 44] Tab.mixed (by kernel_rfl) ?_ | refine DEv_cut _ _ _ _ _ _ _ _ _ _ _ _ (by kernel_rfl) ?_ | change postOf _ _ _ _ _); simp [-List.reduceReplicate, Nat.add_one_le_iff, -getElem?_pos, -getElem?_neg, List.getElem?_cons_zero, List.getElem?_cons_succ, iC, bC, hlt, hky, hwi])
         | (with_reducible refine awp_if_b rfl (fun hc => ?_) (fun hc => ?_) <;> (try simp [-getElem?_pos, -getElem?_neg] at hc) <;> (try (exfalso; omega)))
         | ((with_reducible first | refine GuardK_b (fun hc => ?_) (fun hc => ?_) | refine DGuard_b _ _ _ _ _ _ _ _ _ _ (fun hc => ?_) (fun hc => ?_)) <;> (try simp only [Bool.not_eq_true', Bool.not_eq_false', decide_eq_true_eq, decide_eq_false_iff_not] at hc) <;> (first | (exfalso; omega) | skip) <;> simp [-List.reduceReplicate, Nat.add_one_le_iff, -getElem?_pos, -getElem?_neg, List.getElem?_cons_zero, List.getElem?_cons_succ, iC, bC, hlt, hky, hwi, hc])
         | ((with_reducible first | refine hother _ _ rfl ?_ | refine hother2 _ _ rfl ?_); simp only [inBlockA, thenA, noGotoA, Nat.reduceEqDiff, if_false, if_true, ↓reduceIte])
         | (with_reducible refine And.intro (by omega) ?_)
         | fail)
        refine next1 _ _ (o1) (by omega) (by first | trivial | omega | assumption) (by simp [-List.reduceReplicate, keep, iC]) (by simp [-List.reduceReplicate, iC])
      · have hc1 : (0 : Int) < c := by omega
        have hikL : i + k < L := by
          have e : dgv (x.take i) * dgv y + xi * 65536 ^ i * dgv (y.take k) = dgv (x.take (i + 1)) * dgv y := by
            rw [hyt k (by omega), hxs, Nat.add_mul]
          rw [← hL]
          exact mul_bound (dgv (x.take (i + 1))) (dgv y) i k c x.length y.length (by rw [← e, ← hp4]; omega) (by omega) hxl hYl hlt
        obtain ⟨o, ho⟩ : ∃ d, o1[i + k]? = some d := ⟨_, List.getElem?_eq_getElem (by omega)⟩
        have hob := hp2 o (List.mem_of_getElem? ho)
        have hst := hstep o1 x y i k o c 0 _ _ ho hp4
        simp only [Nat.zero_mul, Nat.add_zero] at hst
        have v1 := wrap_in ((o : Int) + (c : Int)) (by omega)
        have v4 : ((o : Int) + (c : Int)).tmod 65536 = (((o + c) % 65536 : Nat) : Int) := by
          rw [show ((o : Int) + (c : Int)) = ((o + c : Nat) : Int) by omega]; rfl
        have v5 : ((o : Int) + (c : Int)).tdiv 65536 = (((o + c) / 65536 : Nat) : Int) := by
          rw [show ((o : Int) + (c : Int)) = ((o + c : Nat) : Int) by omega]; rfl
        have v6 := wrap_in (((o + c) / 65536 : Nat) : Int) (by omega)
        have hq1 : (o + c) / 65536 < 65536 := by omega
        have hq2 : (o + c) % 65536 < 65536 := Nat.mod_lt _ (by decide)
        generalize (o + c) / 65536 = qd at *
        generalize (o + c) % 65536 = qm at *
        have nx : (o1.set (i + k) qm).length = L ∧ (∀ d ∈ o1.set (i + k) qm, d < 65536) ∧ qd < 65536 ∧ dgv (o1.set (i + k) qm) + qd * 65536 ^ (i + (k + 1)) = dgv (x.take i) * dgv y + xi * 65536 ^ i * dgv (y.take (k + 1)) :=
          ⟨by simp [hp1], all_set hp2 hq2, hq1, by rw [hyt (k + 1) (by omega), ← hyt k (by omega)]; rw [hyt k (by omega)] at hst ⊢; exact hst⟩
        have og : (o1.map nI)[i + k]? = some (nI o) := by rw [List.getElem?_map, ho]; rfl
        have hset : (up (o1.map nI)).set (i + k) (M.c (nI qm)) = up ((o1.set (i + k) qm).map nI) := by rw [up_set, List.map_set]
        have hnext := fun fr' ob' => next fr' ob' (o1.set (i + k) qm, qd) (by omega) nx
        clear next nx hst hp4 hstep hfin tr
        generalize (o1.set (i + k) qm).map nI = oc' at *
        generalize o1.map nI = oc at *
        unfold nI iC at og hset
        repeat' (first 
         | (with_reducible first | refine awp_scope ?_ | refine awp_seq ?_ | refine awp_block ?_)
         | ((with_reducible first | refine awp_label ?_ | refine awp_skip ?_); try simp only [thenA, inBlockA, noGotoA])
         | (with_reducible refine awp_exit ?_; simp only [thenA, inBlockA, noGotoA, if_true, Nat.reduceEqDiff, if_false, ↓reduceIte])
         | (with_reducible refine awp_ret ?_; (try simp only [thenA, inBlockA, noGotoA]); (try simp [-List.reduceReplicate, Nat.add_one_le_iff, -getElem?_pos, -getElem?_neg, List.getElem?_cons_zero, List.getElem?_cons_succ, iC, bC, hlt, hky, hwik, hikn, hol, hikL, og, hset, hc1, v1, v4, v5, v6, hwk]))
         | ((with_reducible first | refine awp_reg 67 hX [0, 1, 4, 5, 6, 7, 8, 9, 20, 30, 44] ?_ | refine awp_drw 67 hX [0, 1, 4, 5, 6, 7, 8, 9, 20, 30, 44] Tab.mixed (by kernel_rfl) ?_ | refine DEv_cut _ _ _ _ _ _ _ _ _ _ _ _ (by kernel_rfl) ?_ | change postOf _ _ _ _ _); simp [-List.reduceReplicate, Nat.add_one_le_iff, -getElem?_pos, -getElem?_neg, List.getElem?_cons_zero, List.getElem?_cons_succ, iC, bC, hlt, hky, hwik, hikn, hol, hikL, og, hset, hc1, v1, v4, v5, v6, hwk])
         | (with_reducible refine awp_if_b rfl (fun hc => ?_) (fun hc => ?_) <;> (try simp [-getElem?_pos, -getElem?_neg] at hc) <;> (try (exfalso; omega)))
         | ((with_reducible first | refine GuardK_b (fun hc => ?_) (fun hc => ?_) | refine DGuard_b _ _ _ _ _ _ _ _ _ _ (fun hc => ?_) (fun hc => ?_)) <;> (try simp only [Bool.not_eq_true', Bool.not_eq_false', decide_eq_true_eq, decide_eq_false_iff_not] at hc) <;> (first | (exfalso; omega) | skip) <;> simp [-List.reduceReplicate, Nat.add_one_le_iff, -getElem?_pos, -getElem?_neg, List.getElem?_cons_zero, List.getElem?_cons_succ, iC, bC, hlt, hky, hwik, hikn, hol, hikL, og, hset, hc1, v1, v4, v5, v6, hwk, hc])
         | ((with_reducible first | refine hother _ _ rfl ?_ | refine hother2 _ _ rfl ?_); simp only [inBlockA, thenA, noGotoA, Nat.reduceEqDiff, if_false, if_true, ↓reduceIte])
         | (with_reducible refine And.intro (by omega) ?_)
         | fail)
        exact hnext _ _ (by simp [keep, iC]) rfl
  · have hi2 : i = x.length := by omega
    subst hi2
    have p1 := tr out ho1
    rw [hfin out ho2 ho3] at p1
    have hexit := hother; clear hother next
    repeat' (first 
     | (with_reducible first | refine awp_scope ?_ | refine awp_seq ?_ | refine awp_block ?_)
     | ((with_reducible first | refine awp_label ?_ | refine awp_skip ?_); try simp only [thenA, inBlockA, noGotoA])
     | (with_reducible refine awp_exit ?_; simp only [thenA, inBlockA, noGotoA, if_true, Nat.reduceEqDiff, if_false, ↓reduceIte])
     | (with_reducible refine awp_ret ?_; (try simp only [thenA, inBlockA, noGotoA]); (try simp [-List.reduceReplicate, Nat.add_one_le_iff, -getElem?_pos, -getElem?_neg, List.getElem?_cons_zero, List.getElem?_cons_succ, iC, bC]))
     | ((with_reducible first | refine awp_reg 67 hX [0, 1, 4, 5, 6, 7, 8, 9, 20, 30, 44] ?_ | refine awp_drw 67 hX [0, 1, 4, 5, 6, 7, 8, 9, 20, 30, 44] Tab.mixed (by kernel_rfl) ?_ | refine DEv_cut _ _ _ _ _ _ _ _ _ _ _ _ (by kernel_rfl) ?_ | change postOf _ _ _ _ _); simp [-List.reduceReplicate, Nat.add_one_le_iff, -getElem?_pos, -getElem?_neg, List.getElem?_cons_zero, List.getElem?_cons_succ, iC, bC])
     | (with_reducible refine awp_if_b rfl (fun hc => ?_) (fun hc => ?_) <;> (try simp [-getElem?_pos, -getElem?_neg] at hc) <;> (try (exfalso; omega)))
     | ((with_reducible first | refine GuardK_b (fun hc => ?_) (fun hc => ?_) | refine DGuard_b _ _ _ _ _ _ _ _ _ _ (fun hc => ?_) (fun hc => ?_)) <;> (try simp only [Bool.not_eq_true', Bool.not_eq_false', decide_eq_true_eq, decide_eq_false_iff_not] at hc) <;> (first | (exfalso; omega) | skip) <;> simp [-List.reduceReplicate, Nat.add_one_le_iff, -getElem?_pos, -getElem?_neg, List.getElem?_cons_zero, List.getElem?_cons_succ, iC, bC, hc])
     | ((with_reducible first | refine hother _ _ rfl ?_ | refine hother2 _ _ rfl ?_); simp only [inBlockA, thenA, noGotoA, Nat.reduceEqDiff, if_false, if_true, ↓reduceIte])
     | (with_reducible refine And.intro (by omega) ?_)
     | fail)
    refine hexit _ _ rfl ?_
    simp only [inBlockA, thenA, ↓reduceIte]
    refine awp_frz2 5 [] [] [] _ (out.map nI) _ hO rfl rfl rfl (by simp [ltB]) (by simp) ?_
    unfold ndC at *
    repeat' (first 
     | (with_reducible first | refine awp_scope ?_ | refine awp_seq ?_ | refine awp_block ?_)
     | ((with_reducible first | refine awp_label ?_ | refine awp_skip ?_); try simp only [thenA, inBlockA, noGotoA])
     | (with_reducible refine awp_exit ?_; simp only [thenA, inBlockA, noGotoA, if_true, Nat.reduceEqDiff, if_false, ↓reduceIte])
     | (with_reducible refine awp_ret ?_; (try simp only [thenA, inBlockA, noGotoA]); (try simp [-List.reduceReplicate, Nat.add_one_le_iff, -getElem?_pos, -getElem?_neg, List.getElem?_cons_zero, List.getElem?_cons_succ, iC, bC]))
     | ((with_reducible first | refine awp_reg 67 hX [0, 1, 4, 5, 6, 7, 8, 9, 20, 30, 44] ?_ | refine awp_drw 67 hX [0, 1, 4, 5, 6, 7, 8, 9, 20, 30, 44] Tab.mixed (by kernel_rfl) ?_ | refine DEv_cut _ _ _ _ _ _ _ _ _ _ _ _ (by kernel_rfl) ?_ | change postOf _ _ _ _ _); simp [-List.reduceReplicate, Nat.add_one_le_iff, -getElem?_pos, -getElem?_neg, List.getElem?_cons_zero, List.getElem?_cons_succ, iC, bC])
     | ((first | (refine (p1 _).det ?_) | (refine ⟨_, _, p1 _, fun _ => rfl, ?_⟩)); try simp [-List.reduceReplicate, Nat.add_one_le_iff, -getElem?_pos, -getElem?_neg, List.getElem?_cons_zero, List.getElem?_cons_succ, iC, bC])
     | (with_reducible refine awp_if_b rfl (fun hc => ?_) (fun hc => ?_) <;> (try simp [-getElem?_pos, -getElem?_neg] at hc) <;> (try (exfalso; omega)))
     | ((with_reducible first | refine GuardK_b (fun hc => ?_) (fun hc => ?_) | refine DGuard_b _ _ _ _ _ _ _ _ _ _ (fun hc => ?_) (fun hc => ?_)) <;> (try simp only [Bool.not_eq_true', Bool.not_eq_false', decide_eq_true_eq, decide_eq_false_iff_not] at hc) <;> (first | (exfalso; omega) | skip) <;> simp [-List.reduceReplicate, Nat.add_one_le_iff, -getElem?_pos, -getElem?_neg, List.getElem?_cons_zero, List.getElem?_cons_succ, iC, bC, hc])
     | ((with_reducible first | refine hother _ _ rfl ?_ | refine hother2 _ _ rfl ?_); simp only [inBlockA, thenA, noGotoA, Nat.reduceEqDiff, if_false, if_true, ↓reduceIte])
     | (with_reducible refine And.intro (by omega) ?_)
     | fail)
end Go.Av

set_option linter.unusedVariables false
set_option linter.unusedSimpArgs false
set_option maxRecDepth 100000
set_option maxHeartbeats 4000000
namespace Go.Av
open Go Go.Proofs Go.Proofs.Ytofomnllcmgfeaa Go.RowKit
/-! ### word.Lead, large.Cmp, Len, Of, Shl -/
def largeM (x : Nat) : M := .agg (up (limC 5 x))
theorem limC5_get (x i : Nat) (h : i < 5) : (limC 5 x)[i]? = some (u64C (lim x i)) := limC_get 5 x i h
set_option maxHeartbeats 4000000 in
theorem lead_den (x : Nat) (hx : x < 18446744073709551616) : DenV Try.prog 123 [.c (u64C x)] (.c (iC ((64 - bl x : Nat) : Int))) := by
  refine Den.frame rfl rfl ?_
  obtain ⟨b1, b2⟩ := bl_spec x
  have hq : ∀ i, x < 2 ^ (64 - i) → ¬ x < 2 ^ (63 - i) → i < 64 → 64 - bl x = i := fun i h1 h2 h3 => by
    have := bl_eq_of h1 (.inr (by rw [show 64 - i - 1 = 63 - i by omega]; omega))
    omega
  have hq2 : x < 2 ^ (64 - 64) → 64 - bl x = 64 := fun h1 => by
    have : x = 0 := by simp at h1; exact h1
    subst this; rfl
  generalize 64 - bl x = r at *
  refine den_of Try.func123 rfl rfl (by simp [Try.ntmps123]) (fun X hX hO => ?_)
  rw [Try.ntmps123] at hX
  simp only [Try.results123]
  repeat' (first 
   | (with_reducible first | refine awp_scope ?_ | refine awp_seq ?_ | refine awp_block ?_)
   | ((with_reducible first | refine awp_label ?_ | refine awp_skip ?_); try simp only [thenA, inBlockA, noGotoA])
   | (with_reducible refine awp_exit ?_; simp only [thenA, inBlockA, noGotoA, if_true, Nat.reduceEqDiff, if_false, ↓reduceIte])
   | (with_reducible refine awp_ret ?_; (try simp only [thenA, inBlockA, noGotoA]); (try simp [-List.reduceReplicate, Nat.add_one_le_iff, -getElem?_pos, -getElem?_neg, List.getElem?_cons_zero, List.getElem?_cons_succ, iC, u64C]))
   | ((with_reducible first | refine awp_reg 18 hX [0, 2, 3, 4, 5, 6, 13] ?_ | change postOf _ _ _ _ _); simp [-List.reduceReplicate, Nat.add_one_le_iff, -getElem?_pos, -getElem?_neg, List.getElem?_cons_zero, List.getElem?_cons_succ, iC, u64C])
   | (with_reducible refine awp_if_b rfl (fun hc => ?_) (fun hc => ?_) <;> (try simp [-getElem?_pos, -getElem?_neg] at hc) <;> (try (exfalso; omega)))
   | ((with_reducible first | refine GuardK_b (fun hc => ?_) (fun hc => ?_)) <;> (try simp only [Bool.not_eq_true', Bool.not_eq_false', decide_eq_true_eq, decide_eq_false_iff_not] at hc) <;> (first | (exfalso; omega) | skip) <;> simp [-List.reduceReplicate, Nat.add_one_le_iff, -getElem?_pos, -getElem?_neg, List.getElem?_cons_zero, List.getElem?_cons_succ, iC, u64C, hc])
   | ((with_reducible first | refine hother _ _ rfl ?_); simp only [inBlockA, thenA, noGotoA, Nat.reduceEqDiff, if_false, if_true, ↓reduceIte])
   | (with_reducible refine And.intro (by omega) ?_)
   | fail)
  refine awp_forU [0, 3, 5] (fun i (_u : Unit) => [(3, .c (iC i)), (5, .c (iC i))]) (fun i (_u : Unit) => []) (fun i (_u : Unit) => x < 2 ^ (64 - i)) (64) (()) (by first | trivial | (simp; done) | omega | (intros; simp at *; done)) (by simp [-List.reduceReplicate, keep, iC]) (by simp [-List.reduceReplicate, iC]) ?_
  rintro i _u Q1 hi hH next hother
  conv => arg 5; arg 1; simp only [List.cons_append, List.nil_append, keep, get, Nat.reduceEqDiff, if_true, if_false, ↓reduceIte]
  have hwi := wrap_in ((i : Int) + 1) (by omega)
  by_cases hlt : i < 64
  · have w1 := wrap_in (63 - (i : Int)) (by omega)
    have w2 := wrapU64 (63 - (i : Int)) (by omega)
    have i1 : ¬ 63 - (i : Int) < 0 := by omega
    have tn : (63 - (i : Int)).toNat = 63 - i := by omega
    have mn : min (63 - i) IntKind.u64.bits = 63 - i := by show min (63 - i) 64 = 63 - i; omega
    have hi2 : (i : Int) < 64 := by omega
    have fd := fdiv_pow x (63 - i)
    by_cases c : x < 2 ^ (63 - i)
    · have d0 : x / 2 ^ (63 - i) = 0 := Nat.div_eq_of_lt c
      rw [d0] at fd
      have nx : x < 2 ^ (64 - (i + 1)) := by rw [show 64 - (i + 1) = 63 - i by omega]; exact c
      repeat' (first 
       | (with_reducible first | refine awp_scope ?_ | refine awp_seq ?_ | refine awp_block ?_)
       | ((with_reducible first | refine awp_label ?_ | refine awp_skip ?_); try simp only [thenA, inBlockA, noGotoA])
       | (with_reducible refine awp_exit ?_; simp only [thenA, inBlockA, noGotoA, if_true, Nat.reduceEqDiff, if_false, ↓reduceIte])
       | (with_reducible refine awp_ret ?_; (try simp only [thenA, inBlockA, noGotoA]); (try simp [-List.reduceReplicate, Nat.add_one_le_iff, -getElem?_pos, -getElem?_neg, List.getElem?_cons_zero, List.getElem?_cons_succ, iC, bC, u64C, hi2, w1, w2, i1, tn, mn, fd, hwi]))
       | ((with_reducible first | refine awp_reg 18 hX [0, 2, 3, 4, 5, 6, 13] ?_ | change postOf _ _ _ _ _); simp [-List.reduceReplicate, Nat.add_one_le_iff, -getElem?_pos, -getElem?_neg, List.getElem?_cons_zero, List.getElem?_cons_succ, iC, bC, u64C, hi2, w1, w2, i1, tn, mn, fd, hwi])
       | (with_reducible refine awp_if_b rfl (fun hc => ?_) (fun hc => ?_) <;> (try simp [-getElem?_pos, -getElem?_neg] at hc) <;> (try (exfalso; omega)))
       | ((with_reducible first | refine GuardK_b (fun hc => ?_) (fun hc => ?_)) <;> (try simp only [Bool.not_eq_true', Bool.not_eq_false', decide_eq_true_eq, decide_eq_false_iff_not] at hc) <;> (first | (exfalso; omega) | skip) <;> simp [-List.reduceReplicate, Nat.add_one_le_iff, -getElem?_pos, -getElem?_neg, List.getElem?_cons_zero, List.getElem?_cons_succ, iC, bC, u64C, hi2, w1, w2, i1, tn, mn, fd, hwi, hc])
       | ((with_reducible first | refine hother _ _ rfl ?_); simp only [inBlockA, thenA, noGotoA, Nat.reduceEqDiff, if_false, if_true, ↓reduceIte])
       | (with_reducible refine And.intro (by omega) ?_)
       | fail)
      refine next _ _ (()) (by omega) (by first | trivial | omega | assumption) (by simp [-List.reduceReplicate, keep, iC]) (by simp [-List.reduceReplicate, iC])
    · have d0 : ¬ ((x / 2 ^ (63 - i) : Nat) : Int) = 0 := by
        have := Nat.div_pos (show 2 ^ (63 - i) ≤ x by omega) (Nat.two_pow_pos _)
        omega
      have hr := hq i hH c hlt
      generalize x / 2 ^ (63 - i) = z at *
      repeat' (first 
       | (with_reducible first | refine awp_scope ?_ | refine awp_seq ?_ | refine awp_block ?_)
       | ((with_reducible first | refine awp_label ?_ | refine awp_skip ?_); try simp only [thenA, inBlockA, noGotoA])
       | (with_reducible refine awp_exit ?_; simp only [thenA, inBlockA, noGotoA, if_true, Nat.reduceEqDiff, if_false, ↓reduceIte])
       | (with_reducible refine awp_ret ?_; (try simp only [thenA, inBlockA, noGotoA]); (try simp [-List.reduceReplicate, Nat.add_one_le_iff, -getElem?_pos, -getElem?_neg, List.getElem?_cons_zero, List.getElem?_cons_succ, iC, bC, u64C, hi2, w1, w2, i1, tn, mn, fd, d0, hr]))
       | ((with_reducible first | refine awp_reg 18 hX [0, 2, 3, 4, 5, 6, 13] ?_ | change postOf _ _ _ _ _); simp [-List.reduceReplicate, Nat.add_one_le_iff, -getElem?_pos, -getElem?_neg, List.getElem?_cons_zero, List.getElem?_cons_succ, iC, bC, u64C, hi2, w1, w2, i1, tn, mn, fd, d0, hr])
       | (with_reducible refine awp_if_b rfl (fun hc => ?_) (fun hc => ?_) <;> (try simp [-getElem?_pos, -getElem?_neg] at hc) <;> (try (exfalso; omega)))
       | ((with_reducible first | refine GuardK_b (fun hc => ?_) (fun hc => ?_)) <;> (try simp only [Bool.not_eq_true', Bool.not_eq_false', decide_eq_true_eq, decide_eq_false_iff_not] at hc) <;> (first | (exfalso; omega) | skip) <;> simp [-List.reduceReplicate, Nat.add_one_le_iff, -getElem?_pos, -getElem?_neg, List.getElem?_cons_zero, List.getElem?_cons_succ, iC, bC, u64C, hi2, w1, w2, i1, tn, mn, fd, d0, hr, hc])
       | ((with_reducible first | refine hother _ _ rfl ?_); simp only [inBlockA, thenA, noGotoA, Nat.reduceEqDiff, if_false, if_true, ↓reduceIte])
       | (with_reducible refine And.intro (by omega) ?_)
       | fail)
  · have hi3 : i = 64 := by omega
    subst hi3
    have hr := hq2 hH
    repeat' (first 
     | (with_reducible first | refine awp_scope ?_ | refine awp_seq ?_ | refine awp_block ?_)
     | ((with_reducible first | refine awp_label ?_ | refine awp_skip ?_); try simp only [thenA, inBlockA, noGotoA])
     | (with_reducible refine awp_exit ?_; simp only [thenA, inBlockA, noGotoA, if_true, Nat.reduceEqDiff, if_false, ↓reduceIte])
     | (with_reducible refine awp_ret ?_; (try simp only [thenA, inBlockA, noGotoA]); (try simp [-List.reduceReplicate, Nat.add_one_le_iff, -getElem?_pos, -getElem?_neg, List.getElem?_cons_zero, List.getElem?_cons_succ, iC, hr]))
     | ((with_reducible first | refine awp_reg 18 hX [0, 2, 3, 4, 5, 6, 13] ?_ | change postOf _ _ _ _ _); simp [-List.reduceReplicate, Nat.add_one_le_iff, -getElem?_pos, -getElem?_neg, List.getElem?_cons_zero, List.getElem?_cons_succ, iC, hr])
     | (with_reducible refine awp_if_b rfl (fun hc => ?_) (fun hc => ?_) <;> (try simp [-getElem?_pos, -getElem?_neg] at hc) <;> (try (exfalso; omega)))
     | ((with_reducible first | refine GuardK_b (fun hc => ?_) (fun hc => ?_)) <;> (try simp only [Bool.not_eq_true', Bool.not_eq_false', decide_eq_true_eq, decide_eq_false_iff_not] at hc) <;> (first | (exfalso; omega) | skip) <;> simp [-List.reduceReplicate, Nat.add_one_le_iff, -getElem?_pos, -getElem?_neg, List.getElem?_cons_zero, List.getElem?_cons_succ, iC, hr, hc])
     | ((with_reducible first | refine hother _ _ rfl ?_); simp only [inBlockA, thenA, noGotoA, Nat.reduceEqDiff, if_false, if_true, ↓reduceIte])
     | (with_reducible refine And.intro (by omega) ?_)
     | fail)
set_option maxHeartbeats 4000000 in
theorem cmp_den (x y : Nat) (hx : x < 2 ^ 320) (hy : y < 2 ^ 320) : DenV Try.prog 68 [largeM x, largeM y] (.c (iC (cmpN x y))) := by
  refine Den.frame (by simp [largeM, ltBs, ltB]) rfl ?_
  have gx := limC5_get x
  have gy := limC5_get y
  have lx := limC_len 5 x
  have ly := limC_len 5 y
  have hs := fun i => @lim_lt_of x y i
  have hs2 := fun i => @lim_lt_of y x i
  have he := fun i => @lim_eq_of x y i
  have h0 : x / 2 ^ (64 * (5 - 0)) = y / 2 ^ (64 * (5 - 0)) := by rw [Nat.div_eq_of_lt hx, Nat.div_eq_of_lt hy]
  unfold largeM
  generalize limC 5 x = cx at *
  generalize limC 5 y = cy at *
  generalize lim x = fx at *
  generalize lim y = fy at *
  refine den_of Try.func68 rfl rfl (by simp [Try.ntmps68]) (fun X hX hO => ?_)
  rw [Try.ntmps68] at hX
  simp only [Try.results68]
  repeat' (first 
   | (with_reducible first | refine awp_scope ?_ | refine awp_seq ?_ | refine awp_block ?_)
   | ((with_reducible first | refine awp_label ?_ | refine awp_skip ?_); try simp only [thenA, inBlockA, noGotoA])
   | (with_reducible refine awp_exit ?_; simp only [thenA, inBlockA, noGotoA, if_true, Nat.reduceEqDiff, if_false, ↓reduceIte])
   | (with_reducible refine awp_ret ?_; (try simp only [thenA, inBlockA, noGotoA]); (try simp [-List.reduceReplicate, Nat.add_one_le_iff, -getElem?_pos, -getElem?_neg, List.getElem?_cons_zero, List.getElem?_cons_succ, iC, lx, ly]))
   | ((with_reducible first | refine awp_reg 26 hX [2, 3, 4, 5, 6, 7, 8, 9, 21, 24] ?_ | refine awp_drw 26 hX [2, 3, 4, 5, 6, 7, 8, 9, 21, 24] Tab.mixed (by kernel_rfl) ?_ | refine DEv_cut _ _ _ _ _ _ _ _ _ _ _ _ (by kernel_rfl) ?_ | change postOf _ _ _ _ _); simp [-List.reduceReplicate, Nat.add_one_le_iff, -getElem?_pos, -getElem?_neg, List.getElem?_cons_zero, List.getElem?_cons_succ, iC, lx, ly])
   | (with_reducible refine awp_if_b rfl (fun hc => ?_) (fun hc => ?_) <;> (try simp [-getElem?_pos, -getElem?_neg] at hc) <;> (try (exfalso; omega)))
   | ((with_reducible first | refine GuardK_b (fun hc => ?_) (fun hc => ?_) | refine DGuard_b _ _ _ _ _ _ _ _ _ _ (fun hc => ?_) (fun hc => ?_)) <;> (try simp only [Bool.not_eq_true', Bool.not_eq_false', decide_eq_true_eq, decide_eq_false_iff_not] at hc) <;> (first | (exfalso; omega) | skip) <;> simp [-List.reduceReplicate, Nat.add_one_le_iff, -getElem?_pos, -getElem?_neg, List.getElem?_cons_zero, List.getElem?_cons_succ, iC, lx, ly, hc])
   | ((with_reducible first | refine hother _ _ rfl ?_); simp only [inBlockA, thenA, noGotoA, Nat.reduceEqDiff, if_false, if_true, ↓reduceIte])
   | (with_reducible refine And.intro (by omega) ?_)
   | fail)
  refine awp_forU [2, 3, 8] (fun i (_u : Unit) => [(8, .c (iC i))]) (fun i (_u : Unit) => [⟨50, 1, false, 0, up cx, none⟩, ⟨50, 1, false, 0, up cy, none⟩]) (fun i (_u : Unit) => x / 2 ^ (64 * (5 - i)) = y / 2 ^ (64 * (5 - i))) (5) (()) (h0) (by simp [-List.reduceReplicate, keep, iC]) (by simp [-List.reduceReplicate, iC]) ?_
  rintro i _u Q1 hi hH next hother
  conv => arg 5; arg 1; simp only [List.cons_append, List.nil_append, keep, get, Nat.reduceEqDiff, if_true, if_false, ↓reduceIte]
  have hwi := wrap_in ((i : Int) + 1) (by omega)
  by_cases hlt : i < 5
  · obtain ⟨j, hj⟩ : ∃ j, 4 - i = j := ⟨_, rfl⟩
    have hij : (4 - (i : Int)) = (j : Int) := by omega
    have e1 : 5 - i = j + 1 := by omega
    have e2 : 5 - (i + 1) = j := by omega
    have wj := wrap_in (j : Int) (by omega)
    have hj5 : j < 5 := by omega
    have hi2 : (i : Int) < 5 := by omega
    rw [e1] at hH
    rw [e2] at next
    have g1 := gx j hj5
    have g2 := gy j hj5
    by_cases c : fx j = fy j
    · have nx := he j hH c
      repeat' (first 
       | (with_reducible first | refine awp_scope ?_ | refine awp_seq ?_ | refine awp_block ?_)
       | ((with_reducible first | refine awp_label ?_ | refine awp_skip ?_); try simp only [thenA, inBlockA, noGotoA])
       | (with_reducible refine awp_exit ?_; simp only [thenA, inBlockA, noGotoA, if_true, Nat.reduceEqDiff, if_false, ↓reduceIte])
       | (with_reducible refine awp_ret ?_; (try simp only [thenA, inBlockA, noGotoA]); (try simp [-List.reduceReplicate, Nat.add_one_le_iff, -getElem?_pos, -getElem?_neg, List.getElem?_cons_zero, List.getElem?_cons_succ, iC, bC, u64C, hi2, hij, wj, hj5, g1, g2, lx, ly, hwi, c]))
       | ((with_reducible first | refine awp_reg 26 hX [2, 3, 4, 5, 6, 7, 8, 9, 21, 24] ?_ | refine awp_drw 26 hX [2, 3, 4, 5, 6, 7, 8, 9, 21, 24] Tab.mixed (by kernel_rfl) ?_ | refine DEv_cut _ _ _ _ _ _ _ _ _ _ _ _ (by kernel_rfl) ?_ | change postOf _ _ _ _ _); simp [-List.reduceReplicate, Nat.add_one_le_iff, -getElem?_pos, -getElem?_neg, List.getElem?_cons_zero, List.getElem?_cons_succ, iC, bC, u64C, hi2, hij, wj, hj5, g1, g2, lx, ly, hwi, c])
       | (with_reducible refine awp_if_b rfl (fun hc => ?_) (fun hc => ?_) <;> (try simp [-getElem?_pos, -getElem?_neg] at hc) <;> (try (exfalso; omega)))
       | ((with_reducible first | refine GuardK_b (fun hc => ?_) (fun hc => ?_) | refine DGuard_b _ _ _ _ _ _ _ _ _ _ (fun hc => ?_) (fun hc => ?_)) <;> (try simp only [Bool.not_eq_true', Bool.not_eq_false', decide_eq_true_eq, decide_eq_false_iff_not] at hc) <;> (first | (exfalso; omega) | skip) <;> simp [-List.reduceReplicate, Nat.add_one_le_iff, -getElem?_pos, -getElem?_neg, List.getElem?_cons_zero, List.getElem?_cons_succ, iC, bC, u64C, hi2, hij, wj, hj5, g1, g2, lx, ly, hwi, c, hc])
       | ((with_reducible first | refine hother _ _ rfl ?_); simp only [inBlockA, thenA, noGotoA, Nat.reduceEqDiff, if_false, if_true, ↓reduceIte])
       | (with_reducible refine And.intro (by omega) ?_)
       | fail)
      refine next _ _ (()) (by omega) (by first | trivial | omega | assumption) (by simp [-List.reduceReplicate, keep, iC]) (by simp [-List.reduceReplicate, iC])
    · by_cases c2 : fx j < fy j
      · have hcm := (cmpN_lt (hs j hH c2)).symm
        repeat' (first 
         | (with_reducible first | refine awp_scope ?_ | refine awp_seq ?_ | refine awp_block ?_)
         | ((with_reducible first | refine awp_label ?_ | refine awp_skip ?_); try simp only [thenA, inBlockA, noGotoA])
         | (with_reducible refine awp_exit ?_; simp only [thenA, inBlockA, noGotoA, if_true, Nat.reduceEqDiff, if_false, ↓reduceIte])
         | (with_reducible refine awp_ret ?_; (try simp only [thenA, inBlockA, noGotoA]); (try simp [-List.reduceReplicate, Nat.add_one_le_iff, -getElem?_pos, -getElem?_neg, List.getElem?_cons_zero, List.getElem?_cons_succ, iC, bC, u64C, hi2, hij, wj, hj5, g1, g2, lx, ly, c, c2]))
         | ((with_reducible first | refine awp_reg 26 hX [2, 3, 4, 5, 6, 7, 8, 9, 21, 24] ?_ | refine awp_drw 26 hX [2, 3, 4, 5, 6, 7, 8, 9, 21, 24] Tab.mixed (by kernel_rfl) ?_ | refine DEv_cut _ _ _ _ _ _ _ _ _ _ _ _ (by kernel_rfl) ?_ | change postOf _ _ _ _ _); simp [-List.reduceReplicate, Nat.add_one_le_iff, -getElem?_pos, -getElem?_neg, List.getElem?_cons_zero, List.getElem?_cons_succ, iC, bC, u64C, hi2, hij, wj, hj5, g1, g2, lx, ly, c, c2])
         | (with_reducible refine awp_if_b rfl (fun hc => ?_) (fun hc => ?_) <;> (try simp [-getElem?_pos, -getElem?_neg] at hc) <;> (try (exfalso; omega)))
         | ((with_reducible first | refine GuardK_b (fun hc => ?_) (fun hc => ?_) | refine DGuard_b _ _ _ _ _ _ _ _ _ _ (fun hc => ?_) (fun hc => ?_)) <;> (try simp only [Bool.not_eq_true', Bool.not_eq_false', decide_eq_true_eq, decide_eq_false_iff_not] at hc) <;> (first | (exfalso; omega) | skip) <;> simp [-List.reduceReplicate, Nat.add_one_le_iff, -getElem?_pos, -getElem?_neg, List.getElem?_cons_zero, List.getElem?_cons_succ, iC, bC, u64C, hi2, hij, wj, hj5, g1, g2, lx, ly, c, c2, hc])
         | ((with_reducible first | refine hother _ _ rfl ?_); simp only [inBlockA, thenA, noGotoA, Nat.reduceEqDiff, if_false, if_true, ↓reduceIte])
         | (with_reducible refine And.intro (by omega) ?_)
         | fail)
        exact hcm
      · have hcm := (cmpN_gt (hs2 j hH.symm (by omega))).symm
        repeat' (first 
         | (with_reducible first | refine awp_scope ?_ | refine awp_seq ?_ | refine awp_block ?_)
         | ((with_reducible first | refine awp_label ?_ | refine awp_skip ?_); try simp only [thenA, inBlockA, noGotoA])
         | (with_reducible refine awp_exit ?_; simp only [thenA, inBlockA, noGotoA, if_true, Nat.reduceEqDiff, if_false, ↓reduceIte])
         | (with_reducible refine awp_ret ?_; (try simp only [thenA, inBlockA, noGotoA]); (try simp [-List.reduceReplicate, Nat.add_one_le_iff, -getElem?_pos, -getElem?_neg, List.getElem?_cons_zero, List.getElem?_cons_succ, iC, bC, u64C, hi2, hij, wj, hj5, g1, g2, lx, ly, c, c2]))
         | ((with_reducible first | refine awp_reg 26 hX [2, 3, 4, 5, 6, 7, 8, 9, 21, 24] ?_ | refine awp_drw 26 hX [2, 3, 4, 5, 6, 7, 8, 9, 21, 24] Tab.mixed (by kernel_rfl) ?_ | refine DEv_cut _ _ _ _ _ _ _ _ _ _ _ _ (by kernel_rfl) ?_ | change postOf _ _ _ _ _); simp [-List.reduceReplicate, Nat.add_one_le_iff, -getElem?_pos, -getElem?_neg, List.getElem?_cons_zero, List.getElem?_cons_succ, iC, bC, u64C, hi2, hij, wj, hj5, g1, g2, lx, ly, c, c2])
         | (with_reducible refine awp_if_b rfl (fun hc => ?_) (fun hc => ?_) <;> (try simp [-getElem?_pos, -getElem?_neg] at hc) <;> (try (exfalso; omega)))
         | ((with_reducible first | refine GuardK_b (fun hc => ?_) (fun hc => ?_) | refine DGuard_b _ _ _ _ _ _ _ _ _ _ (fun hc => ?_) (fun hc => ?_)) <;> (try simp only [Bool.not_eq_true', Bool.not_eq_false', decide_eq_true_eq, decide_eq_false_iff_not] at hc) <;> (first | (exfalso; omega) | skip) <;> simp [-List.reduceReplicate, Nat.add_one_le_iff, -getElem?_pos, -getElem?_neg, List.getElem?_cons_zero, List.getElem?_cons_succ, iC, bC, u64C, hi2, hij, wj, hj5, g1, g2, lx, ly, c, c2, hc])
         | ((with_reducible first | refine hother _ _ rfl ?_); simp only [inBlockA, thenA, noGotoA, Nat.reduceEqDiff, if_false, if_true, ↓reduceIte])
         | (with_reducible refine And.intro (by omega) ?_)
         | fail)
        exact hcm
  · have hi3 : i = 5 := by omega
    subst hi3
    have : x = y := by simpa using hH
    subst this
    have hcm := (cmpN_eq x).symm
    repeat' (first 
     | (with_reducible first | refine awp_scope ?_ | refine awp_seq ?_ | refine awp_block ?_)
     | ((with_reducible first | refine awp_label ?_ | refine awp_skip ?_); try simp only [thenA, inBlockA, noGotoA])
     | (with_reducible refine awp_exit ?_; simp only [thenA, inBlockA, noGotoA, if_true, Nat.reduceEqDiff, if_false, ↓reduceIte])
     | (with_reducible refine awp_ret ?_; (try simp only [thenA, inBlockA, noGotoA]); (try simp [-List.reduceReplicate, Nat.add_one_le_iff, -getElem?_pos, -getElem?_neg, List.getElem?_cons_zero, List.getElem?_cons_succ, iC]))
     | ((with_reducible first | refine awp_reg 26 hX [2, 3, 4, 5, 6, 7, 8, 9, 21, 24] ?_ | refine awp_drw 26 hX [2, 3, 4, 5, 6, 7, 8, 9, 21, 24] Tab.mixed (by kernel_rfl) ?_ | refine DEv_cut _ _ _ _ _ _ _ _ _ _ _ _ (by kernel_rfl) ?_ | change postOf _ _ _ _ _); simp [-List.reduceReplicate, Nat.add_one_le_iff, -getElem?_pos, -getElem?_neg, List.getElem?_cons_zero, List.getElem?_cons_succ, iC])
     | (with_reducible refine awp_if_b rfl (fun hc => ?_) (fun hc => ?_) <;> (try simp [-getElem?_pos, -getElem?_neg] at hc) <;> (try (exfalso; omega)))
     | ((with_reducible first | refine GuardK_b (fun hc => ?_) (fun hc => ?_) | refine DGuard_b _ _ _ _ _ _ _ _ _ _ (fun hc => ?_) (fun hc => ?_)) <;> (try simp only [Bool.not_eq_true', Bool.not_eq_false', decide_eq_true_eq, decide_eq_false_iff_not] at hc) <;> (first | (exfalso; omega) | skip) <;> simp [-List.reduceReplicate, Nat.add_one_le_iff, -getElem?_pos, -getElem?_neg, List.getElem?_cons_zero, List.getElem?_cons_succ, iC, hc])
     | ((with_reducible first | refine hother _ _ rfl ?_); simp only [inBlockA, thenA, noGotoA, Nat.reduceEqDiff, if_false, if_true, ↓reduceIte])
     | (with_reducible refine And.intro (by omega) ?_)
     | fail)
    exact hcm
theorem bl_le {x k : Nat} (h : x < 2 ^ k) : bl x ≤ k := by
  obtain ⟨a, b⟩ := bl_spec x
  rcases b with c | c
  · omega
  · rcases Nat.lt_or_ge k (bl x) with d | d
    · have : 2 ^ k ≤ 2 ^ (bl x - 1) := Nat.pow_le_pow_right (by decide) (by omega)
      omega
    · exact d
set_option maxHeartbeats 4000000 in
theorem len_den (x : Nat) (hx : x < 2 ^ (64 * 5)) : DenV Try.prog 113 [largeM x] (.c (iC (bl x))) := by
  refine Den.frame (by simp [largeM, ltBs, ltB]) rfl ?_
  have gx := limC5_get x
  have lx := limC_len 5 x
  have hb := fun j => @bl_high x j
  have hz := fun j => @lim_zero_high x j
  have hlt := lim_lt x
  have hble := bl_le hx
  have hb0 : x < 2 ^ (64 * 0) → bl x = 0 := fun h => by
    have : x = 0 := by simpa using h
    subst this; rfl
  have ld := fun j => lead_den (lim x j) (hlt j)
  have lb := fun j => bl_le (show lim x j < 2 ^ 64 from hlt j)
  unfold largeM
  obtain ⟨P, hP⟩ : ∃ P : Nat → Prop, P = fun j => x < 2 ^ (64 * j) := ⟨_, rfl⟩
  have hb' : ∀ j, P (j + 1) → lim x j ≠ 0 → bl x = 64 * j + bl (lim x j) := by rw [hP]; exact hb
  have hz' : ∀ j, P (j + 1) → lim x j = 0 → P j := by rw [hP]; exact hz
  have hb0' : P 0 → bl x = 0 := by rw [hP]; exact hb0
  have hx' : P 5 := by rw [hP]; exact hx
  clear hP hb hz hb0 hx
  generalize limC 5 x = cx at *
  generalize lim x = fx at *
  generalize bl x = r at *
  refine den_of Try.func113 rfl rfl (by simp [Try.ntmps113]) (fun X hX hO => ?_)
  rw [Try.ntmps113] at hX
  simp only [Try.results113]
  repeat' (first 
   | (with_reducible first | refine awp_scope ?_ | refine awp_seq ?_ | refine awp_block ?_)
   | ((with_reducible first | refine awp_label ?_ | refine awp_skip ?_); try simp only [thenA, inBlockA, noGotoA])
   | (with_reducible refine awp_exit ?_; simp only [thenA, inBlockA, noGotoA, if_true, Nat.reduceEqDiff, if_false, ↓reduceIte])
   | (with_reducible refine awp_ret ?_; (try simp only [thenA, inBlockA, noGotoA]); (try simp [-List.reduceReplicate, Nat.add_one_le_iff, -getElem?_pos, -getElem?_neg, List.getElem?_cons_zero, List.getElem?_cons_succ, iC, lx]))
   | ((with_reducible first | refine awp_reg 21 hX [1, 2, 3, 4, 5, 6, 13] ?_ | change postOf _ _ _ _ _); simp [-List.reduceReplicate, Nat.add_one_le_iff, -getElem?_pos, -getElem?_neg, List.getElem?_cons_zero, List.getElem?_cons_succ, iC, lx])
   | (with_reducible refine awp_if_b rfl (fun hc => ?_) (fun hc => ?_) <;> (try simp [-getElem?_pos, -getElem?_neg] at hc) <;> (try (exfalso; omega)))
   | ((with_reducible first | refine GuardK_b (fun hc => ?_) (fun hc => ?_)) <;> (try simp only [Bool.not_eq_true', Bool.not_eq_false', decide_eq_true_eq, decide_eq_false_iff_not] at hc) <;> (first | (exfalso; omega) | skip) <;> simp [-List.reduceReplicate, Nat.add_one_le_iff, -getElem?_pos, -getElem?_neg, List.getElem?_cons_zero, List.getElem?_cons_succ, iC, lx, hc])
   | ((with_reducible first | refine hother _ _ rfl ?_); simp only [inBlockA, thenA, noGotoA, Nat.reduceEqDiff, if_false, if_true, ↓reduceIte])
   | (with_reducible refine And.intro (by omega) ?_)
   | fail)
  refine awp_forU [1, 5] (fun i (_u : Unit) => [(5, .c (iC i))]) (fun i (_u : Unit) => [⟨50, 1, false, 0, up cx, none⟩]) (fun i (_u : Unit) => P (5 - i)) (5) (()) (hx') (by simp [-List.reduceReplicate, keep, iC]) (by simp [-List.reduceReplicate, iC]) ?_
  rintro i _u Q1 hi hH next hother
  conv => arg 5; arg 1; simp only [List.cons_append, List.nil_append, keep, get, Nat.reduceEqDiff, if_true, if_false, ↓reduceIte]
  have hwi := wrap_in ((i : Int) + 1) (by omega)
  by_cases hlt5 : i < 5
  · obtain ⟨j, hj⟩ : ∃ j, 4 - i = j := ⟨_, rfl⟩
    have hij : (4 - (i : Int)) = (j : Int) := by omega
    have e1 : 5 - i = j + 1 := by omega
    have e2 : 5 - (i + 1) = j := by omega
    have wj := wrap_in (j : Int) (by omega)
    have hj5 : j < 5 := by omega
    have hi2 : (i : Int) < 5 := by omega
    rw [e1] at hH
    rw [e2] at next
    have g1 := gx j hj5
    by_cases c : fx j = 0
    · have nx := hz' j hH c
      repeat' (first 
       | (with_reducible first | refine awp_scope ?_ | refine awp_seq ?_ | refine awp_block ?_)
       | ((with_reducible first | refine awp_label ?_ | refine awp_skip ?_); try simp only [thenA, inBlockA, noGotoA])
       | (with_reducible refine awp_exit ?_; simp only [thenA, inBlockA, noGotoA, if_true, Nat.reduceEqDiff, if_false, ↓reduceIte])
       | (with_reducible refine awp_ret ?_; (try simp only [thenA, inBlockA, noGotoA]); (try simp [-List.reduceReplicate, Nat.add_one_le_iff, -getElem?_pos, -getElem?_neg, List.getElem?_cons_zero, List.getElem?_cons_succ, iC, bC, u64C, hi2, hij, wj, hj5, g1, lx, hwi, c]))
       | ((with_reducible first | refine awp_reg 21 hX [1, 2, 3, 4, 5, 6, 13] ?_ | change postOf _ _ _ _ _); simp [-List.reduceReplicate, Nat.add_one_le_iff, -getElem?_pos, -getElem?_neg, List.getElem?_cons_zero, List.getElem?_cons_succ, iC, bC, u64C, hi2, hij, wj, hj5, g1, lx, hwi, c])
       | (with_reducible refine awp_if_b rfl (fun hc => ?_) (fun hc => ?_) <;> (try simp [-getElem?_pos, -getElem?_neg] at hc) <;> (try (exfalso; omega)))
       | ((with_reducible first | refine GuardK_b (fun hc => ?_) (fun hc => ?_)) <;> (try simp only [Bool.not_eq_true', Bool.not_eq_false', decide_eq_true_eq, decide_eq_false_iff_not] at hc) <;> (first | (exfalso; omega) | skip) <;> simp [-List.reduceReplicate, Nat.add_one_le_iff, -getElem?_pos, -getElem?_neg, List.getElem?_cons_zero, List.getElem?_cons_succ, iC, bC, u64C, hi2, hij, wj, hj5, g1, lx, hwi, c, hc])
       | ((with_reducible first | refine hother _ _ rfl ?_); simp only [inBlockA, thenA, noGotoA, Nat.reduceEqDiff, if_false, if_true, ↓reduceIte])
       | (with_reducible refine And.intro (by omega) ?_)
       | fail)
      refine next _ _ (()) (by omega) (by first | trivial | omega | assumption) (by simp [-List.reduceReplicate, keep, iC]) (by simp [-List.reduceReplicate, iC])
    · have q1 := ld j
      have hbj := hb' j hH c
      have hlb := lb j
      generalize fx j = a at *
      obtain ⟨z, hz1⟩ : ∃ z, 64 - bl a = z := ⟨_, rfl⟩
      rw [hz1] at q1
      have c' : ¬ (a : Int) = 0 := by omega
      have w1 := wrap_in (64 * (i : Int)) (by omega)
      have w2 := wrap_in (320 - 64 * (i : Int)) (by omega)
      have w3 := wrap_in (320 - 64 * (i : Int) - (z : Int)) (by omega)
      have w4 : 320 - 64 * (i : Int) - (z : Int) = (r : Int) := by omega
      have w5 := wrap_in (r : Int) (by omega)
      unfold u64C at q1
      repeat' (first 
       | (with_reducible first | refine awp_scope ?_ | refine awp_seq ?_ | refine awp_block ?_)
       | ((with_reducible first | refine awp_label ?_ | refine awp_skip ?_); try simp only [thenA, inBlockA, noGotoA])
       | (with_reducible refine awp_exit ?_; simp only [thenA, inBlockA, noGotoA, if_true, Nat.reduceEqDiff, if_false, ↓reduceIte])
       | (with_reducible refine awp_ret ?_; (try simp only [thenA, inBlockA, noGotoA]); (try simp [-List.reduceReplicate, Nat.add_one_le_iff, -getElem?_pos, -getElem?_neg, List.getElem?_cons_zero, List.getElem?_cons_succ, iC, bC, u64C, hi2, hij, wj, hj5, g1, lx, c, c', w1, w2, w3, w4, w5]))
       | ((with_reducible first | refine awp_reg 21 hX [1, 2, 3, 4, 5, 6, 13] ?_ | change postOf _ _ _ _ _); simp [-List.reduceReplicate, Nat.add_one_le_iff, -getElem?_pos, -getElem?_neg, List.getElem?_cons_zero, List.getElem?_cons_succ, iC, bC, u64C, hi2, hij, wj, hj5, g1, lx, c, c', w1, w2, w3, w4, w5])
       | ((first | (refine (q1 _).det ?_)); try simp [-List.reduceReplicate, Nat.add_one_le_iff, -getElem?_pos, -getElem?_neg, List.getElem?_cons_zero, List.getElem?_cons_succ, iC, bC, u64C, hi2, hij, wj, hj5, g1, lx, c, c', w1, w2, w3, w4, w5])
       | (with_reducible refine awp_if_b rfl (fun hc => ?_) (fun hc => ?_) <;> (try simp [-getElem?_pos, -getElem?_neg] at hc) <;> (try (exfalso; omega)))
       | ((with_reducible first | refine GuardK_b (fun hc => ?_) (fun hc => ?_)) <;> (try simp only [Bool.not_eq_true', Bool.not_eq_false', decide_eq_true_eq, decide_eq_false_iff_not] at hc) <;> (first | (exfalso; omega) | skip) <;> simp [-List.reduceReplicate, Nat.add_one_le_iff, -getElem?_pos, -getElem?_neg, List.getElem?_cons_zero, List.getElem?_cons_succ, iC, bC, u64C, hi2, hij, wj, hj5, g1, lx, c, c', w1, w2, w3, w4, w5, hc])
       | ((with_reducible first | refine hother _ _ rfl ?_); simp only [inBlockA, thenA, noGotoA, Nat.reduceEqDiff, if_false, if_true, ↓reduceIte])
       | (with_reducible refine And.intro (by omega) ?_)
       | fail)
  · have hi3 : i = 5 := by omega
    subst hi3
    have hr := hb0' hH
    repeat' (first 
     | (with_reducible first | refine awp_scope ?_ | refine awp_seq ?_ | refine awp_block ?_)
     | ((with_reducible first | refine awp_label ?_ | refine awp_skip ?_); try simp only [thenA, inBlockA, noGotoA])
     | (with_reducible refine awp_exit ?_; simp only [thenA, inBlockA, noGotoA, if_true, Nat.reduceEqDiff, if_false, ↓reduceIte])
     | (with_reducible refine awp_ret ?_; (try simp only [thenA, inBlockA, noGotoA]); (try simp [-List.reduceReplicate, Nat.add_one_le_iff, -getElem?_pos, -getElem?_neg, List.getElem?_cons_zero, List.getElem?_cons_succ, iC, hr]))
     | ((with_reducible first | refine awp_reg 21 hX [1, 2, 3, 4, 5, 6, 13] ?_ | change postOf _ _ _ _ _); simp [-List.reduceReplicate, Nat.add_one_le_iff, -getElem?_pos, -getElem?_neg, List.getElem?_cons_zero, List.getElem?_cons_succ, iC, hr])
     | (with_reducible refine awp_if_b rfl (fun hc => ?_) (fun hc => ?_) <;> (try simp [-getElem?_pos, -getElem?_neg] at hc) <;> (try (exfalso; omega)))
     | ((with_reducible first | refine GuardK_b (fun hc => ?_) (fun hc => ?_)) <;> (try simp only [Bool.not_eq_true', Bool.not_eq_false', decide_eq_true_eq, decide_eq_false_iff_not] at hc) <;> (first | (exfalso; omega) | skip) <;> simp [-List.reduceReplicate, Nat.add_one_le_iff, -getElem?_pos, -getElem?_neg, List.getElem?_cons_zero, List.getElem?_cons_succ, iC, hr, hc])
     | ((with_reducible first | refine hother _ _ rfl ?_); simp only [inBlockA, thenA, noGotoA, Nat.reduceEqDiff, if_false, if_true, ↓reduceIte])
     | (with_reducible refine And.intro (by omega) ?_)
     | fail)
theorem of_den (x : Nat) (hx : x < 18446744073709551616) : DenV Try.prog 101 [.c (u64C x)] (largeM x) := by
  have e : limC 5 x = [u64C x, u64C 0, u64C 0, u64C 0, u64C 0] := by
    have h0 : lim x 0 = x := by simp [lim]; omega
    have h1 : ∀ i, lim x (i + 1) = 0 := fun i => by
      unfold lim
      rw [Nat.div_eq_of_lt]
      have : 2 ^ 64 ≤ 2 ^ (64 * (i + 1)) := Nat.pow_le_pow_right (by decide) (by omega)
      exact Nat.lt_of_lt_of_le hx this
    have h2 := h1 0
    have h3 := h1 1
    have h4 := h1 2
    have h5 := h1 3
    simp only [Nat.zero_add] at h2
    simp [limC, List.range_succ, h0, h2, h3, h4, h5]
  refine Den.frame rfl (by simp [largeM, ltB]) ?_
  unfold largeM
  rw [e]
  refine den_of Try.func101 rfl rfl (by simp [Try.ntmps101]) (fun X hX hO => ?_)
  rw [Try.ntmps101] at hX
  simp only [Try.results101]
  repeat' (first 
   | (with_reducible first | refine awp_scope ?_ | refine awp_seq ?_ | refine awp_block ?_)
   | ((with_reducible first | refine awp_label ?_ | refine awp_skip ?_); try simp only [thenA, inBlockA, noGotoA])
   | (with_reducible refine awp_exit ?_; simp only [thenA, inBlockA, noGotoA, if_true, Nat.reduceEqDiff, if_false, ↓reduceIte])
   | (with_reducible refine awp_ret ?_; (try simp only [thenA, inBlockA, noGotoA]); (try simp [-List.reduceReplicate, Nat.add_one_le_iff, -getElem?_pos, -getElem?_neg, List.getElem?_cons_zero, List.getElem?_cons_succ, u64C]))
   | ((with_reducible first | refine awp_reg 5 hX [0, 2] ?_ | change postOf _ _ _ _ _); simp [-List.reduceReplicate, Nat.add_one_le_iff, -getElem?_pos, -getElem?_neg, List.getElem?_cons_zero, List.getElem?_cons_succ, u64C])
   | (with_reducible refine awp_if_b rfl (fun hc => ?_) (fun hc => ?_) <;> (try simp [-getElem?_pos, -getElem?_neg] at hc) <;> (try (exfalso; omega)))
   | ((with_reducible first | refine GuardK_b (fun hc => ?_) (fun hc => ?_)) <;> (try simp only [Bool.not_eq_true', Bool.not_eq_false', decide_eq_true_eq, decide_eq_false_iff_not] at hc) <;> (first | (exfalso; omega) | skip) <;> simp [-List.reduceReplicate, Nat.add_one_le_iff, -getElem?_pos, -getElem?_neg, List.getElem?_cons_zero, List.getElem?_cons_succ, u64C, hc])
   | (with_reducible refine And.intro (by omega) ?_)
   | fail)
  rfl
theorem limC_zero : limC 5 0 = List.replicate 5 (C.v (.int .u64 0)) := by
  have h1 : ∀ i, lim 0 i = 0 := fun i => by simp [lim]
  simp [limC, List.range_succ, h1, u64C]
/-- The limbs below a place, zeros from there on. -/
def shlF (y i : Nat) : List C := (List.range 5).map fun t => u64C (if t < i then lim y t else 0)
theorem shlF_facts (y s : Nat) (h : ∀ t, t < s → lim y t = 0) : shlF y s = List.replicate 5 (C.v (.int .u64 0)) ∧ shlF y 5 = limC 5 y ∧ (∀ i, (shlF y i).length = 5) ∧ ∀ i, i < 5 → (shlF y i).set i (u64C (lim y i)) = shlF y (i + 1) := by
  refine ⟨?_, ?_, fun i => by simp [shlF], fun i hi => ?_⟩
  · unfold shlF
    apply List.ext_getElem (by simp)
    intro t h1 h2
    simp at h1
    simp only [List.getElem_map, List.getElem_range, List.getElem_replicate]
    by_cases c : t < s
    · rw [if_pos c, h t c]; rfl
    · rw [if_neg c]; rfl
  · unfold shlF limC
    refine List.map_congr_left fun t ht => ?_
    rw [if_pos (List.mem_range.1 ht)]
  · unfold shlF
    apply List.ext_getElem (by simp)
    intro t h1 h2
    simp at h1
    rw [List.getElem_set]
    simp only [List.getElem_map, List.getElem_range]
    by_cases c : i = t
    · subst c
      rw [if_pos rfl, if_pos (by omega)]
    · rw [if_neg c]
      by_cases d : t < i
      · rw [if_pos d, if_pos (by omega)]
      · rw [if_neg d, if_neg (by omega)]
set_option maxHeartbeats 8000000 in
theorem shl_den (x n : Nat) (hx : x < 2 ^ (64 * 5)) (hy : x * 2 ^ n < 2 ^ (64 * 5)) (hn : n < 1000000) : DenV Try.prog 100 [largeM x, .c (iC n)] (.tup [largeM (x * 2 ^ n), .c (bC true)]) := by
  refine Den.frame (by simp [largeM, ltBs, ltB]) (by simp [largeM, ltB, ltBs]) ?_
  have ld := len_den x hx
  have z0 : zeroT Try.prog 50 = some (up (List.replicate 5 (C.v (.int .u64 0)))) := by kernel_rfl
  have lz : (List.replicate 5 (C.v (.int .u64 0))).length = 5 := rfl
  by_cases h0 : x = 0
  · subst h0
    have hb : bl 0 = 0 := rfl
    rw [hb] at ld
    rw [Nat.zero_mul]
    unfold largeM at *
    rw [limC_zero] at *
    have tz : (List.replicate 5 (C.v (Value.int .u64 0))).take 5 = List.replicate 5 (C.v (Value.int .u64 0)) := rfl
    generalize (List.replicate 5 (C.v (Value.int .u64 0))) = zs at *
    refine den_of Try.func100 rfl rfl (by simp [Try.ntmps100]) (fun X hX hO => ?_)
    rw [Try.ntmps100] at hX
    simp only [Try.results100]
    have i1 : ¬ (n : Int) < 0 := by omega
    repeat' (first 
     | (with_reducible first | refine awp_scope ?_ | refine awp_seq ?_ | refine awp_block ?_)
     | ((with_reducible first | refine awp_label ?_ | refine awp_skip ?_); try simp only [thenA, inBlockA, noGotoA])
     | (with_reducible refine awp_exit ?_; simp only [thenA, inBlockA, noGotoA, if_true, Nat.reduceEqDiff, if_false, ↓reduceIte])
     | (with_reducible refine awp_ret ?_; (try simp only [thenA, inBlockA, noGotoA]); (try simp [-List.reduceReplicate, Nat.add_one_le_iff, -getElem?_pos, -getElem?_neg, List.getElem?_cons_zero, List.getElem?_cons_succ, iC, bC, z0, lz, tz, i1, -Tab.zero50]))
     | ((with_reducible first | refine awp_reg 70 hX [1, 2, 4, 5, 6, 7, 8, 9, 23, 27, 36, 54] ?_ | refine awp_drw 70 hX [1, 2, 4, 5, 6, 7, 8, 9, 23, 27, 36, 54] Tab.mixed (by kernel_rfl) ?_ | refine DEv_cut _ _ _ _ _ _ _ _ _ _ _ _ (by kernel_rfl) ?_ | change postOf _ _ _ _ _); simp [-List.reduceReplicate, Nat.add_one_le_iff, -getElem?_pos, -getElem?_neg, List.getElem?_cons_zero, List.getElem?_cons_succ, iC, bC, z0, lz, tz, i1, -Tab.zero50])
     | ((first | (refine (ld _).det ?_) | (refine ⟨_, _, ld _, fun _ => rfl, ?_⟩)); try simp [-List.reduceReplicate, Nat.add_one_le_iff, -getElem?_pos, -getElem?_neg, List.getElem?_cons_zero, List.getElem?_cons_succ, iC, bC, z0, lz, tz, i1, -Tab.zero50])
     | (with_reducible refine awp_if_b rfl (fun hc => ?_) (fun hc => ?_) <;> (try simp [-getElem?_pos, -getElem?_neg] at hc) <;> (try (exfalso; omega)))
     | ((with_reducible first | refine GuardK_b (fun hc => ?_) (fun hc => ?_) | refine DGuard_b _ _ _ _ _ _ _ _ _ _ (fun hc => ?_) (fun hc => ?_)) <;> (try simp only [Bool.not_eq_true', Bool.not_eq_false', decide_eq_true_eq, decide_eq_false_iff_not] at hc) <;> (first | (exfalso; omega) | skip) <;> simp [-List.reduceReplicate, Nat.add_one_le_iff, -getElem?_pos, -getElem?_neg, List.getElem?_cons_zero, List.getElem?_cons_succ, iC, bC, z0, lz, tz, i1, -Tab.zero50, hc])
     | ((with_reducible first | refine hother _ _ rfl ?_); simp only [inBlockA, thenA, noGotoA, Nat.reduceEqDiff, if_false, if_true, ↓reduceIte])
     | (with_reducible refine And.intro (by omega) ?_)
     | fail)
  · have hbl : bl x ≠ 0 := by unfold bl; rw [if_neg h0]; omega
    have hbn : bl x + n ≤ 320 := by
      obtain ⟨_, b⟩ := bl_spec x
      rcases b with c | c
      · omega
      · rcases Nat.lt_or_ge 320 (bl x + n) with d | d
        · exfalso
          have h1 : 2 ^ (bl x - 1) * 2 ^ n ≤ x * 2 ^ n := Nat.mul_le_mul_right _ c
          rw [← Nat.pow_add] at h1
          have h2 : 2 ^ (64 * 5) ≤ 2 ^ (bl x - 1 + n) := Nat.pow_le_pow_right (by decide) (by omega)
          omega
        · exact d
    obtain ⟨s, hs⟩ : ∃ s, n / 64 = s := ⟨_, rfl⟩
    obtain ⟨b, hb⟩ : ∃ b, n % 64 = b := ⟨_, rfl⟩
    have hb64 : b < 64 := by omega
    have hs5 : s < 5 := by omega
    have hnsb : n = 64 * s + b := by omega
    have hlow : ∀ t, t < s → lim (x * 2 ^ n) t = 0 := fun t h => by rw [hnsb]; exact lim_shl_low x s b t h
    obtain ⟨F0, F5, FL, FS⟩ := shlF_facts (x * 2 ^ n) s hlow
    have st0 : lim (x * 2 ^ n) s = lim x 0 * 2 ^ b % 18446744073709551616 := by rw [hnsb]; exact lim_shl_0 x s b
    have st1 : ∀ j, lim (x * 2 ^ n) (s + (j + 1)) = lim x (j + 1) * 2 ^ b % 18446744073709551616 + lim x j / 2 ^ (64 - b) := fun j => by rw [hnsb]; exact lim_shl_succ x s b j hb64
    have st2 : ∀ j, lim x (j + 1) * 2 ^ b % 18446744073709551616 ||| lim x j / 2 ^ (64 - b) = lim (x * 2 ^ n) (s + (j + 1)) := fun j => by rw [hnsb]; exact shl_or x s b j hb64
    have hlx := lim_lt x
    have gx := limC5_get x
    have lx := limC_len 5 x
    have tx : (limC 5 x).take 5 = limC 5 x := List.take_of_length_le (by rw [lx]; omega)
    unfold largeM at *
    rw [← F5]
    rw [← F0] at z0
    have FT : ∀ i, (shlF (x * 2 ^ n) i).take 5 = shlF (x * 2 ^ n) i := fun i => List.take_of_length_le (by rw [FL]; omega)
    clear F0 F5 hlow lz
    generalize shlF (x * 2 ^ n) = F at *
    generalize lim (x * 2 ^ n) = fy at *
    generalize lim x = fx at *
    generalize limC 5 x = cx at *
    generalize bl x = m at *
    have hm0 : (0 : Int) < m := by omega
    have w0 := wrap_in (320 - (m : Int)) (by omega)
    have c0 : ¬ (320 : Int) - m < n := by omega
    have c1 : ¬ (m : Int) = 0 := by omega
    have q1 : ((n : Int)).tdiv 64 = (s : Int) := by rw [← hs]; rfl
    have q2 : ((n : Int)).tmod 64 = (b : Int) := by rw [← hb]; rfl
    have i1 : ¬ (n : Int) < 0 := by omega
    have w1 := wrap_in (s : Int) (by omega)
    have w2 := wrapU64 (b : Int) (by omega)
    refine den_of Try.func100 rfl rfl (by simp [Try.ntmps100]) (fun X hX hO => ?_)
    rw [Try.ntmps100] at hX
    simp only [Try.results100]
    repeat' (first 
     | (with_reducible first | refine awp_scope ?_ | refine awp_seq ?_ | refine awp_block ?_)
     | ((with_reducible first | refine awp_label ?_ | refine awp_skip ?_); try simp only [thenA, inBlockA, noGotoA])
     | (with_reducible refine awp_exit ?_; simp only [thenA, inBlockA, noGotoA, if_true, Nat.reduceEqDiff, if_false, ↓reduceIte])
     | (with_reducible refine awp_ret ?_; (try simp only [thenA, inBlockA, noGotoA]); (try simp [-List.reduceReplicate, Nat.add_one_le_iff, -getElem?_pos, -getElem?_neg, List.getElem?_cons_zero, List.getElem?_cons_succ, iC, bC, z0, FL, FT, lx, tx, i1, hm0, w0, c0, c1, q1, q2, w1, w2, -Tab.zero50]))
     | ((with_reducible first | refine awp_reg 70 hX [1, 2, 4, 5, 6, 7, 8, 9, 23, 27, 36, 54] ?_ | refine awp_drw 70 hX [1, 2, 4, 5, 6, 7, 8, 9, 23, 27, 36, 54] Tab.mixed (by kernel_rfl) ?_ | refine DEv_cut _ _ _ _ _ _ _ _ _ _ _ _ (by kernel_rfl) ?_ | change postOf _ _ _ _ _); simp [-List.reduceReplicate, Nat.add_one_le_iff, -getElem?_pos, -getElem?_neg, List.getElem?_cons_zero, List.getElem?_cons_succ, iC, bC, z0, FL, FT, lx, tx, i1, hm0, w0, c0, c1, q1, q2, w1, w2, -Tab.zero50])
     | ((first | (refine (ld _).det ?_) | (refine ⟨_, _, ld _, fun _ => rfl, ?_⟩)); try simp [-List.reduceReplicate, Nat.add_one_le_iff, -getElem?_pos, -getElem?_neg, List.getElem?_cons_zero, List.getElem?_cons_succ, iC, bC, z0, FL, FT, lx, tx, i1, hm0, w0, c0, c1, q1, q2, w1, w2, -Tab.zero50])
     | (with_reducible refine awp_if_b rfl (fun hc => ?_) (fun hc => ?_) <;> (try simp [-getElem?_pos, -getElem?_neg] at hc) <;> (try (exfalso; omega)))
     | ((with_reducible first | refine GuardK_b (fun hc => ?_) (fun hc => ?_) | refine DGuard_b _ _ _ _ _ _ _ _ _ _ (fun hc => ?_) (fun hc => ?_)) <;> (try simp only [Bool.not_eq_true', Bool.not_eq_false', decide_eq_true_eq, decide_eq_false_iff_not] at hc) <;> (first | (exfalso; omega) | skip) <;> simp [-List.reduceReplicate, Nat.add_one_le_iff, -getElem?_pos, -getElem?_neg, List.getElem?_cons_zero, List.getElem?_cons_succ, iC, bC, z0, FL, FT, lx, tx, i1, hm0, w0, c0, c1, q1, q2, w1, w2, -Tab.zero50, hc])
     | ((with_reducible first | refine hother _ _ rfl ?_); simp only [inBlockA, thenA, noGotoA, Nat.reduceEqDiff, if_false, if_true, ↓reduceIte])
     | (with_reducible refine And.intro (by omega) ?_)
     | fail)
    refine awp_forU [2, 4, 6, 7, 8, 9] (fun j (_u : Unit) => [(9, .c (iC (s + j : Nat)))]) (fun j (_u : Unit) => [⟨50, 1, false, 0, up cx, none⟩, ⟨50, 1, false, 0, up (F s), none⟩, ⟨50, 1, false, 0, up (F (s + j)), none⟩]) (fun j (_u : Unit) => True) (5 - s) (()) (by first | trivial | (simp; done) | omega | (intros; simp at *; done)) (by simp [-List.reduceReplicate, keep, iC]) (by simp [-List.reduceReplicate, iC]) ?_
    rintro j _u Q1 hi hH next hother
    conv => arg 5; arg 1; simp only [List.cons_append, List.nil_append, keep, get, Nat.reduceEqDiff, if_true, if_false, ↓reduceIte]
    obtain ⟨i, hi'⟩ : ∃ i, s + j = i := ⟨_, rfl⟩
    have e1 : s + (j + 1) = i + 1 := by omega
    rw [hi'] at ⊢
    rw [e1] at next
    have hwi := wrap_in ((i : Int) + 1) (by omega)
    by_cases hlt : i < 5
    · have hlt2 : (i : Int) < 5 := by omega
      have hj5 : j < 5 := by omega
      have is1 : (i : Int) - (s : Int) = (j : Int) := by omega
      have wj := wrap_in (j : Int) (by omega)
      have g1 := gx j hj5
      have mb : min b IntKind.u64.bits = b := by show min b 64 = b; omega
      have hA : IntKind.u64.wrap ((fx j : Int) * 2 ^ b) = ((fx j * 2 ^ b % 18446744073709551616 : Nat) : Int) := by rw [mul_pow2, modU64]; rfl
      obtain ⟨A, hAe⟩ : ∃ A, fx j * 2 ^ b % 18446744073709551616 = A := ⟨_, rfl⟩
      rw [hAe] at hA
      have hfs := FS i hlt
      have i2 : ¬ (b : Int) < 0 := by omega
      have fl := FL i
      have hup : ∀ z, (up (F i)).set i (M.c z) = up ((F i).set i z) := fun z => by simp [up, List.map_set]
      have fl2 : ∀ z, ((F i).set i z).length = 5 := fun z => by simp [FL]
      unfold u64C at *
      by_cases hj : j = 0
      · subst hj
        have hA2 : A = fy i := by rw [← hAe, ← st0]; congr 1
        subst hA2
        have c2 : ¬ (s : Int) < (i : Int) := by omega
        have w00 : IntKind.i64.wrap 0 = 0 := rfl
        repeat' (first 
         | (with_reducible first | refine awp_scope ?_ | refine awp_seq ?_ | refine awp_block ?_)
         | ((with_reducible first | refine awp_label ?_ | refine awp_skip ?_); try simp only [thenA, inBlockA, noGotoA])
         | (with_reducible refine awp_exit ?_; simp only [thenA, inBlockA, noGotoA, if_true, Nat.reduceEqDiff, if_false, ↓reduceIte])
         | (with_reducible refine awp_ret ?_; (try simp only [thenA, inBlockA, noGotoA]); (try simp [-List.reduceReplicate, Nat.add_one_le_iff, -getElem?_pos, -getElem?_neg, List.getElem?_cons_zero, List.getElem?_cons_succ, iC, bC, u64C, hlt2, is1, wj, w00, g1, mb, hA, fl, hup, hfs, hj5, lx, hlt, i2, c2, hwi]))
         | ((with_reducible first | refine awp_reg 70 hX [1, 2, 4, 5, 6, 7, 8, 9, 23, 27, 36, 54] ?_ | refine awp_drw 70 hX [1, 2, 4, 5, 6, 7, 8, 9, 23, 27, 36, 54] Tab.mixed (by kernel_rfl) ?_ | refine DEv_cut _ _ _ _ _ _ _ _ _ _ _ _ (by kernel_rfl) ?_ | change postOf _ _ _ _ _); simp [-List.reduceReplicate, Nat.add_one_le_iff, -getElem?_pos, -getElem?_neg, List.getElem?_cons_zero, List.getElem?_cons_succ, iC, bC, u64C, hlt2, is1, wj, w00, g1, mb, hA, fl, hup, hfs, hj5, lx, hlt, i2, c2, hwi])
         | (with_reducible refine awp_if_b rfl (fun hc => ?_) (fun hc => ?_) <;> (try simp [-getElem?_pos, -getElem?_neg] at hc) <;> (try (exfalso; omega)))
         | ((with_reducible first | refine GuardK_b (fun hc => ?_) (fun hc => ?_) | refine DGuard_b _ _ _ _ _ _ _ _ _ _ (fun hc => ?_) (fun hc => ?_)) <;> (try simp only [Bool.not_eq_true', Bool.not_eq_false', decide_eq_true_eq, decide_eq_false_iff_not] at hc) <;> (first | (exfalso; omega) | skip) <;> simp [-List.reduceReplicate, Nat.add_one_le_iff, -getElem?_pos, -getElem?_neg, List.getElem?_cons_zero, List.getElem?_cons_succ, iC, bC, u64C, hlt2, is1, wj, w00, g1, mb, hA, fl, hup, hfs, hj5, lx, hlt, i2, c2, hwi, hc])
         | ((with_reducible first | refine hother _ _ rfl ?_); simp only [inBlockA, thenA, noGotoA, Nat.reduceEqDiff, if_false, if_true, ↓reduceIte])
         | (with_reducible refine And.intro (by omega) ?_)
         | fail)
        all_goals exact next _ _ () (by omega) trivial (by simp [keep, iC]) rfl
      · obtain ⟨k, hk⟩ : ∃ k, k + 1 = j := ⟨j - 1, by omega⟩
        have c2 : (s : Int) < (i : Int) := by omega
        have stk := st1 k
        have sok := st2 k
        rw [hk, hi', hAe] at stk sok
        by_cases hb0 : b = 0
        · have hA2 : A = fy i := by
            rw [stk, hb0, Nat.div_eq_of_lt (hlx k)]; rfl
          subst hA2
          have c3 : ¬ (0 : Int) < (b : Int) := by omega
          repeat' (first 
           | (with_reducible first | refine awp_scope ?_ | refine awp_seq ?_ | refine awp_block ?_)
           | ((with_reducible first | refine awp_label ?_ | refine awp_skip ?_); try simp only [thenA, inBlockA, noGotoA])
           | (with_reducible refine awp_exit ?_; simp only [thenA, inBlockA, noGotoA, if_true, Nat.reduceEqDiff, if_false, ↓reduceIte])
           | (with_reducible refine awp_ret ?_; (try simp only [thenA, inBlockA, noGotoA]); (try simp [-List.reduceReplicate, Nat.add_one_le_iff, -getElem?_pos, -getElem?_neg, List.getElem?_cons_zero, List.getElem?_cons_succ, iC, bC, u64C, hlt2, is1, wj, g1, mb, hA, fl, hup, hfs, hj5, lx, hlt, i2, c2, c3, hwi]))
           | ((with_reducible first | refine awp_reg 70 hX [1, 2, 4, 5, 6, 7, 8, 9, 23, 27, 36, 54] ?_ | refine awp_drw 70 hX [1, 2, 4, 5, 6, 7, 8, 9, 23, 27, 36, 54] Tab.mixed (by kernel_rfl) ?_ | refine DEv_cut _ _ _ _ _ _ _ _ _ _ _ _ (by kernel_rfl) ?_ | change postOf _ _ _ _ _); simp [-List.reduceReplicate, Nat.add_one_le_iff, -getElem?_pos, -getElem?_neg, List.getElem?_cons_zero, List.getElem?_cons_succ, iC, bC, u64C, hlt2, is1, wj, g1, mb, hA, fl, hup, hfs, hj5, lx, hlt, i2, c2, c3, hwi])
           | (with_reducible refine awp_if_b rfl (fun hc => ?_) (fun hc => ?_) <;> (try simp [-getElem?_pos, -getElem?_neg] at hc) <;> (try (exfalso; omega)))
           | ((with_reducible first | refine GuardK_b (fun hc => ?_) (fun hc => ?_) | refine DGuard_b _ _ _ _ _ _ _ _ _ _ (fun hc => ?_) (fun hc => ?_)) <;> (try simp only [Bool.not_eq_true', Bool.not_eq_false', decide_eq_true_eq, decide_eq_false_iff_not] at hc) <;> (first | (exfalso; omega) | skip) <;> simp [-List.reduceReplicate, Nat.add_one_le_iff, -getElem?_pos, -getElem?_neg, List.getElem?_cons_zero, List.getElem?_cons_succ, iC, bC, u64C, hlt2, is1, wj, g1, mb, hA, fl, hup, hfs, hj5, lx, hlt, i2, c2, c3, hwi, hc])
           | ((with_reducible first | refine hother _ _ rfl ?_); simp only [inBlockA, thenA, noGotoA, Nat.reduceEqDiff, if_false, if_true, ↓reduceIte])
           | (with_reducible refine And.intro (by omega) ?_)
           | fail)
          all_goals exact next _ _ () (by omega) trivial (by simp [keep, iC]) rfl
        · have c3 : (0 : Int) < (b : Int) := by omega
          have is3 : (j : Int) - 1 = (k : Int) := by omega
          have wk := wrap_in (k : Int) (by omega)
          have hk5 : k < 5 := by omega
          have g2 := gx k hk5
          have w64 := wrapU64 (64 - (b : Int)) (by omega)
          have tn : (64 - (b : Int)).toNat = 64 - b := by omega
          have mn : min (64 - b) IntKind.u64.bits = 64 - b := by show min (64 - b) 64 = 64 - b; omega
          have i3 : ¬ (64 - (b : Int)) < 0 := by omega
          have fd := fdiv_pow (fx k) (64 - b)
          have hAl : A < 18446744073709551616 := by rw [← hAe]; exact Nat.mod_lt _ (by decide)
          have hor := orU .u64 A (fx k / 2 ^ (64 - b)) hAl (Nat.lt_of_le_of_lt (Nat.div_le_self _ _) (hlx k)) rfl
          rw [sok] at hor
          generalize fx k / 2 ^ (64 - b) = D at *
          have gA : ((F i).set i (C.v (.int .u64 A)))[i]? = some (C.v (.int .u64 A)) := by simp [FL, hlt]
          have ss : ((F i).set i (C.v (.int .u64 A))).set i (C.v (.int .u64 (fy i))) = F (i + 1) := by rw [List.set_set]; exact hfs
          have fA := fl2 (C.v (.int .u64 A))
          have hup2 : ∀ z, (up ((F i).set i (C.v (.int .u64 A)))).set i (M.c z) = up (((F i).set i (C.v (.int .u64 A))).set i z) := fun z => by simp [up, List.map_set]
          have hG := hup (C.v (.int .u64 A))
          generalize (F i).set i (C.v (.int .u64 A)) = G at *
          repeat' (first 
           | (with_reducible first | refine awp_scope ?_ | refine awp_seq ?_ | refine awp_block ?_)
           | ((with_reducible first | refine awp_label ?_ | refine awp_skip ?_); try simp only [thenA, inBlockA, noGotoA])
           | (with_reducible refine awp_exit ?_; simp only [thenA, inBlockA, noGotoA, if_true, Nat.reduceEqDiff, if_false, ↓reduceIte])
           | (with_reducible refine awp_ret ?_; (try simp only [thenA, inBlockA, noGotoA]); (try simp [-List.reduceReplicate, Nat.add_one_le_iff, -getElem?_pos, -getElem?_neg, List.getElem?_cons_zero, List.getElem?_cons_succ, iC, bC, u64C, hlt2, is1, is3, wj, wk, g1, g2, mb, hA, fl, hG, hup2, hj5, hk5, lx, hlt, i2, i3, c2, c3, hwi, w64, tn, mn, fd, hor, gA, ss, fA]))
           | ((with_reducible first | refine awp_reg 70 hX [1, 2, 4, 5, 6, 7, 8, 9, 23, 27, 36, 54] ?_ | refine awp_drw 70 hX [1, 2, 4, 5, 6, 7, 8, 9, 23, 27, 36, 54] Tab.mixed (by kernel_rfl) ?_ | refine DEv_cut _ _ _ _ _ _ _ _ _ _ _ _ (by kernel_rfl) ?_ | change postOf _ _ _ _ _); simp [-List.reduceReplicate, Nat.add_one_le_iff, -getElem?_pos, -getElem?_neg, List.getElem?_cons_zero, List.getElem?_cons_succ, iC, bC, u64C, hlt2, is1, is3, wj, wk, g1, g2, mb, hA, fl, hG, hup2, hj5, hk5, lx, hlt, i2, i3, c2, c3, hwi, w64, tn, mn, fd, hor, gA, ss, fA])
           | (with_reducible refine awp_if_b rfl (fun hc => ?_) (fun hc => ?_) <;> (try simp [-getElem?_pos, -getElem?_neg] at hc) <;> (try (exfalso; omega)))
           | ((with_reducible first | refine GuardK_b (fun hc => ?_) (fun hc => ?_) | refine DGuard_b _ _ _ _ _ _ _ _ _ _ (fun hc => ?_) (fun hc => ?_)) <;> (try simp only [Bool.not_eq_true', Bool.not_eq_false', decide_eq_true_eq, decide_eq_false_iff_not] at hc) <;> (first | (exfalso; omega) | skip) <;> simp [-List.reduceReplicate, Nat.add_one_le_iff, -getElem?_pos, -getElem?_neg, List.getElem?_cons_zero, List.getElem?_cons_succ, iC, bC, u64C, hlt2, is1, is3, wj, wk, g1, g2, mb, hA, fl, hG, hup2, hj5, hk5, lx, hlt, i2, i3, c2, c3, hwi, w64, tn, mn, fd, hor, gA, ss, fA, hc])
           | ((with_reducible first | refine hother _ _ rfl ?_); simp only [inBlockA, thenA, noGotoA, Nat.reduceEqDiff, if_false, if_true, ↓reduceIte])
           | (with_reducible refine And.intro (by omega) ?_)
           | fail)
          all_goals exact next _ _ () (by omega) trivial (by simp [keep, iC]) rfl
    · have hi5 : i = 5 := by omega
      subst hi5
      repeat' (first 
       | (with_reducible first | refine awp_scope ?_ | refine awp_seq ?_ | refine awp_block ?_)
       | ((with_reducible first | refine awp_label ?_ | refine awp_skip ?_); try simp only [thenA, inBlockA, noGotoA])
       | (with_reducible refine awp_exit ?_; simp only [thenA, inBlockA, noGotoA, if_true, Nat.reduceEqDiff, if_false, ↓reduceIte])
       | (with_reducible refine awp_ret ?_; (try simp only [thenA, inBlockA, noGotoA]); (try simp [-List.reduceReplicate, Nat.add_one_le_iff, -getElem?_pos, -getElem?_neg, List.getElem?_cons_zero, List.getElem?_cons_succ, iC, bC, FL, FT]))
       | ((with_reducible first | refine awp_reg 70 hX [1, 2, 4, 5, 6, 7, 8, 9, 23, 27, 36, 54] ?_ | refine awp_drw 70 hX [1, 2, 4, 5, 6, 7, 8, 9, 23, 27, 36, 54] Tab.mixed (by kernel_rfl) ?_ | refine DEv_cut _ _ _ _ _ _ _ _ _ _ _ _ (by kernel_rfl) ?_ | change postOf _ _ _ _ _); simp [-List.reduceReplicate, Nat.add_one_le_iff, -getElem?_pos, -getElem?_neg, List.getElem?_cons_zero, List.getElem?_cons_succ, iC, bC, FL, FT])
       | (with_reducible refine awp_if_b rfl (fun hc => ?_) (fun hc => ?_) <;> (try simp [-getElem?_pos, -getElem?_neg] at hc) <;> (try (exfalso; omega)))
       | ((with_reducible first | refine GuardK_b (fun hc => ?_) (fun hc => ?_) | refine DGuard_b _ _ _ _ _ _ _ _ _ _ (fun hc => ?_) (fun hc => ?_)) <;> (try simp only [Bool.not_eq_true', Bool.not_eq_false', decide_eq_true_eq, decide_eq_false_iff_not] at hc) <;> (first | (exfalso; omega) | skip) <;> simp [-List.reduceReplicate, Nat.add_one_le_iff, -getElem?_pos, -getElem?_neg, List.getElem?_cons_zero, List.getElem?_cons_succ, iC, bC, FL, FT, hc])
       | ((with_reducible first | refine hother _ _ rfl ?_); simp only [inBlockA, thenA, noGotoA, Nat.reduceEqDiff, if_false, if_true, ↓reduceIte])
       | (with_reducible refine And.intro (by omega) ?_)
       | fail)
end Go.Av

/-! ### up: the places of a level: a range over a function, over the world -/
set_option linter.unusedVariables false
set_option linter.unusedSimpArgs false
namespace Go.Av.Up
open Go Go.Proofs Go.RowKit Go.Shelf
attribute [local go_sem] Oper.semAt_some

def hit (zs : List Int) (from_ level : Int) (i : Nat) : Bool := decide (from_ ≤ (i : Int)) && decide (level ≤ zs[i]?.getD 0)
def pl (zs : List Int) (from_ level : Int) (k : Nat) : List Nat := (List.range (min k zs.length)).filter (hit zs from_ level)
theorem pl_yes {zs : List Int} {from_ level : Int} {k : Nat} (hk : k < zs.length) (h1 : from_ ≤ (k : Int)) (h2 : level ≤ zs[k]?.getD 0) : pl zs from_ level (k + 1) = pl zs from_ level k ++ [k] := by
  unfold pl
  rw [show min (k + 1) zs.length = k + 1 by omega, show min k zs.length = k by omega, List.range_succ, List.filter_append]
  simp only [List.filter_cons, List.filter_nil, hit, h1, h2, decide_true, Bool.and_self, if_true]
theorem pl_no {zs : List Int} {from_ level : Int} {k : Nat} (hk : k < zs.length) (h2 : ¬ level ≤ zs[k]?.getD 0) : pl zs from_ level (k + 1) = pl zs from_ level k := by
  unfold pl
  rw [show min (k + 1) zs.length = k + 1 by omega, show min k zs.length = k by omega, List.range_succ, List.filter_append]
  simp [List.filter_cons, hit, h2]
theorem pl_all {zs : List Int} {from_ level : Int} {k : Nat} (hk : zs.length ≤ k) : pl zs from_ level k = pl zs from_ level zs.length := by
  unfold pl; rw [show min k zs.length = zs.length by omega, Nat.min_self]
theorem pl_start {zs : List Int} {from_ level : Int} {k : Nat} (hk : (k : Int) ≤ max from_ 0) : pl zs from_ level k = [] := by
  unfold pl
  rw [List.filter_eq_nil_iff]
  intro i hi
  rw [List.mem_range] at hi
  simp only [hit, Bool.and_eq_true, decide_eq_true_eq]
  omega
theorem pl_len (zs : List Int) (from_ level : Int) (k : Nat) : (pl zs from_ level k).length ≤ k := by
  unfold pl
  refine Nat.le_trans (List.length_filter_le _ _) ?_
  rw [List.length_range]; omega
theorem pl_prefix (zs : List Int) (from_ level : Int) (k : Nat) : pl zs from_ level k <+: pl zs from_ level zs.length := by
  unfold pl
  rw [Nat.min_self]
  obtain ⟨d, hd⟩ : ∃ d, zs.length = min k zs.length + d := ⟨zs.length - min k zs.length, by omega⟩
  rw [hd, List.range_add, List.filter_append]
  rw [show min k (min k zs.length + d) = min k zs.length by omega]
  exact List.prefix_append _ _

/-- What lies below B, but for one block, lies as it lay. -/
def BX (c B : Nat) (w w' : World) : Prop := ∀ k, k < B → k ≠ c → w'.heap[k]? = w.heap[k]?
theorem BX.refl (c B : Nat) (w : World) : BX c B w w := fun _ _ _ => rfl
theorem BX.trans {c B : Nat} {w w1 w2 : World} (h : BX c B w w1) (k : BX c B w1 w2) : BX c B w w2 := fun b hb hc => (k b hb hc).trans (h b hb hc)
theorem BX.drew {c B : Nat} {w w1 : World} (h : BX c B w w1) : BX c B w w1.drew := h
theorem BX.cell {c B : Nat} {w w1 : World} (h : BX c B w w1) {p : Addr} (hb : p.block < B) (hc : p.block ≠ c) : w1.cell? p = w.cell? p := World.cell?_of_block (w := w) (h p.block hb hc)
theorem BX.of_below {c B : Nat} {w w1 : World} (h : Below B w w1) : BX c B w w1 := fun k hk _ => h.block k hk
set_option maxRecDepth 100000 in
set_option maxHeartbeats 4000000 in
theorem each1_in (F : Fence) (n : Nat) (h7 : F.fn 77) (hro : F.round = none) (hn : 1 ≤ n) (l B1 B2 B3 n₀ c b off cap : Nat) (zs : List Int) (from_ level : Int) (hf : from_ ≤ 9223372036854775807) (hreach : zs.length ≤ 1000000) (hb : b < n₀) (h1n : B1 < n₀) (h2n : B2 < n₀) (h3n : B3 < n₀) (hcb : b < c) (h1c : B1 ≠ c) (h2c : B2 ≠ c) (h3c : B3 ≠ c) (J Jx : List Nat → World → Prop) (hJ : ∀ s W, J s W → J s W.drew)
    (hY : ∀ pre (x : Nat) W, J pre W → pre.length < zs.length → YieldAt F (n - 1) Try.prog l #[.int .i64 (x : Int)] W fun e W' =>
      (e = .returned (.bool true) ∧ J (pre ++ [x]) W' ∧ BX c n₀ W W') ∨ (e = .returned (.bool false) ∧ Jx (pre ++ [x]) W'))
    (W : World) (hB1 : W.cell? ⟨B1, 0, none⟩ = some (.int .i64 from_)) (hB2 : W.cell? ⟨B2, 0, none⟩ = some (.slice (some ⟨b, off, none⟩) zs.length cap)) (hB3 : W.cell? ⟨B3, 0, none⟩ = some (.int .i64 level)) (hc : ∀ j, j < zs.length → W.cell? ⟨b, off + j, none⟩ = some (.int .i64 (zs[j]?.getD 0))) (h0 : J [] W) :
    CallsIn F n Try.prog 77 #[.func (.yield l) #[] #[], .pointer (some ⟨B1, 0, none⟩), .pointer (some ⟨B2, 0, none⟩), .pointer (some ⟨B3, 0, none⟩)] W fun e W' => (∃ v, e = .returned v) ∧
      ((∃ ys, ys = pl zs from_ level zs.length ∧ J ys W') ∨ (∃ pre, pre <+: pl zs from_ level zs.length ∧ Jx pre W')) := by
  refine callsIn_of_wp Try.func77 rfl h7 ?_ hro
  simp only [Try.ntmps77, List.size_toArray, List.length_cons, List.length_nil, Nat.reduceAdd, Nat.reduceSub, Array.replicate_succ, Array.replicate_zero, List.push_toArray, List.append_toArray, List.nil_append, List.cons_append]
  have hpl := pl_len zs from_ level
  refine (fun (key : ∀ (m : Int) (v6 : Value), 0 ≤ m → from_ ≤ m → m ≤ max from_ 0 → Code.wpIn F n Try.prog ?C ?Q { tmps := #[.func (.yield l) #[] #[], .pointer (some ⟨B1, 0, none⟩), .pointer (some ⟨B2, 0, none⟩), .pointer (some ⟨B3, 0, none⟩), undef, .int .i64 m, v6, .int .i64 m, undef, undef, undef, undef, undef, undef, undef, undef, undef, undef, undef, undef, undef, undef, undef, undef, undef, undef], defers := [] } W) => ?main) ?proof
  case main =>
    gi_wp2
    · exact key 0 _ (by omega) (by omega) (by omega)
    · exact key from_ _ (by omega) (by omega) (by omega)
  case proof =>
  intro m v6 hm0 hm1 hm2
  gi_loopw [5] (fun i wr => ∃ k : Nat, i = .int .i64 (k : Int) ∧ k ≤ 9223372036854775807 ∧ from_ ≤ (k : Int) ∧ J (pl zs from_ level k) wr ∧ BX c n₀ W wr)
    (fun i _ => zs.length - (intOf i).toNat)
  case atStart => exact ⟨m.toNat, by rw [Int.toNat_of_nonneg (by omega)], by omega, by omega, by rw [pl_start (by omega)]; exact h0, BX.refl _ _ _⟩
  case round =>
    obtain ⟨k, rfl, hk64, hfk, hJs, hnx⟩ := hrel
    have hc1 : wr.cell? ⟨B1, 0, none⟩ = some (.int .i64 from_) := (hnx.cell (p := ⟨B1, 0, none⟩) h1n h1c).trans hB1
    have hc2 : wr.cell? ⟨B2, 0, none⟩ = some (.slice (some ⟨b, off, none⟩) zs.length cap) := (hnx.cell (p := ⟨B2, 0, none⟩) h2n h2c).trans hB2
    have hc3 : wr.cell? ⟨B3, 0, none⟩ = some (.int .i64 level) := (hnx.cell (p := ⟨B3, 0, none⟩) h3n h3c).trans hB3
    by_cases hlt : k < zs.length
    · have hcx : wr.cell? ⟨b, off + k, none⟩ = some (.int .i64 (zs[k]?.getD 0)) := (hnx.cell (p := ⟨b, off + k, none⟩) hb (Nat.ne_of_lt hcb)).trans (hc k hlt)
      obtain ⟨fn, tmps, assign, body, hy, hR⟩ := hY _ k wr.drew (hJ _ _ hJs) (by have := hpl k; omega)
      generalize hz : zs[k]?.getD 0 = z at *
      by_cases hge : level ≤ z
      · gi_wp2
        clear hY hB1 hB2 hB3 hc h0 hpl hc1
        rename_i Qr Kb hKb Kc hKc
        have fin : ∀ (bb : Bool) (W3 : World), ((bb = true ∧ J (pl zs from_ level k ++ [k]) W3 ∧ BX c n₀ wr.drew W3) ∨ (bb = false ∧ Jx (pl zs from_ level k ++ [k]) W3)) → Exit.then Kc (Exit.inBlock 1 (Exit.then Kb Qr)) Exit.normal { tmps := #[.func (.yield l) #[] #[], .pointer (some ⟨B1, 0, none⟩), .pointer (some ⟨B2, 0, none⟩), .pointer (some ⟨B3, 0, none⟩), undef, .int .i64 (k : Int), v6, .int .i64 m, .int .i64 (k : Int), .slice (some ⟨b, off, none⟩) zs.length cap, .int .i64 (zs.length : Int), .bool true, u12, u13, .slice (some ⟨b, off, none⟩) zs.length cap, .int .i64 (k : Int), .pointer (some ⟨b, off + k, none⟩), .int .i64 z, .int .i64 level, .bool true, .bool true, .func (.yield l) #[] #[], .int .i64 (k : Int), .bool bb, .bool !bb, .bool !bb], defers := [] } W3 := by
          intro bb W3 hor2
          rcases hor2 with ⟨rfl, hJ3, hk3⟩ | ⟨rfl, hJx3⟩
          · gi_wp2
            go_roundw
            case rel => exact ⟨k + 1, by simp, by omega, by omega, by rw [pl_yes hlt hfk (by rw [hz]; exact hge)]; exact hJ3, (hnx.drew).trans hk3⟩
            case measure => simp [intOf]; omega
          · gi_wp2
            refine bodyPost_ret (results_none rfl _ _ _) rfl ?_
            exact ⟨⟨_, rfl⟩, .inr ⟨_, by rw [← pl_yes hlt hfk (by rw [hz]; exact hge)]; exact pl_prefix _ _ _ _, hJx3⟩⟩
        generalize Exit.then Kc (Exit.inBlock 1 (Exit.then Kb Qr)) = QQ at fin ⊢
        clear hKb hKc Kb Kc Qr hnx hfk hk64 hJs hJ hz
        gi_region_with (refine hR.mono ?_; intro e W3 hor; obtain ⟨bb, rfl, hor2⟩ : ∃ bb : Bool, e = Ending.returned (Value.bool bb) ∧ ((bb = true ∧ J (pl zs from_ level k ++ [k]) W3 ∧ BX c n₀ wr.drew W3) ∨ (bb = false ∧ Jx (pl zs from_ level k ++ [k]) W3)) := hor.elim (fun h => ⟨true, h.1, .inl ⟨rfl, h.2⟩⟩) (fun h => ⟨false, h.1, .inr ⟨rfl, h.2⟩⟩); clear hor)
        all_goals exact fin _ _ hor2
      · gi_wp2
        clear hY hB1 hB2 hB3 hc h0 hpl hc1 hy hR
        rename_i Qr Kb hKb Kc hKc
        have fin : ∀ (u21 u22 u23 u24 : Value), Exit.then Kc (Exit.inBlock 1 (Exit.then Kb Qr)) Exit.normal { tmps := #[.func (.yield l) #[] #[], .pointer (some ⟨B1, 0, none⟩), .pointer (some ⟨B2, 0, none⟩), .pointer (some ⟨B3, 0, none⟩), undef, .int .i64 (k : Int), v6, .int .i64 m, .int .i64 (k : Int), .slice (some ⟨b, off, none⟩) zs.length cap, .int .i64 (zs.length : Int), .bool true, u12, u13, .slice (some ⟨b, off, none⟩) zs.length cap, .int .i64 (k : Int), .pointer (some ⟨b, off + k, none⟩), .int .i64 z, .int .i64 level, .bool false, .bool false, u21, u22, u23, u24, .bool false], defers := [] } wr.drew := by
          intro u21 u22 u23 u24
          gi_wp2
          go_roundw
          case rel => exact ⟨k + 1, by simp, by omega, by omega, by rw [pl_no hlt (by rw [hz]; omega)]; exact hJ _ _ hJs, hnx.drew⟩
          case measure => simp [intOf]; omega
        generalize Exit.then Kc (Exit.inBlock 1 (Exit.then Kb Qr)) = QQ at fin ⊢
        clear hKb hKc Kb Kc Qr hnx hfk hk64 hJs hJ hz
        gi_region_with (refine ⟨fun _ h => (by cases h), ?_⟩)
        all_goals exact fin _ _ _ _
    · gi_wp2
      go_end0
      exact ⟨⟨_, rfl⟩, .inl ⟨_, rfl, by rw [← pl_all (k := k) (by omega)]; exact hJs⟩⟩
end Go.Av.Up

/-! ### up: Places, Count: over the world -/
set_option linter.unusedVariables false
set_option linter.unusedSimpArgs false
namespace Go.Av.Up
open Go Go.Proofs Go.RowKit Go.Shelf
attribute [local go_sem] Oper.semAt_some
/-- The slice value holds these numbers, in a block below n₀; or there are none. -/
def Ints (n₀ : Nat) (W : World) (sv : Value) (zs : List Int) : Prop :=
  ((∃ a cap, sv = .slice a 0 cap) ∧ zs = []) ∨ ∃ b off cap, sv = .slice (some ⟨b, off, none⟩) zs.length cap ∧ b < n₀ ∧ ∀ j, j < zs.length → W.cell? ⟨b, off + j, none⟩ = some (.int .i64 (zs[j]?.getD 0))
theorem Ints.below {n₀ : Nat} {A B : World} (h : Below n₀ A B) {sv : Value} {zs : List Int} : Ints n₀ A sv zs → Ints n₀ B sv zs
  | .inl e => .inl e
  | .inr ⟨b, off, cap, e, hb, hc⟩ => .inr ⟨b, off, cap, e, hb, fun j hj => (h.cell (p := ⟨b, off + j, none⟩) hb).trans (hc j hj)⟩

set_option maxRecDepth 100000 in
set_option maxHeartbeats 4000000 in
theorem each1_nil_in (F : Fence) (n : Nat) (h7 : F.fn 77) (hro : F.round = none) (l B1 B2 B3 : Nat) (a : Option Addr) (cap : Nat) (from_ level : Int) (J : List Nat → World → Prop) (W : World) (hB1 : W.cell? ⟨B1, 0, none⟩ = some (.int .i64 from_)) (hB2 : W.cell? ⟨B2, 0, none⟩ = some (.slice a 0 cap)) (h0 : J [] W) :
    CallsIn F n Try.prog 77 #[.func (.yield l) #[] #[], .pointer (some ⟨B1, 0, none⟩), .pointer (some ⟨B2, 0, none⟩), .pointer (some ⟨B3, 0, none⟩)] W fun e W' => (∃ v, e = .returned v) ∧ J [] W' := by
  refine callsIn_of_wp Try.func77 rfl h7 ?_ hro
  simp only [Try.ntmps77, List.size_toArray, List.length_cons, List.length_nil, Nat.reduceAdd, Nat.reduceSub, Array.replicate_succ, Array.replicate_zero, List.push_toArray, List.append_toArray, List.nil_append, List.cons_append]
  gi_wp2
  all_goals
    gi_loopw [5] (fun i wr => ∃ m : Int, i = .int .i64 m ∧ 0 ≤ m ∧ J [] wr ∧ wr = W) (fun _ _ => 0)
    case atStart => exact ⟨_, rfl, by omega, h0, rfl⟩
    case round =>
      obtain ⟨m, rfl, hm, hJs, rfl⟩ := hrel
      have hlt : ¬ m < 0 := by omega
      gi_wp2
      go_end0
      exact ⟨⟨_, rfl⟩, hJs⟩
set_option maxHeartbeats 1000000 in
theorem each_in (F : Fence) (n : Nat) (h5 : F.fn 54) (hro : F.round = none) (a : Option Addr) (len cap : Nat) (from_ level : Int) (w : World) :
    CallsIn F n Try.prog 54 #[.slice a len cap, .int .i64 from_, .int .i64 level] w fun e w' => e = .returned (.func (.func 77) #[] #[.pointer (some ⟨w.heap.size + 1, 0, none⟩), .pointer (some ⟨w.heap.size, 0, none⟩), .pointer (some ⟨w.heap.size + 1 + 1, 0, none⟩)]) ∧ w' = ((w.alloc (.cells #[.slice a len cap] 22)).alloc (.cells #[.int .i64 from_] 3)).alloc (.cells #[.int .i64 level] 3) := by
  refine callsIn_of_wp Try.func54 rfl h5 ?_ hro
  simp only [Try.ntmps54, List.size_toArray, List.length_cons, List.length_nil, Nat.reduceAdd, Nat.reduceSub, Array.replicate_succ, Array.replicate_zero, List.push_toArray, List.append_toArray, List.nil_append, List.cons_append]
  gi_wp2
  go_ret
  exact ⟨rfl, rfl⟩
theorem Ints.up {n₀ n₁ : Nat} (h : n₀ ≤ n₁) {A : World} {sv : Value} {zs : List Int} : Ints n₀ A sv zs → Ints n₁ A sv zs
  | .inl e => .inl e
  | .inr ⟨b, off, cap, e, hb, hc⟩ => .inr ⟨b, off, cap, e, by omega, hc⟩
theorem bxK_b {c n₀ : Nat} {w : World} (hn : n₀ ≤ w.heap.size) (W : World) (l : Nat) (o o' : Obj) (hl : w.heap.size ≤ l) (h : W.heap[l]? = some o) (_ : o.isCells = false) (_ : o.isWalk = false) : BX c n₀ W (W.putObj l o') := fun k hk _ =>
  World.putObj_heap_other (by omega)
theorem _root_.Go.World.ownsRow.base_le {w : World} {b b' : Nat} {e : TypeId} {size : Nat} {v : Value} {n : Nat} {xs : List Value} (h : w.ownsRow b e size v n xs) (hb : b' ≤ b) : w.ownsRow b' e size v n xs :=
  ⟨h.1, h.2.imp id (fun ⟨g, cap, cur, h1, h2, h3⟩ => ⟨g, cap, cur, h1, Nat.le_trans hb h2, h3⟩)⟩
theorem drewOf {β : Type} {B : Nat} {J : β → World → Prop} (h : AbidesFrom B J) : ∀ s W, J s W → J s W.drew := fun s W hs =>
  h s W W.drew none hs ⟨rfl, rfl, rfl, Nat.le_refl _, fun _ _ _ => rfl⟩ (fun r e => by cases e)
theorem each_stops (F : Fence) (n : Nat) (h7 : F.fn 77) (hro : F.round = none) (hn : 1 ≤ n) (B1 B2 B3 n₀ c : Nat) (sv : Value) (zs : List Int) (from_ level : Int) (hf : from_ ≤ 9223372036854775807) (hreach : zs.length ≤ 1000000) (w : World) (h1 : B1 < n₀) (h2 : B2 < n₀) (h3 : B3 < n₀) (hn₀ : n₀ ≤ w.heap.size) (h1c : B1 ≠ c) (h2c : B2 ≠ c) (h3c : B3 ≠ c) (hcn : c ≤ n₀)
    (c1 : w.cell? ⟨B1, 0, none⟩ = some (.int .i64 from_)) (c2 : w.cell? ⟨B2, 0, none⟩ = some sv) (c3 : w.cell? ⟨B3, 0, none⟩ = some (.int .i64 level)) (hI : Ints c w sv zs) :
    SeqStopsK F n Try.prog 77 #[.pointer (some ⟨B1, 0, none⟩), .pointer (some ⟨B2, 0, none⟩), .pointer (some ⟨B3, 0, none⟩)] (fun x : Nat => #[Value.int .i64 (x : Int)]) (BX c n₀) (fun ys => ys = pl zs from_ level zs.length) (fun pre => pre <+: pl zs from_ level zs.length) zs.length w := fun l J Jx W hW hJ _ hY h0 => by
  have c1' := (hW.cell (p := ⟨B1, 0, none⟩) (Nat.lt_of_lt_of_le h1 hn₀)).trans c1
  have c2' := (hW.cell (p := ⟨B2, 0, none⟩) (Nat.lt_of_lt_of_le h2 hn₀)).trans c2
  have c3' := (hW.cell (p := ⟨B3, 0, none⟩) (Nat.lt_of_lt_of_le h3 hn₀)).trans c3
  rcases hI.below (hW.mono (Nat.le_trans hcn hn₀)) with ⟨⟨a, cap, rfl⟩, rfl⟩ | ⟨b, off, cap, rfl, hb, hcs⟩
  · exact (each1_nil_in F n h7 hro l B1 B2 B3 a cap from_ level J W c1' c2' h0).mono fun e W' ⟨he, hj⟩ => ⟨he, .inl ⟨_, rfl, hj⟩⟩
  · exact each1_in F n h7 hro hn l B1 B2 B3 n₀ c b off cap zs from_ level hf hreach (by omega) h1 h2 h3 hb h1c h2c h3c J Jx (drewOf hJ) hY W c1' c2' c3' hcs h0
theorem heap_set_other (W : World) (c : Nat) (o : Nat) (v : Value) (k : Nat) (h : k ≠ c) : (W.setCell ⟨c, o, none⟩ v).heap[k]? = W.heap[k]? := by
  unfold World.setCell
  simp [Array.getElem?_modify, Ne.symm h]
theorem BX.set (c B : Nat) (W : World) (v : Value) : BX c B W (W.setCell ⟨c, 0, none⟩ v) := fun k _ hne => heap_set_other W c 0 v k hne
theorem boxed_appended {W w1 : World} {n1 B : Nat} {t e : TypeId} {size : Nat} {v v' : Value} {k m : Nat} {xs ys : List Value} {tmp : Obj}
    (hv : Boxed W B t v) (hte : t ≠ e) (hrow : W.ownsRow n1 e size v k xs) (hn1 : n1 ≤ W.heap.size) (hB : B < n1)
    (hown' : w1.ownsRow n1 e size v' m ys) (hgrow : (W.alloc tmp).grownBy w1 v.ownBlock) :
    Boxed w1 B t v ∧ Boxed (w1.setCell ⟨B, 0, none⟩ v') B t v' ∧ (w1.setCell ⟨B, 0, none⟩ v').ownsRow n1 e size v' m ys ∧ KeepsOthers W (w1.setCell ⟨B, 0, none⟩ v') ∧ BX B n1 W (w1.setCell ⟨B, 0, none⟩ v') ∧ ∀ n₀, n₀ ≤ B → Below n₀ W (w1.setCell ⟨B, 0, none⟩ v') := by
  have hv1 : Boxed w1 B t v := (hv.alloc tmp).kept hgrow (hv.not_row hte hrow)
  have hge : ∀ j, v.ownBlock = some j → n1 ≤ j := fun j ej => by
    rcases hrow.2 with ⟨rfl, _⟩ | ⟨g, cap, cur, rfl, hb, _, _⟩
    · simp [Value.ownBlock] at ej
    · obtain rfl : g = j := by simpa [Value.ownBlock] using ej
      exact hb
  refine ⟨hv1, hv1.set v', hown'.kept (grownBy_setCell' w1 B v') (.inr (hv1.not_row hte hown').symm), ?_, fun b hb hne => ?_, fun n₀ h0 => ?_⟩
  · refine ((KeepsOthers.alloc W tmp).trans (KeepsOthers.of_grownBy hgrow fun j o ej hj => ?_)).trans (KeepsOthers.setCell _ _ _)
    rcases (hrow.alloc tmp).2 with ⟨rfl, _⟩ | ⟨g, cap, cur, rfl, _, hgb, _⟩
    · simp [Value.ownBlock] at ej
    · obtain rfl : g = j := by simpa [Value.ownBlock] using ej
      rw [hgb] at hj; cases hj; rfl
  · rw [heap_set_other _ _ _ _ _ hne, hgrow.block b (by simp; omega) (fun ej => by have := hge b ej.symm; omega), Below.heap_alloc _ _ _ (by omega)]
  · exact (((Below.refl n₀ W).alloc (by omega) tmp).grown hgrow (by simp; omega) fun j ej => by have := hge j ej; omega).setCell (p := ⟨B, 0, none⟩) h0 v'
theorem wrap_in' (x : Int) (h : -9223372036854775808 ≤ x ∧ x ≤ 9223372036854775807) : wrap64 x = x := by
  unfold wrap64; omega
theorem infoInt : (Try.prog.info? 3).map (fun i => (i.zero, i.size, i.bytes)) = some (some (.int .i64 0), 1, 8) := by kernel_rfl
set_option maxRecDepth 100000 in
set_option maxHeartbeats 4000000 in
theorem count_in (F : Fence) (n : Nat) (h3 : F.fn 19) (h5 : F.fn 54) (h6 : F.fn 77) (hro : F.round = none) (hn : 3 ≤ n) (a : Option Addr) (len cap : Nat) (zs : List Int) (level : Int) (hreach : zs.length ≤ 1000000) (w : World) (hI : Ints w.heap.size w (.slice a len cap) zs) :
    CallsIn F n Try.prog 19 #[.slice a len cap, .int .i64 level] w fun e W' => e = .returned (.int .i64 ((pl zs 0 level zs.length).length : Int)) ∧ Below w.heap.size w W' := by
  have h1 : 1 ≤ n := by omega
  have hpl := pl_len zs 0 level zs.length
  refine callsIn_of_wp_marks Try.func19 rfl h3 ?_ hro
  simp only [Try.ntmps19, List.size_toArray, List.length_cons, List.length_nil, Nat.reduceAdd, Nat.reduceSub, Array.replicate_succ, Array.replicate_zero, List.push_toArray, List.append_toArray, List.nil_append, List.cons_append]
  gi_wp2_with (gi_at_call 54; refine (each_in F (n - 1) h5 hro _ _ _ _ _ _).mono ?_; rintro e w' ⟨rfl, rfl⟩)
  have bS := Boxed.new w 3 (.int .i64 0)
  have b2 := Boxed.new (w.alloc (.cells #[.int .i64 0] 3)) 22 (.slice a len cap)
  have b1 := Boxed.new ((w.alloc (.cells #[.int .i64 0] 3)).alloc (.cells #[.slice a len cap] 22)) 3 (.int .i64 0)
  have b3 := Boxed.new (((w.alloc (.cells #[.int .i64 0] 3)).alloc (.cells #[.slice a len cap] 22)).alloc (.cells #[.int .i64 0] 3)) 3 (.int .i64 level)
  simp only [World.size_alloc] at b1 b2 b3
  have hB0 : Below w.heap.size w ((((w.alloc (.cells #[.int .i64 0] 3)).alloc (.cells #[.slice a len cap] 22)).alloc (.cells #[.int .i64 0] 3)).alloc (.cells #[.int .i64 level] 3)) := (((((Below.refl _ w).alloc (Nat.le_refl _) _).alloc (by simp) _).alloc (by simp; omega) _).alloc (by simp; omega) _)
  refine wpIn_rangeFunc_ownG hro h1 (gf := 77) (lb := #[.pointer (some ⟨w.heap.size + 1 + 1, 0, none⟩), .pointer (some ⟨w.heap.size + 1, 0, none⟩), .pointer (some ⟨w.heap.size + 1 + 1 + 1, 0, none⟩)]) rfl h6 (enters_of Try.func77 (by kernel_rfl) rfl)
    (each_stops F (n - 1) h6 hro (by omega) (w.heap.size + 1 + 1) (w.heap.size + 1) (w.heap.size + 1 + 1 + 1) (w.heap.size + 1 + 1 + 1 + 1) w.heap.size _ zs 0 level (by omega) hreach _ (by omega) (by omega) (by omega) (by simp) (by omega) (by omega) (by omega) (by omega) (b1.alloc _).cell ((b2.alloc _).alloc _).cell b3.cell (hI.below hB0)) BX.trans (bxK_b (by simp)) (Below.refl _ _) (fun _ => rfl)
    (fun pre W => (W.cell? ⟨w.heap.size, 0, none⟩ = some (.int .i64 (pre.length : Int)) ∧ W.frozen? ⟨w.heap.size, 0, none⟩ = false) ∧ Below w.heap.size w W)
    (fun _ _ _ => False)
    (OwnFrom.and (Own.from (fun s A B row hs hg hr => ⟨cell_kept hs.1 hg hr, (frozen_kept hs.1 hg hr).trans hs.2⟩) _) (ownFrom_below (Nat.le_refl _) (by simp; omega)))
    (fun _ _ _ _ _ hs _ _ => hs)
    ⟨⟨(((bS.alloc _).alloc _).alloc _).cell, (((bS.alloc _).alloc _).alloc _).frozen⟩, hB0⟩
    (fun x => { tmps := #[.slice a len cap, .int .i64 level, undef, undef, .int .i64 0, .pointer (some ⟨w.heap.size, 0, none⟩), .slice a len cap, .int .i64 level, .func (.func 77) #[] #[.pointer (some ⟨w.heap.size + 1 + 1, 0, none⟩), .pointer (some ⟨w.heap.size + 1, 0, none⟩), .pointer (some ⟨w.heap.size + 1 + 1 + 1, 0, none⟩)], .int .i64 (x : Int), undef, undef, undef], defers := [] }) ?assign ?body ?done ?stop
  case assign =>
    intro l x W K hK
    gi_wp2
    simpa [Array.zip, List.zipWith_toArray] using hK
  case body =>
    rintro l pre x W ⟨⟨hc, hf⟩, hB⟩ hlt
    have hwr := wrap_in' ((pre.length : Int) + 1) (by omega)
    gi_wp2
    exact ⟨(KeepsOthers.setCell _ _ _).from _, BX.set _ _ _ _, ⟨by rw [List.length_append]; exact World.cell?_setCell_same' _ _ _ (by rw [hc]; rfl), by rw [World.frozen?_setCell]; exact hf⟩, hB.setCell (p := ⟨w.heap.size, 0, none⟩) (Nat.le_refl _) _⟩
  case done =>
    rintro D ys W hD rfl ⟨⟨hc, _⟩, hB⟩ hK
    gi_wp2
    refine ⟨by simp, .inl ⟨_, _, rfl, run_takeDeferred hK, ?_⟩⟩
    exact ⟨_, results_tmp rfl _ _ _, rfl, hB.trans (belowK_b (w := w) (Nat.le_refl _) W D _ _ (by simp at hD; omega) hK rfl rfl)⟩
  case stop =>
    rintro D c pre W _ _ h _
    exact h.elim
set_option maxRecDepth 100000 in
set_option maxHeartbeats 4000000 in
theorem places_in (F : Fence) (n : Nat) (h3 : F.fn 18) (h5 : F.fn 54) (h6 : F.fn 77) (hro : F.round = none) (hn : 3 ≤ n) (a : Option Addr) (len cap : Nat) (zs : List Int) (from_ level : Int) (hf : from_ ≤ 9223372036854775807) (hreach : zs.length ≤ 1000000) (w : World) (hI : Ints w.heap.size w (.slice a len cap) zs) :
    CallsIn F n Try.prog 18 #[.slice a len cap, .int .i64 from_, .int .i64 level] w fun e W' => ∃ v, e = .returned v ∧ W'.ownsRow w.heap.size 3 1 v (pl zs from_ level zs.length).length ((pl zs from_ level zs.length).map (fun x : Nat => Value.int .i64 (x : Int))) ∧ Below w.heap.size w W' := by
  have h1 : 1 ≤ n := by omega
  have hpl := pl_len zs from_ level zs.length
  obtain ⟨i0, hi, hz0, hz1, hz2⟩ := info_parts infoInt
  refine callsIn_of_wp_marks Try.func18 rfl h3 ?_ hro
  simp only [Try.ntmps18, List.size_toArray, List.length_cons, List.length_nil, Nat.reduceAdd, Nat.reduceSub, Array.replicate_succ, Array.replicate_zero, List.push_toArray, List.append_toArray, List.nil_append, List.cons_append]
  gi_wp2_with (gi_at_call 54; refine (each_in F (n - 1) h5 hro _ _ _ _ _ _).mono ?_; rintro e w' ⟨rfl, rfl⟩)
  have bS := Boxed.new w 22 (.slice none 0 0)
  have b2 := Boxed.new (w.alloc (.cells #[.slice none 0 0] 22)) 22 (.slice a len cap)
  have b1 := Boxed.new ((w.alloc (.cells #[.slice none 0 0] 22)).alloc (.cells #[.slice a len cap] 22)) 3 (.int .i64 from_)
  have b3 := Boxed.new (((w.alloc (.cells #[.slice none 0 0] 22)).alloc (.cells #[.slice a len cap] 22)).alloc (.cells #[.int .i64 from_] 3)) 3 (.int .i64 level)
  simp only [World.size_alloc] at b1 b2 b3
  have hB0 : Below w.heap.size w ((((w.alloc (.cells #[.slice none 0 0] 22)).alloc (.cells #[.slice a len cap] 22)).alloc (.cells #[.int .i64 from_] 3)).alloc (.cells #[.int .i64 level] 3)) := (((((Below.refl _ w).alloc (Nat.le_refl _) _).alloc (by simp) _).alloc (by simp; omega) _).alloc (by simp; omega) _)
  refine wpIn_rangeFunc_ownG hro h1 (gf := 77) (lb := #[.pointer (some ⟨w.heap.size + 1 + 1, 0, none⟩), .pointer (some ⟨w.heap.size + 1, 0, none⟩), .pointer (some ⟨w.heap.size + 1 + 1 + 1, 0, none⟩)]) rfl h6 (enters_of Try.func77 (by kernel_rfl) rfl)
    (each_stops F (n - 1) h6 hro (by omega) (w.heap.size + 1 + 1) (w.heap.size + 1) (w.heap.size + 1 + 1 + 1) (w.heap.size + 1 + 1 + 1 + 1) w.heap.size _ zs from_ level hf hreach _ (by omega) (by omega) (by omega) (by simp) (by omega) (by omega) (by omega) (by omega) (b1.alloc _).cell ((b2.alloc _).alloc _).cell b3.cell (hI.below hB0)) BX.trans (bxK_b (by simp)) (Below.refl _ _) (fun _ => rfl)
    (fun pre W => (∃ v, Boxed W w.heap.size 22 v ∧ W.ownsRow (w.heap.size + 1 + 1 + 1 + 1) 3 1 v pre.length (pre.map (fun x : Nat => Value.int .i64 (x : Int))) ∧ (v = .slice none 0 0 ↔ pre = [])) ∧ Below (w.heap.size + 1 + 1 + 1 + 1 - 4) w W ∧ w.heap.size + 1 + 1 + 1 + 1 ≤ W.heap.size)
    (fun _ _ _ => False)
    (OwnFrom.and (Own.from (holdsRow_own (w.heap.size + 1 + 1 + 1 + 1) w.heap.size 22 3 1 (fun pre : List Nat => pre.length) (fun pre : List Nat => pre.map (fun x : Nat => Value.int .i64 (x : Int))) (fun pre v => v = .slice none 0 0 ↔ pre = [])) _) (OwnFrom.and (ownFrom_below (by omega) (by simp; omega)) (fun s W W' row h hg _ => Nat.le_trans h hg.size)))
    (fun _ _ _ _ _ hs _ _ => hs)
    ⟨⟨_, ((bS.alloc _).alloc _).alloc _, World.ownsRow_nil _ _ _ _, by simp⟩, hB0.mono (by omega), by simp⟩
    (fun x => { tmps := #[.slice a len cap, .int .i64 from_, .int .i64 level, undef, undef, undef, .slice none 0 0, .pointer (some ⟨w.heap.size, 0, none⟩), .int .i64 (x : Int), .slice a len cap, .int .i64 from_, .int .i64 level, .func (.func 77) #[] #[.pointer (some ⟨w.heap.size + 1 + 1, 0, none⟩), .pointer (some ⟨w.heap.size + 1, 0, none⟩), .pointer (some ⟨w.heap.size + 1 + 1 + 1, 0, none⟩)], .int .i64 (x : Int), undef, undef, undef, undef, undef], defers := [] }) ?assign ?body ?done ?stop
  case assign =>
    intro l x W K hK
    gi_wp2
    simpa [Array.zip, List.zipWith_toArray] using hK
  case body =>
    rintro l pre x W ⟨⟨v, hv, hrow, hnil⟩, hB, hsz⟩ hlt
    have hc := hv.cell
    gi_wp2_with (gi_at_builtin; refine wpListIn_append_own _ rfl _ _ 22 rfl (w.heap.size + 1 + 1 + 1 + 1) 3 i0 (.int .i64 0) 1 8 Try.underlying22 hi hz0 hz1 hz2 rfl (by decide) _ _ _ rfl (hrow.alloc _) ⟨W.heap.size, 0, none⟩ 1 1 [.int .i64 (x : Int)] rfl rfl (cell_one_new _ _ _) (by simp [Value.oneCell']) (by unfold maxLen; omega) (by omega) (by simp; omega) ?_; intro v' w1 hown' hgrow _; obtain ⟨g', cap', rfl⟩ := ownsRow_succ hown'; obtain ⟨hv1, hv2, hr2, hk2, hx2, hb2⟩ := boxed_appended hv (by decide) hrow hsz (by omega) hown' hgrow; have hc1 := hv1.cell; have hf1 := hv1.frozen)
    exact ⟨hk2.from _, hx2, ⟨_, hv2, by simpa using hr2, by simp⟩, hB.trans (hb2 _ (by omega)), Nat.le_trans hsz (hb2 0 (by omega)).size⟩
  case done =>
    rintro D ys W hD rfl ⟨⟨v, hv, hrow, hnil⟩, hB, hsz⟩ hK
    have hc := hv.cell
    gi_wp2
    refine ⟨by simp, .inl ⟨_, _, rfl, run_takeDeferred hK, ?_⟩⟩
    exact ⟨_, results_tmp rfl _ _ _, v, rfl, (ownsRow_putObj hrow _ hK rfl).base_le (by omega), (hB.mono (by omega)).trans (belowK_b (w := w) (Nat.le_refl _) W D _ _ (by simp at hD; omega) hK rfl rfl)⟩
  case stop =>
    rintro D c pre W _ _ h _
    exact h.elim
end Go.Av.Up

set_option linter.unusedVariables false
set_option linter.unusedSimpArgs false
set_option maxRecDepth 100000
set_option maxHeartbeats 4000000
namespace Go.Av
open Go Go.Proofs Go.Proofs.Ytofomnllcmgfeaa Go.RowKit
/-! ### up: Places, Count, Last: over states -/
open Go.Av.Up (pl hit)
/-- The places, as numbers of the language. -/
def plI (zs : List Int) (from_ level : Int) : List Int := (pl zs from_ level zs.length).map fun x : Nat => (x : Int)
theorem plI_len (zs : List Int) (from_ level : Int) : (plI zs from_ level).length ≤ zs.length := by
  unfold plI
  rw [List.length_map]
  exact Up.pl_len _ _ _ _
theorem ints_of {w : World} {E : Env} {zs : List Int} {full : Bool} {y : Value} (hst : ∀ b, E.st b → b < w.heap.size) (h : RepM w E [] (.c (.sl (zs.map iC) zs.length full)) y) : ∃ a cap, y = .slice a zs.length cap ∧ Up.Ints w.heap.size w y zs := by
  have h' : RepM w E [] (.c (.sl ((zs.map fun x => Value.int .i64 x).map C.v) zs.length full)) y := by
    have e : (zs.map fun x => Value.int .i64 x).map C.v = zs.map iC := by simp [iC]
    rw [e]; exact h
  rcases arg_row (by simp) h' with ⟨h0, rfl⟩ | ⟨a, cap, rfl, hle, hc⟩
  · have : zs = [] := List.eq_nil_of_length_eq_zero h0
    subst this
    exact ⟨none, 0, rfl, .inl ⟨⟨none, 0, rfl⟩, rfl⟩⟩
  · refine ⟨some a, cap, rfl, ?_⟩
    by_cases h0 : zs.length = 0
    · have : zs = [] := List.eq_nil_of_length_eq_zero h0
      subst this
      exact .inl ⟨⟨_, _, rfl⟩, rfl⟩
    · have hj := hc 0 (.int .i64 (zs[0]?.getD 0)) (by
        have : 0 < zs.length := by omega
        simp [this])
      have ha : a = ⟨a.block, a.off, none⟩ := by
        have := plain_of_cell hj.2
        unfold Addr.add at this
        simpa using this
      refine .inr ⟨a.block, a.off, cap, by rw [← ha], hst _ hj.1, fun j hjl => ?_⟩
      have := (hc j (.int .i64 (zs[j]?.getD 0)) (by simp [hjl])).2
      rw [ha, add_plain] at this
      exact this
theorem count_den (zs : List Int) (level : Int) (full : Bool) (hn : zs.length ≤ 1000000) : DenV Try.prog 19 [.c (.sl (zs.map iC) zs.length full), .c (iC level)] (.c (iC ((plI zs 0 level).length : Int))) := by
  refine Den.of_below (by kernel_rfl) rfl fun w E vals hs ha hst => ?_
  obtain ⟨va, vb, rfl⟩ : ∃ va vb, vals = #[va, vb] := by
    obtain ⟨l⟩ := vals
    match l, hs with
    | [a, b], _ => exact ⟨a, b, rfl⟩
  obtain rfl : vb = .int .i64 level := arg_v (ha 1 _ rfl)
  obtain ⟨a, cap, e, hI⟩ := ints_of hst (ha 0 _ rfl)
  simp only [Array.getD_eq_getD_getElem?, List.getElem?_toArray, List.getElem?_cons_zero, Option.getD_some] at e hI
  subst e
  refine ((callsIn_wide (n := 3)).1 (Up.count_in _ 3 trivial trivial trivial rfl (by omega) a zs.length cap zs level hn w hI)).mono fun e w' ⟨he, hb⟩ => ⟨?_, hb⟩
  rw [he]
  simp [plI]
theorem places_den (zs : List Int) (from_ level : Int) (full : Bool) (hf : from_ ≤ 9223372036854775807) (hn : zs.length ≤ 1000000) : DenV Try.prog 18 [.c (.sl (zs.map iC) zs.length full), .c (iC from_), .c (iC level)] (.c (intsC (plI zs from_ level))) := by
  have e0 : ((pl zs from_ level zs.length).map fun x : Nat => Value.int .i64 (x : Int)).map C.v = (plI zs from_ level).map iC := by simp [iC, plI]
  have e1 : (plI zs from_ level).length = (pl zs from_ level zs.length).length := by simp [plI]
  unfold intsC
  rw [← e0, e1]
  refine Den.of_row (e := 3) (by simp) (by simp [Value.oneCell']) (by kernel_rfl) rfl fun w E vals hs ha hst => ?_
  obtain ⟨va, vb, vc, rfl⟩ : ∃ va vb vc, vals = #[va, vb, vc] := by
    obtain ⟨l⟩ := vals
    match l, hs with
    | [a, b, c], _ => exact ⟨a, b, c, rfl⟩
  obtain rfl : vb = .int .i64 from_ := arg_v (ha 1 _ rfl)
  obtain rfl : vc = .int .i64 level := arg_v (ha 2 _ rfl)
  obtain ⟨a, cap, e, hI⟩ := ints_of hst (ha 0 _ rfl)
  simp only [Array.getD_eq_getD_getElem?, List.getElem?_toArray, List.getElem?_cons_zero, Option.getD_some] at e hI
  subst e
  exact (callsIn_wide (n := 3)).1 (Up.places_in _ 3 trivial trivial trivial rfl (by omega) a zs.length cap zs from_ level hf hn w hI)
/-- The n-th from the end. -/
def lastI (zs : List Int) (level n : Int) : Int := if 1 ≤ n ∧ n ≤ (plI zs 0 level).length then ((plI zs 0 level)[(plI zs 0 level).length - n.toNat]?).getD 0 else -1
set_option maxHeartbeats 4000000 in
theorem last_den (zs : List Int) (level n : Int) (full : Bool) (hn : zs.length ≤ 1000000) : DenV Try.prog 20 [.c (.sl (zs.map iC) zs.length full), .c (iC level), .c (iC n)] (.c (iC (lastI zs level n))) := by
  refine Den.frame rfl rfl ?_
  have h1 := plI_len zs 0 level
  have p1 := places_den zs 0 level full (by omega) hn
  have hl : lastI zs level n = if 1 ≤ n ∧ n ≤ (plI zs 0 level).length then ((plI zs 0 level)[(plI zs 0 level).length - n.toNat]?).getD 0 else -1 := rfl
  generalize lastI zs level n = r at *
  generalize plI zs 0 level = p at *
  refine den_of Try.func20 rfl rfl (by simp [Try.ntmps20]) (fun X hX hO => ?_)
  rw [Try.ntmps20] at hX
  simp only [Try.results20]
  by_cases c1 : n < 1
  · rw [if_neg (by omega)] at hl
    repeat' (first 
     | (with_reducible first | refine awp_scope ?_ | refine awp_seq ?_ | refine awp_block ?_)
     | ((with_reducible first | refine awp_label ?_ | refine awp_skip ?_); try simp only [thenA, inBlockA, noGotoA])
     | (with_reducible refine awp_exit ?_; simp only [thenA, inBlockA, noGotoA, if_true, Nat.reduceEqDiff, if_false, ↓reduceIte])
     | (with_reducible refine awp_ret ?_; (try simp only [thenA, inBlockA, noGotoA]); (try simp [-List.reduceReplicate, Nat.add_one_le_iff, -getElem?_pos, -getElem?_neg, List.getElem?_cons_zero, List.getElem?_cons_succ, intsC, iC, c1, hl]))
     | ((with_reducible first | refine awp_reg 26 hX [0, 1, 2, 6, 7, 18] ?_ | change postOf _ _ _ _ _); simp [-List.reduceReplicate, Nat.add_one_le_iff, -getElem?_pos, -getElem?_neg, List.getElem?_cons_zero, List.getElem?_cons_succ, intsC, iC, c1, hl])
     | ((first | (refine (p1 _).det ?_)); try simp [-List.reduceReplicate, Nat.add_one_le_iff, -getElem?_pos, -getElem?_neg, List.getElem?_cons_zero, List.getElem?_cons_succ, intsC, iC, c1, hl])
     | (with_reducible refine awp_if_b rfl (fun hc => ?_) (fun hc => ?_) <;> (try simp [-getElem?_pos, -getElem?_neg] at hc) <;> (try (exfalso; omega)))
     | ((with_reducible first | refine GuardK_b (fun hc => ?_) (fun hc => ?_)) <;> (try simp only [Bool.not_eq_true', Bool.not_eq_false', decide_eq_true_eq, decide_eq_false_iff_not] at hc) <;> (first | (exfalso; omega) | skip) <;> simp [-List.reduceReplicate, Nat.add_one_le_iff, -getElem?_pos, -getElem?_neg, List.getElem?_cons_zero, List.getElem?_cons_succ, intsC, iC, c1, hl, hc])
     | (with_reducible refine And.intro (by omega) ?_)
     | fail)
  · by_cases c2 : p.length < n
    · rw [if_neg (by omega)] at hl
      repeat' (first 
       | (with_reducible first | refine awp_scope ?_ | refine awp_seq ?_ | refine awp_block ?_)
       | ((with_reducible first | refine awp_label ?_ | refine awp_skip ?_); try simp only [thenA, inBlockA, noGotoA])
       | (with_reducible refine awp_exit ?_; simp only [thenA, inBlockA, noGotoA, if_true, Nat.reduceEqDiff, if_false, ↓reduceIte])
       | (with_reducible refine awp_ret ?_; (try simp only [thenA, inBlockA, noGotoA]); (try simp [-List.reduceReplicate, Nat.add_one_le_iff, -getElem?_pos, -getElem?_neg, List.getElem?_cons_zero, List.getElem?_cons_succ, intsC, iC, c1, c2, hl]))
       | ((with_reducible first | refine awp_reg 26 hX [0, 1, 2, 6, 7, 18] ?_ | change postOf _ _ _ _ _); simp [-List.reduceReplicate, Nat.add_one_le_iff, -getElem?_pos, -getElem?_neg, List.getElem?_cons_zero, List.getElem?_cons_succ, intsC, iC, c1, c2, hl])
       | ((first | (refine (p1 _).det ?_)); try simp [-List.reduceReplicate, Nat.add_one_le_iff, -getElem?_pos, -getElem?_neg, List.getElem?_cons_zero, List.getElem?_cons_succ, intsC, iC, c1, c2, hl])
       | (with_reducible refine awp_if_b rfl (fun hc => ?_) (fun hc => ?_) <;> (try simp [-getElem?_pos, -getElem?_neg] at hc) <;> (try (exfalso; omega)))
       | ((with_reducible first | refine GuardK_b (fun hc => ?_) (fun hc => ?_)) <;> (try simp only [Bool.not_eq_true', Bool.not_eq_false', decide_eq_true_eq, decide_eq_false_iff_not] at hc) <;> (first | (exfalso; omega) | skip) <;> simp [-List.reduceReplicate, Nat.add_one_le_iff, -getElem?_pos, -getElem?_neg, List.getElem?_cons_zero, List.getElem?_cons_succ, intsC, iC, c1, c2, hl, hc])
       | (with_reducible refine And.intro (by omega) ?_)
       | fail)
    · rw [if_pos (by omega)] at hl
      obtain ⟨x, hx⟩ := getI p (p.length - n) (by omega) (by omega)
      have e2 : ((p.length : Int) - n).toNat = p.length - n.toNat := by omega
      rw [← e2, hx] at hl
      have hw := wrap_in ((p.length : Int) - n) (by omega)
      repeat' (first 
       | (with_reducible first | refine awp_scope ?_ | refine awp_seq ?_ | refine awp_block ?_)
       | ((with_reducible first | refine awp_label ?_ | refine awp_skip ?_); try simp only [thenA, inBlockA, noGotoA])
       | (with_reducible refine awp_exit ?_; simp only [thenA, inBlockA, noGotoA, if_true, Nat.reduceEqDiff, if_false, ↓reduceIte])
       | (with_reducible refine awp_ret ?_; (try simp only [thenA, inBlockA, noGotoA]); (try simp [-List.reduceReplicate, Nat.add_one_le_iff, -getElem?_pos, -getElem?_neg, List.getElem?_cons_zero, List.getElem?_cons_succ, intsC, iC, c1, c2, hl, hw, hx]))
       | ((with_reducible first | refine awp_reg 26 hX [0, 1, 2, 6, 7, 18] ?_ | change postOf _ _ _ _ _); simp [-List.reduceReplicate, Nat.add_one_le_iff, -getElem?_pos, -getElem?_neg, List.getElem?_cons_zero, List.getElem?_cons_succ, intsC, iC, c1, c2, hl, hw, hx])
       | ((first | (refine (p1 _).det ?_)); try simp [-List.reduceReplicate, Nat.add_one_le_iff, -getElem?_pos, -getElem?_neg, List.getElem?_cons_zero, List.getElem?_cons_succ, intsC, iC, c1, c2, hl, hw, hx])
       | (with_reducible refine awp_if_b rfl (fun hc => ?_) (fun hc => ?_) <;> (try simp [-getElem?_pos, -getElem?_neg] at hc) <;> (try (exfalso; omega)))
       | ((with_reducible first | refine GuardK_b (fun hc => ?_) (fun hc => ?_)) <;> (try simp only [Bool.not_eq_true', Bool.not_eq_false', decide_eq_true_eq, decide_eq_false_iff_not] at hc) <;> (first | (exfalso; omega) | skip) <;> simp [-List.reduceReplicate, Nat.add_one_le_iff, -getElem?_pos, -getElem?_neg, List.getElem?_cons_zero, List.getElem?_cons_succ, intsC, iC, c1, c2, hl, hw, hx, hc])
       | (with_reducible refine And.intro (by omega) ?_)
       | fail)
end Go.Av

set_option linter.unusedVariables false
set_option linter.unusedSimpArgs false
set_option maxRecDepth 100000
set_option maxHeartbeats 4000000
namespace Go.Av
open Go Go.Proofs Go.Proofs.Ytofomnllcmgfeaa Go.RowKit
/-! ### up: the document's answer, the laws -/
open Go.Av.Up (pl hit)
def plT (zs : List Int) (from_ level : Int) (k : Nat) : List Int := (pl zs from_ level k).map fun x : Nat => (x : Int)
theorem plT_all (zs : List Int) (from_ level : Int) : plT zs from_ level zs.length = plI zs from_ level := rfl
theorem plT_0 (zs : List Int) (from_ level : Int) : plT zs from_ level 0 = [] := by
  simp [plT, pl]
theorem plT_succ (zs : List Int) (from_ level : Int) (k : Nat) (x : Int) (h : zs[k]? = some x) : plT zs from_ level (k + 1) = plT zs from_ level k ++ if from_ ≤ (k : Int) ∧ level ≤ x then [(k : Int)] else [] := by
  have hk := (List.getElem?_eq_some_iff.1 h).1
  have e : zs[k]?.getD 0 = x := by rw [h]; rfl
  unfold plT
  by_cases h2 : level ≤ x
  · by_cases h1 : from_ ≤ (k : Int)
    · rw [Up.pl_yes hk h1 (by rw [e]; exact h2), if_pos ⟨h1, h2⟩, List.map_append]; rfl
    · rw [if_neg (fun q => h1 q.1), List.append_nil]
      congr 1
      unfold pl
      rw [show min (k + 1) zs.length = k + 1 by omega, show min k zs.length = k by omega, List.range_succ, List.filter_append]
      simp [List.filter_cons, hit, h1]
  · rw [Up.pl_no hk (by rw [e]; exact h2), if_neg (fun q => h2 q.2), List.append_nil]
theorem plT_len (zs : List Int) (from_ level : Int) (k : Nat) : (plT zs from_ level k).length ≤ k := by
  unfold plT
  rw [List.length_map]
  exact Up.pl_len _ _ _ _
set_option maxHeartbeats 4000000 in
theorem count38_den (zs : List Int) (level : Int) (hn : zs.length ≤ 1000000) : DenV Try.prog 84 [.c (intsC zs), .c (iC level)] (.c (iC ((plI zs 0 level).length : Int))) := by
  refine Den.frame rfl rfl ?_
  have hs := plT_succ zs 0 level
  have hl := plT_len zs 0 level
  have h0 := plT_0 zs 0 level
  rw [← plT_all]
  generalize plT zs 0 level = f at *
  refine den_of Try.func84 rfl rfl (by simp [Try.ntmps84]) (fun X hX hO => ?_)
  rw [Try.ntmps84] at hX
  simp only [Try.results84]
  repeat' (first 
   | (with_reducible first | refine awp_scope ?_ | refine awp_seq ?_ | refine awp_block ?_)
   | ((with_reducible first | refine awp_label ?_ | refine awp_skip ?_); try simp only [thenA, inBlockA, noGotoA])
   | (with_reducible refine awp_exit ?_; simp only [thenA, inBlockA, noGotoA, if_true, Nat.reduceEqDiff, if_false, ↓reduceIte])
   | (with_reducible refine awp_ret ?_; (try simp only [thenA, inBlockA, noGotoA]); (try simp [-List.reduceReplicate, Nat.add_one_le_iff, -getElem?_pos, -getElem?_neg, List.getElem?_cons_zero, List.getElem?_cons_succ, intsC, iC]))
   | ((with_reducible first | refine awp_reg 22 hX [0, 1, 4, 5, 6, 10, 18] ?_ | change postOf _ _ _ _ _); simp [-List.reduceReplicate, Nat.add_one_le_iff, -getElem?_pos, -getElem?_neg, List.getElem?_cons_zero, List.getElem?_cons_succ, intsC, iC])
   | (with_reducible refine awp_if_b rfl (fun hc => ?_) (fun hc => ?_) <;> (try simp [-getElem?_pos, -getElem?_neg] at hc) <;> (try (exfalso; omega)))
   | ((with_reducible first | refine GuardK_b (fun hc => ?_) (fun hc => ?_)) <;> (try simp only [Bool.not_eq_true', Bool.not_eq_false', decide_eq_true_eq, decide_eq_false_iff_not] at hc) <;> (first | (exfalso; omega) | skip) <;> simp [-List.reduceReplicate, Nat.add_one_le_iff, -getElem?_pos, -getElem?_neg, List.getElem?_cons_zero, List.getElem?_cons_succ, intsC, iC, hc])
   | ((with_reducible first | refine hother _ _ rfl ?_); simp only [inBlockA, thenA, noGotoA, Nat.reduceEqDiff, if_false, if_true, ↓reduceIte])
   | (with_reducible refine And.intro (by omega) ?_)
   | fail)
  refine awp_forU [0, 1, 5, 6] (fun i (_u : Unit) => [(5, .c (iC ((f i).length : Int))), (6, .c (iC i))]) (fun i (_u : Unit) => []) (fun i (_u : Unit) => True) (zs.length) (()) (by first | trivial | (simp; done) | omega | (intros; simp at *; done)) (by simp [-List.reduceReplicate, keep, iC, h0]) (by simp [-List.reduceReplicate, iC, h0]) ?_
  rintro i _u Q1 hi hH next hother
  conv => arg 5; arg 1; simp only [List.cons_append, List.nil_append, keep, get, Nat.reduceEqDiff, if_true, if_false, ↓reduceIte]
  have hwi := wrap_in ((i : Int) + 1) (by omega)
  have hli := hl i
  have hwc := wrap_in (((f i).length : Int) + 1) (by omega)
  by_cases hlt : i < zs.length
  · obtain ⟨x, hx⟩ := getI zs i (by omega) (by omega)
    simp only [Int.toNat_natCast] at hx
    have hsi := hs i x hx
    by_cases hge : level ≤ x
    · rw [if_pos ⟨by omega, hge⟩] at hsi
      repeat' (first 
       | (with_reducible first | refine awp_scope ?_ | refine awp_seq ?_ | refine awp_block ?_)
       | ((with_reducible first | refine awp_label ?_ | refine awp_skip ?_); try simp only [thenA, inBlockA, noGotoA])
       | (with_reducible refine awp_exit ?_; simp only [thenA, inBlockA, noGotoA, if_true, Nat.reduceEqDiff, if_false, ↓reduceIte])
       | (with_reducible refine awp_ret ?_; (try simp only [thenA, inBlockA, noGotoA]); (try simp [-List.reduceReplicate, Nat.add_one_le_iff, -getElem?_pos, -getElem?_neg, List.getElem?_cons_zero, List.getElem?_cons_succ, iC, hlt, hwi, hwc, hx, hge]))
       | ((with_reducible first | refine awp_reg 22 hX [0, 1, 4, 5, 6, 10, 18] ?_ | change postOf _ _ _ _ _); simp [-List.reduceReplicate, Nat.add_one_le_iff, -getElem?_pos, -getElem?_neg, List.getElem?_cons_zero, List.getElem?_cons_succ, iC, hlt, hwi, hwc, hx, hge])
       | (with_reducible refine awp_if_b rfl (fun hc => ?_) (fun hc => ?_) <;> (try simp [-getElem?_pos, -getElem?_neg] at hc) <;> (try (exfalso; omega)))
       | ((with_reducible first | refine GuardK_b (fun hc => ?_) (fun hc => ?_)) <;> (try simp only [Bool.not_eq_true', Bool.not_eq_false', decide_eq_true_eq, decide_eq_false_iff_not] at hc) <;> (first | (exfalso; omega) | skip) <;> simp [-List.reduceReplicate, Nat.add_one_le_iff, -getElem?_pos, -getElem?_neg, List.getElem?_cons_zero, List.getElem?_cons_succ, iC, hlt, hwi, hwc, hx, hge, hc])
       | ((with_reducible first | refine hother _ _ rfl ?_); simp only [inBlockA, thenA, noGotoA, Nat.reduceEqDiff, if_false, if_true, ↓reduceIte])
       | (with_reducible refine And.intro (by omega) ?_)
       | fail)
      refine next _ _ (()) (by omega) (by first | trivial | omega | assumption) (by simp [-List.reduceReplicate, keep, iC, hsi]) (by simp [-List.reduceReplicate, iC, hsi])
    · rw [if_neg (fun q => hge q.2), List.append_nil] at hsi
      repeat' (first 
       | (with_reducible first | refine awp_scope ?_ | refine awp_seq ?_ | refine awp_block ?_)
       | ((with_reducible first | refine awp_label ?_ | refine awp_skip ?_); try simp only [thenA, inBlockA, noGotoA])
       | (with_reducible refine awp_exit ?_; simp only [thenA, inBlockA, noGotoA, if_true, Nat.reduceEqDiff, if_false, ↓reduceIte])
       | (with_reducible refine awp_ret ?_; (try simp only [thenA, inBlockA, noGotoA]); (try simp [-List.reduceReplicate, Nat.add_one_le_iff, -getElem?_pos, -getElem?_neg, List.getElem?_cons_zero, List.getElem?_cons_succ, iC, hlt, hwi, hwc, hx, hge]))
       | ((with_reducible first | refine awp_reg 22 hX [0, 1, 4, 5, 6, 10, 18] ?_ | change postOf _ _ _ _ _); simp [-List.reduceReplicate, Nat.add_one_le_iff, -getElem?_pos, -getElem?_neg, List.getElem?_cons_zero, List.getElem?_cons_succ, iC, hlt, hwi, hwc, hx, hge])
       | (with_reducible refine awp_if_b rfl (fun hc => ?_) (fun hc => ?_) <;> (try simp [-getElem?_pos, -getElem?_neg] at hc) <;> (try (exfalso; omega)))
       | ((with_reducible first | refine GuardK_b (fun hc => ?_) (fun hc => ?_)) <;> (try simp only [Bool.not_eq_true', Bool.not_eq_false', decide_eq_true_eq, decide_eq_false_iff_not] at hc) <;> (first | (exfalso; omega) | skip) <;> simp [-List.reduceReplicate, Nat.add_one_le_iff, -getElem?_pos, -getElem?_neg, List.getElem?_cons_zero, List.getElem?_cons_succ, iC, hlt, hwi, hwc, hx, hge, hc])
       | ((with_reducible first | refine hother _ _ rfl ?_); simp only [inBlockA, thenA, noGotoA, Nat.reduceEqDiff, if_false, if_true, ↓reduceIte])
       | (with_reducible refine And.intro (by omega) ?_)
       | fail)
      refine next _ _ (()) (by omega) (by first | trivial | omega | assumption) (by simp [-List.reduceReplicate, keep, iC, hsi]) (by simp [-List.reduceReplicate, iC, hsi])
  · have hi2 : i = zs.length := by omega
    subst hi2
    repeat' (first 
     | (with_reducible first | refine awp_scope ?_ | refine awp_seq ?_ | refine awp_block ?_)
     | ((with_reducible first | refine awp_label ?_ | refine awp_skip ?_); try simp only [thenA, inBlockA, noGotoA])
     | (with_reducible refine awp_exit ?_; simp only [thenA, inBlockA, noGotoA, if_true, Nat.reduceEqDiff, if_false, ↓reduceIte])
     | (with_reducible refine awp_ret ?_; (try simp only [thenA, inBlockA, noGotoA]); (try simp [-List.reduceReplicate, Nat.add_one_le_iff, -getElem?_pos, -getElem?_neg, List.getElem?_cons_zero, List.getElem?_cons_succ, iC, hlt]))
     | ((with_reducible first | refine awp_reg 22 hX [0, 1, 4, 5, 6, 10, 18] ?_ | change postOf _ _ _ _ _); simp [-List.reduceReplicate, Nat.add_one_le_iff, -getElem?_pos, -getElem?_neg, List.getElem?_cons_zero, List.getElem?_cons_succ, iC, hlt])
     | (with_reducible refine awp_if_b rfl (fun hc => ?_) (fun hc => ?_) <;> (try simp [-getElem?_pos, -getElem?_neg] at hc) <;> (try (exfalso; omega)))
     | ((with_reducible first | refine GuardK_b (fun hc => ?_) (fun hc => ?_)) <;> (try simp only [Bool.not_eq_true', Bool.not_eq_false', decide_eq_true_eq, decide_eq_false_iff_not] at hc) <;> (first | (exfalso; omega) | skip) <;> simp [-List.reduceReplicate, Nat.add_one_le_iff, -getElem?_pos, -getElem?_neg, List.getElem?_cons_zero, List.getElem?_cons_succ, iC, hlt, hc])
     | ((with_reducible first | refine hother _ _ rfl ?_); simp only [inBlockA, thenA, noGotoA, Nat.reduceEqDiff, if_false, if_true, ↓reduceIte])
     | (with_reducible refine And.intro (by omega) ?_)
     | fail)
set_option maxHeartbeats 4000000 in
theorem places38_den (zs : List Int) (from_ level : Int) (hn : zs.length ≤ 1000000) : DenV Try.prog 16 [.c (intsC zs), .c (iC from_), .c (iC level)] (.c (intsC (plI zs from_ level))) := by
  refine Den.frame rfl rfl ?_
  have hs := plT_succ zs from_ level
  have hl := plT_len zs from_ level
  have h0 := plT_0 zs from_ level
  rw [← plT_all]
  generalize plT zs from_ level = f at *
  refine den_of Try.func16 rfl rfl (by simp [Try.ntmps16]) (fun X hX hO => ?_)
  rw [Try.ntmps16] at hX
  simp only [Try.results16]
  repeat' (first 
   | (with_reducible first | refine awp_scope ?_ | refine awp_seq ?_ | refine awp_block ?_)
   | ((with_reducible first | refine awp_label ?_ | refine awp_skip ?_); try simp only [thenA, inBlockA, noGotoA])
   | (with_reducible refine awp_exit ?_; simp only [thenA, inBlockA, noGotoA, if_true, Nat.reduceEqDiff, if_false, ↓reduceIte])
   | (with_reducible refine awp_ret ?_; (try simp only [thenA, inBlockA, noGotoA]); (try simp [-List.reduceReplicate, Nat.add_one_le_iff, -getElem?_pos, -getElem?_neg, List.getElem?_cons_zero, List.getElem?_cons_succ, intsC, iC]))
   | ((with_reducible first | refine awp_reg 31 hX [0, 1, 2, 6, 7, 8, 12, 25] ?_ | change postOf _ _ _ _ _); simp [-List.reduceReplicate, Nat.add_one_le_iff, -getElem?_pos, -getElem?_neg, List.getElem?_cons_zero, List.getElem?_cons_succ, intsC, iC])
   | (with_reducible refine awp_if_b rfl (fun hc => ?_) (fun hc => ?_) <;> (try simp [-getElem?_pos, -getElem?_neg] at hc) <;> (try (exfalso; omega)))
   | ((with_reducible first | refine GuardK_b (fun hc => ?_) (fun hc => ?_)) <;> (try simp only [Bool.not_eq_true', Bool.not_eq_false', decide_eq_true_eq, decide_eq_false_iff_not] at hc) <;> (first | (exfalso; omega) | skip) <;> simp [-List.reduceReplicate, Nat.add_one_le_iff, -getElem?_pos, -getElem?_neg, List.getElem?_cons_zero, List.getElem?_cons_succ, intsC, iC, hc])
   | ((with_reducible first | refine hother _ _ rfl ?_); simp only [inBlockA, thenA, noGotoA, Nat.reduceEqDiff, if_false, if_true, ↓reduceIte])
   | (with_reducible refine And.intro (by omega) ?_)
   | fail)
  refine awp_nil 7 3 1 (by simp) ?_
  simp
  refine awp_forU [0, 1, 2, 7, 8] (fun i (g : Nat × Bool) => [(7, .ms 0 g.1 0 (f i).length), (8, .c (iC i))]) (fun i (g : Nat × Bool) => [⟨3, 1, g.2, g.1, up ((f i).map iC), none⟩]) (fun i (g : Nat × Bool) => True) (zs.length) ((0, true)) (by first | trivial | (simp; done) | omega | (intros; simp at *; done)) (by simp [-List.reduceReplicate, keep, iC, h0]) (by simp [-List.reduceReplicate, iC, h0]) ?_
  rintro i g Q1 hi hH next hother
  conv => arg 5; arg 1; simp only [List.cons_append, List.nil_append, keep, get, Nat.reduceEqDiff, if_true, if_false, ↓reduceIte]
  have hwi := wrap_in ((i : Int) + 1) (by omega)
  have hli := hl i
  by_cases hlt : i < zs.length
  · obtain ⟨x, hx⟩ := getI zs i (by omega) (by omega)
    simp only [Int.toNat_natCast] at hx
    have hsi := hs i x hx
    by_cases hf : from_ ≤ (i : Int)
    · by_cases hge : level ≤ x
      · rw [if_pos ⟨hf, hge⟩] at hsi
        repeat' (first 
         | (with_reducible first | refine awp_scope ?_ | refine awp_seq ?_ | refine awp_block ?_)
         | ((with_reducible first | refine awp_label ?_ | refine awp_skip ?_); try simp only [thenA, inBlockA, noGotoA])
         | (with_reducible refine awp_exit ?_; simp only [thenA, inBlockA, noGotoA, if_true, Nat.reduceEqDiff, if_false, ↓reduceIte])
         | (with_reducible refine awp_ret ?_; (try simp only [thenA, inBlockA, noGotoA]); (try simp [-List.reduceReplicate, Nat.add_one_le_iff, -getElem?_pos, -getElem?_neg, List.getElem?_cons_zero, List.getElem?_cons_succ, iC, hlt, hwi, hx, hge, hf, hli, roomB]))
         | ((with_reducible first | refine awp_reg 31 hX [0, 1, 2, 6, 7, 8, 12, 25] ?_ | change postOf _ _ _ _ _); simp [-List.reduceReplicate, Nat.add_one_le_iff, -getElem?_pos, -getElem?_neg, List.getElem?_cons_zero, List.getElem?_cons_succ, iC, hlt, hwi, hx, hge, hf, hli, roomB])
         | (with_reducible refine awp_if_b rfl (fun hc => ?_) (fun hc => ?_) <;> (try simp [-getElem?_pos, -getElem?_neg] at hc) <;> (try (exfalso; omega)))
         | ((with_reducible first | refine GuardK_b (fun hc => ?_) (fun hc => ?_)) <;> (try simp only [Bool.not_eq_true', Bool.not_eq_false', decide_eq_true_eq, decide_eq_false_iff_not] at hc) <;> (first | (exfalso; omega) | skip) <;> simp [-List.reduceReplicate, Nat.add_one_le_iff, -getElem?_pos, -getElem?_neg, List.getElem?_cons_zero, List.getElem?_cons_succ, iC, hlt, hwi, hx, hge, hf, hli, roomB, hc])
         | ((with_reducible first | refine hother _ _ rfl ?_); simp only [inBlockA, thenA, noGotoA, Nat.reduceEqDiff, if_false, if_true, ↓reduceIte])
         | (with_reducible refine And.intro (by omega) ?_)
         | fail)
        refine next _ _ ((g.1 + 1, false)) (by omega) (by first | trivial | omega | assumption) (by simp [-List.reduceReplicate, keep, iC, hsi]) (by simp [-List.reduceReplicate, iC, hsi])
      · rw [if_neg (fun q => hge q.2), List.append_nil] at hsi
        repeat' (first 
         | (with_reducible first | refine awp_scope ?_ | refine awp_seq ?_ | refine awp_block ?_)
         | ((with_reducible first | refine awp_label ?_ | refine awp_skip ?_); try simp only [thenA, inBlockA, noGotoA])
         | (with_reducible refine awp_exit ?_; simp only [thenA, inBlockA, noGotoA, if_true, Nat.reduceEqDiff, if_false, ↓reduceIte])
         | (with_reducible refine awp_ret ?_; (try simp only [thenA, inBlockA, noGotoA]); (try simp [-List.reduceReplicate, Nat.add_one_le_iff, -getElem?_pos, -getElem?_neg, List.getElem?_cons_zero, List.getElem?_cons_succ, iC, hlt, hwi, hx, hge, hf]))
         | ((with_reducible first | refine awp_reg 31 hX [0, 1, 2, 6, 7, 8, 12, 25] ?_ | change postOf _ _ _ _ _); simp [-List.reduceReplicate, Nat.add_one_le_iff, -getElem?_pos, -getElem?_neg, List.getElem?_cons_zero, List.getElem?_cons_succ, iC, hlt, hwi, hx, hge, hf])
         | (with_reducible refine awp_if_b rfl (fun hc => ?_) (fun hc => ?_) <;> (try simp [-getElem?_pos, -getElem?_neg] at hc) <;> (try (exfalso; omega)))
         | ((with_reducible first | refine GuardK_b (fun hc => ?_) (fun hc => ?_)) <;> (try simp only [Bool.not_eq_true', Bool.not_eq_false', decide_eq_true_eq, decide_eq_false_iff_not] at hc) <;> (first | (exfalso; omega) | skip) <;> simp [-List.reduceReplicate, Nat.add_one_le_iff, -getElem?_pos, -getElem?_neg, List.getElem?_cons_zero, List.getElem?_cons_succ, iC, hlt, hwi, hx, hge, hf, hc])
         | ((with_reducible first | refine hother _ _ rfl ?_); simp only [inBlockA, thenA, noGotoA, Nat.reduceEqDiff, if_false, if_true, ↓reduceIte])
         | (with_reducible refine And.intro (by omega) ?_)
         | fail)
        refine next _ _ (g) (by omega) (by first | trivial | omega | assumption) (by simp [-List.reduceReplicate, keep, iC, hsi]) (by simp [-List.reduceReplicate, iC, hsi])
    · rw [if_neg (fun q => hf q.1), List.append_nil] at hsi
      repeat' (first 
       | (with_reducible first | refine awp_scope ?_ | refine awp_seq ?_ | refine awp_block ?_)
       | ((with_reducible first | refine awp_label ?_ | refine awp_skip ?_); try simp only [thenA, inBlockA, noGotoA])
       | (with_reducible refine awp_exit ?_; simp only [thenA, inBlockA, noGotoA, if_true, Nat.reduceEqDiff, if_false, ↓reduceIte])
       | (with_reducible refine awp_ret ?_; (try simp only [thenA, inBlockA, noGotoA]); (try simp [-List.reduceReplicate, Nat.add_one_le_iff, -getElem?_pos, -getElem?_neg, List.getElem?_cons_zero, List.getElem?_cons_succ, iC, hlt, hwi, hx, hf]))
       | ((with_reducible first | refine awp_reg 31 hX [0, 1, 2, 6, 7, 8, 12, 25] ?_ | change postOf _ _ _ _ _); simp [-List.reduceReplicate, Nat.add_one_le_iff, -getElem?_pos, -getElem?_neg, List.getElem?_cons_zero, List.getElem?_cons_succ, iC, hlt, hwi, hx, hf])
       | (with_reducible refine awp_if_b rfl (fun hc => ?_) (fun hc => ?_) <;> (try simp [-getElem?_pos, -getElem?_neg] at hc) <;> (try (exfalso; omega)))
       | ((with_reducible first | refine GuardK_b (fun hc => ?_) (fun hc => ?_)) <;> (try simp only [Bool.not_eq_true', Bool.not_eq_false', decide_eq_true_eq, decide_eq_false_iff_not] at hc) <;> (first | (exfalso; omega) | skip) <;> simp [-List.reduceReplicate, Nat.add_one_le_iff, -getElem?_pos, -getElem?_neg, List.getElem?_cons_zero, List.getElem?_cons_succ, iC, hlt, hwi, hx, hf, hc])
       | ((with_reducible first | refine hother _ _ rfl ?_); simp only [inBlockA, thenA, noGotoA, Nat.reduceEqDiff, if_false, if_true, ↓reduceIte])
       | (with_reducible refine And.intro (by omega) ?_)
       | fail)
      refine next _ _ (g) (by omega) (by first | trivial | omega | assumption) (by simp [-List.reduceReplicate, keep, iC, hsi]) (by simp [-List.reduceReplicate, iC, hsi])
  · have hi2 : i = zs.length := by omega
    subst hi2
    have hexit := hother; clear hother
    repeat' (first 
     | (with_reducible first | refine awp_scope ?_ | refine awp_seq ?_ | refine awp_block ?_)
     | ((with_reducible first | refine awp_label ?_ | refine awp_skip ?_); try simp only [thenA, inBlockA, noGotoA])
     | (with_reducible refine awp_exit ?_; simp only [thenA, inBlockA, noGotoA, if_true, Nat.reduceEqDiff, if_false, ↓reduceIte])
     | (with_reducible refine awp_ret ?_; (try simp only [thenA, inBlockA, noGotoA]); (try simp [-List.reduceReplicate, Nat.add_one_le_iff, -getElem?_pos, -getElem?_neg, List.getElem?_cons_zero, List.getElem?_cons_succ, iC, hlt]))
     | ((with_reducible first | refine awp_reg 31 hX [0, 1, 2, 6, 7, 8, 12, 25] ?_ | change postOf _ _ _ _ _); simp [-List.reduceReplicate, Nat.add_one_le_iff, -getElem?_pos, -getElem?_neg, List.getElem?_cons_zero, List.getElem?_cons_succ, iC, hlt])
     | (with_reducible refine awp_if_b rfl (fun hc => ?_) (fun hc => ?_) <;> (try simp [-getElem?_pos, -getElem?_neg] at hc) <;> (try (exfalso; omega)))
     | ((with_reducible first | refine GuardK_b (fun hc => ?_) (fun hc => ?_)) <;> (try simp only [Bool.not_eq_true', Bool.not_eq_false', decide_eq_true_eq, decide_eq_false_iff_not] at hc) <;> (first | (exfalso; omega) | skip) <;> simp [-List.reduceReplicate, Nat.add_one_le_iff, -getElem?_pos, -getElem?_neg, List.getElem?_cons_zero, List.getElem?_cons_succ, iC, hlt, hc])
     | ((with_reducible first | refine hother _ _ rfl ?_); simp only [inBlockA, thenA, noGotoA, Nat.reduceEqDiff, if_false, if_true, ↓reduceIte])
     | (with_reducible refine And.intro (by omega) ?_)
     | fail)
    refine hexit _ _ rfl ?_
    simp only [inBlockA, thenA, ↓reduceIte]
    refine awp_frz2 7 [] [] [] _ ((f zs.length).map iC) _ hO rfl rfl rfl (by simp [ltB, intsC]) (by simp) ?_
    repeat' (first 
     | (with_reducible first | refine awp_scope ?_ | refine awp_seq ?_ | refine awp_block ?_)
     | ((with_reducible first | refine awp_label ?_ | refine awp_skip ?_); try simp only [thenA, inBlockA, noGotoA])
     | (with_reducible refine awp_exit ?_; simp only [thenA, inBlockA, noGotoA, if_true, Nat.reduceEqDiff, if_false, ↓reduceIte])
     | (with_reducible refine awp_ret ?_; (try simp only [thenA, inBlockA, noGotoA]); (try simp [-List.reduceReplicate, Nat.add_one_le_iff, -getElem?_pos, -getElem?_neg, List.getElem?_cons_zero, List.getElem?_cons_succ, intsC]))
     | ((with_reducible first | refine awp_reg 31 hX [0, 1, 2, 6, 7, 8, 12, 25] ?_ | change postOf _ _ _ _ _); simp [-List.reduceReplicate, Nat.add_one_le_iff, -getElem?_pos, -getElem?_neg, List.getElem?_cons_zero, List.getElem?_cons_succ, intsC])
     | (with_reducible refine awp_if_b rfl (fun hc => ?_) (fun hc => ?_) <;> (try simp [-getElem?_pos, -getElem?_neg] at hc) <;> (try (exfalso; omega)))
     | ((with_reducible first | refine GuardK_b (fun hc => ?_) (fun hc => ?_)) <;> (try simp only [Bool.not_eq_true', Bool.not_eq_false', decide_eq_true_eq, decide_eq_false_iff_not] at hc) <;> (first | (exfalso; omega) | skip) <;> simp [-List.reduceReplicate, Nat.add_one_le_iff, -getElem?_pos, -getElem?_neg, List.getElem?_cons_zero, List.getElem?_cons_succ, intsC, hc])
     | ((with_reducible first | refine hother _ _ rfl ?_); simp only [inBlockA, thenA, noGotoA, Nat.reduceEqDiff, if_false, if_true, ↓reduceIte])
     | (with_reducible refine And.intro (by omega) ?_)
     | fail)
theorem awake38_den : DenV Try.prog 15 [] (.c (bC true)) := by
  refine Den.frame rfl rfl ?_
  have p1 := count_den [256, 0, 2] 1 true (by simp)
  have p2 := last_den [256, 0, 2] 0 2 true (by simp)
  have p3 := places_den [256, 0, 2] 1 1 true (by simp) (by simp)
  have p4 := (same_den [2] [2] [] (by simp)).le (args := [.c (intsC [2]), .c (.sl [iC 2] 1 true)]) ⟨leM_refl _, leM_c (leC_full _ _ _), trivial⟩
  rw [show (plI [256, 0, 2] 0 1) = [0, 2] by decide] at p1
  rw [show lastI [256, 0, 2] 0 2 = 1 by decide] at p2
  rw [show (plI [256, 0, 2] 1 1) = [2] by decide] at p3
  simp only [List.map_cons, List.map_nil, List.length_cons, List.length_nil, iC, intsC] at p1 p2 p3 p4
  refine den_of Try.func15 rfl rfl (by simp [Try.ntmps15]) (fun X hX hO => ?_)
  rw [Try.ntmps15] at hX
  simp only [Try.results15]
  repeat' (first 
   | (with_reducible first | refine awp_scope ?_ | refine awp_seq ?_ | refine awp_block ?_)
   | ((with_reducible first | refine awp_label ?_ | refine awp_skip ?_); try simp only [thenA, inBlockA, noGotoA])
   | (with_reducible refine awp_exit ?_; simp only [thenA, inBlockA, noGotoA, if_true, Nat.reduceEqDiff, if_false, ↓reduceIte])
   | (with_reducible refine awp_ret ?_; (try simp only [thenA, inBlockA, noGotoA]); (try simp [-List.reduceReplicate, Nat.add_one_le_iff, -getElem?_pos, -getElem?_neg, List.getElem?_cons_zero, List.getElem?_cons_succ, iC, bC]))
   | ((with_reducible first | refine awp_reg 17 hX [0, 1] ?_ | change postOf _ _ _ _ _); simp [-List.reduceReplicate, Nat.add_one_le_iff, -getElem?_pos, -getElem?_neg, List.getElem?_cons_zero, List.getElem?_cons_succ, iC, bC])
   | ((first | (refine (p1 _).det ?_) | (refine (p2 _).det ?_) | (refine (p3 _).det ?_) | (refine (p4).det ?_)); try simp [-List.reduceReplicate, Nat.add_one_le_iff, -getElem?_pos, -getElem?_neg, List.getElem?_cons_zero, List.getElem?_cons_succ, iC, bC])
   | (with_reducible refine awp_if_b rfl (fun hc => ?_) (fun hc => ?_) <;> (try simp [-getElem?_pos, -getElem?_neg] at hc) <;> (try (exfalso; omega)))
   | ((with_reducible first | refine GuardK_b (fun hc => ?_) (fun hc => ?_)) <;> (try simp only [Bool.not_eq_true', Bool.not_eq_false', decide_eq_true_eq, decide_eq_false_iff_not] at hc) <;> (first | (exfalso; omega) | skip) <;> simp [-List.reduceReplicate, Nat.add_one_le_iff, -getElem?_pos, -getElem?_neg, List.getElem?_cons_zero, List.getElem?_cons_succ, iC, bC, hc])
   | (with_reducible refine And.intro (by omega) ?_)
   | fail)
theorem lastI_eq (zs : List Int) (level n : Int) : (¬ (1 ≤ n ∧ n ≤ (plI zs 0 level).length) ∧ lastI zs level n = -1) ∨ ∃ (k : Nat) (x : Int), 1 ≤ n ∧ n ≤ (plI zs 0 level).length ∧ ((plI zs 0 level).length : Int) - n = k ∧ (plI zs 0 level)[k]? = some x ∧ lastI zs level n = x := by
  by_cases h : 1 ≤ n ∧ n ≤ (plI zs 0 level).length
  · obtain ⟨x, hx⟩ := getI (plI zs 0 level) (((plI zs 0 level).length - n.toNat : Nat) : Int) (by omega) (by omega)
    simp only [Int.toNat_natCast] at hx
    refine .inr ⟨(plI zs 0 level).length - n.toNat, x, h.1, h.2, by omega, hx, ?_⟩
    unfold lastI
    rw [if_pos h, hx]; rfl
  · exact .inl ⟨h, by unfold lastI; rw [if_neg h]⟩
set_option maxHeartbeats 4000000 in
theorem upPlaces_den (zs : List Int) (f l n : Int) (hf : f ≤ 9223372036854775807) (ob : List Ob) : Den Try.prog 3 [.c (intsC zs), .agg [.c (iC f), .c (iC l), .c (iC n)]] ob (fun r ob' => r = .c (bC true) ∧ ob' = ob) := by
  refine Den.frame rfl rfl ?_ ob
  by_cases hn : zs.length ≤ 200
  · have q1 := count_den zs l false (by omega)
    have q2 := last_den zs l n false (by omega)
    have q3 := places_den zs f l false hf (by omega)
    have q4 := places38_den zs f l (by omega)
    have q5 := places38_den zs 0 l (by omega)
    have l1 := plI_len zs f l
    have l2 := plI_len zs 0 l
    have q6 := same_den (plI zs f l) (plI zs f l)
    have hL := lastI_eq zs l n
    generalize plI zs f l = p at *
    generalize plI zs 0 l = p0 at *
    generalize lastI zs l n = r at *
    have c0 : ¬ (200 : Int) < zs.length := by omega
    simp only [intsC] at *
    refine den_of Try.func3 rfl rfl (by simp [Try.ntmps3]) (fun X hX hO => ?_)
    rw [Try.ntmps3] at hX
    simp only [Try.results3]
    rcases hL with ⟨h1, rfl⟩ | ⟨k, x, h1, h2, h3, h4, rfl⟩
    · by_cases c1 : 1 ≤ n
      · have c2 : ¬ n ≤ (p0.length : Int) := fun h => h1 ⟨c1, h⟩
        repeat' (first 
         | (with_reducible first | refine awp_scope ?_ | refine awp_seq ?_ | refine awp_block ?_)
         | ((with_reducible first | refine awp_label ?_ | refine awp_skip ?_); try simp only [thenA, inBlockA, noGotoA])
         | (with_reducible refine awp_exit ?_; simp only [thenA, inBlockA, noGotoA, if_true, Nat.reduceEqDiff, if_false, ↓reduceIte])
         | (with_reducible refine awp_ret ?_; (try simp only [thenA, inBlockA, noGotoA]); (try simp [-List.reduceReplicate, Nat.add_one_le_iff, -getElem?_pos, -getElem?_neg, List.getElem?_cons_zero, List.getElem?_cons_succ, iC, bC, c0, c1, c2]))
         | ((with_reducible first | refine awp_reg 66 hX [0, 3, 4, 5, 6, 7, 8, 9, 18, 30] ?_ | refine awp_drw 66 hX [0, 3, 4, 5, 6, 7, 8, 9, 18, 30] Tab.mixed (by kernel_rfl) ?_ | refine DEv_cut _ _ _ _ _ _ _ _ _ _ _ _ (by kernel_rfl) ?_ | change postOf _ _ _ _ _); simp [-List.reduceReplicate, Nat.add_one_le_iff, -getElem?_pos, -getElem?_neg, List.getElem?_cons_zero, List.getElem?_cons_succ, iC, bC, c0, c1, c2])
         | ((first | (refine (q1 _).det ?_) | (refine ⟨_, _, q1 _, fun _ => rfl, ?_⟩) | (refine (q2 _).det ?_) | (refine ⟨_, _, q2 _, fun _ => rfl, ?_⟩) | (refine (q3 _).det ?_) | (refine ⟨_, _, q3 _, fun _ => rfl, ?_⟩) | (refine (q4 _).det ?_) | (refine ⟨_, _, q4 _, fun _ => rfl, ?_⟩) | (refine (q5 _).det ?_) | (refine ⟨_, _, q5 _, fun _ => rfl, ?_⟩) | (refine (q6 _ (by omega)).det ?_) | (refine ⟨_, _, q6 _ (by omega), fun _ => rfl, ?_⟩) | ((with_reducible refine Den.at_ (f := 15) ?_); refine (awake38_den _).det ?_) | ((with_reducible refine drawn_at (f := 15) ?_); refine ⟨_, _, awake38_den _, fun _ => rfl, ?_⟩)); try simp [-List.reduceReplicate, Nat.add_one_le_iff, -getElem?_pos, -getElem?_neg, List.getElem?_cons_zero, List.getElem?_cons_succ, iC, bC, c0, c1, c2])
         | (with_reducible refine awp_if_b rfl (fun hc => ?_) (fun hc => ?_) <;> (try simp [-getElem?_pos, -getElem?_neg] at hc) <;> (try (exfalso; omega)))
         | ((with_reducible first | refine GuardK_b (fun hc => ?_) (fun hc => ?_) | refine DGuard_b _ _ _ _ _ _ _ _ _ _ (fun hc => ?_) (fun hc => ?_)) <;> (try simp only [Bool.not_eq_true', Bool.not_eq_false', decide_eq_true_eq, decide_eq_false_iff_not] at hc) <;> (first | (exfalso; omega) | skip) <;> simp [-List.reduceReplicate, Nat.add_one_le_iff, -getElem?_pos, -getElem?_neg, List.getElem?_cons_zero, List.getElem?_cons_succ, iC, bC, c0, c1, c2, hc])
         | (with_reducible refine And.intro (by omega) ?_)
         | fail)
      · repeat' (first 
         | (with_reducible first | refine awp_scope ?_ | refine awp_seq ?_ | refine awp_block ?_)
         | ((with_reducible first | refine awp_label ?_ | refine awp_skip ?_); try simp only [thenA, inBlockA, noGotoA])
         | (with_reducible refine awp_exit ?_; simp only [thenA, inBlockA, noGotoA, if_true, Nat.reduceEqDiff, if_false, ↓reduceIte])
         | (with_reducible refine awp_ret ?_; (try simp only [thenA, inBlockA, noGotoA]); (try simp [-List.reduceReplicate, Nat.add_one_le_iff, -getElem?_pos, -getElem?_neg, List.getElem?_cons_zero, List.getElem?_cons_succ, iC, bC, c0, c1]))
         | ((with_reducible first | refine awp_reg 66 hX [0, 3, 4, 5, 6, 7, 8, 9, 18, 30] ?_ | refine awp_drw 66 hX [0, 3, 4, 5, 6, 7, 8, 9, 18, 30] Tab.mixed (by kernel_rfl) ?_ | refine DEv_cut _ _ _ _ _ _ _ _ _ _ _ _ (by kernel_rfl) ?_ | change postOf _ _ _ _ _); simp [-List.reduceReplicate, Nat.add_one_le_iff, -getElem?_pos, -getElem?_neg, List.getElem?_cons_zero, List.getElem?_cons_succ, iC, bC, c0, c1])
         | ((first | (refine (q1 _).det ?_) | (refine ⟨_, _, q1 _, fun _ => rfl, ?_⟩) | (refine (q2 _).det ?_) | (refine ⟨_, _, q2 _, fun _ => rfl, ?_⟩) | (refine (q3 _).det ?_) | (refine ⟨_, _, q3 _, fun _ => rfl, ?_⟩) | (refine (q4 _).det ?_) | (refine ⟨_, _, q4 _, fun _ => rfl, ?_⟩) | (refine (q5 _).det ?_) | (refine ⟨_, _, q5 _, fun _ => rfl, ?_⟩) | (refine (q6 _ (by omega)).det ?_) | (refine ⟨_, _, q6 _ (by omega), fun _ => rfl, ?_⟩) | ((with_reducible refine Den.at_ (f := 15) ?_); refine (awake38_den _).det ?_) | ((with_reducible refine drawn_at (f := 15) ?_); refine ⟨_, _, awake38_den _, fun _ => rfl, ?_⟩)); try simp [-List.reduceReplicate, Nat.add_one_le_iff, -getElem?_pos, -getElem?_neg, List.getElem?_cons_zero, List.getElem?_cons_succ, iC, bC, c0, c1])
         | (with_reducible refine awp_if_b rfl (fun hc => ?_) (fun hc => ?_) <;> (try simp [-getElem?_pos, -getElem?_neg] at hc) <;> (try (exfalso; omega)))
         | ((with_reducible first | refine GuardK_b (fun hc => ?_) (fun hc => ?_) | refine DGuard_b _ _ _ _ _ _ _ _ _ _ (fun hc => ?_) (fun hc => ?_)) <;> (try simp only [Bool.not_eq_true', Bool.not_eq_false', decide_eq_true_eq, decide_eq_false_iff_not] at hc) <;> (first | (exfalso; omega) | skip) <;> simp [-List.reduceReplicate, Nat.add_one_le_iff, -getElem?_pos, -getElem?_neg, List.getElem?_cons_zero, List.getElem?_cons_succ, iC, bC, c0, c1, hc])
         | (with_reducible refine And.intro (by omega) ?_)
         | fail)
    · have w1 := wrap_in ((p0.length : Int) - n) (by omega)
      rw [h3] at w1
      repeat' (first 
       | (with_reducible first | refine awp_scope ?_ | refine awp_seq ?_ | refine awp_block ?_)
       | ((with_reducible first | refine awp_label ?_ | refine awp_skip ?_); try simp only [thenA, inBlockA, noGotoA])
       | (with_reducible refine awp_exit ?_; simp only [thenA, inBlockA, noGotoA, if_true, Nat.reduceEqDiff, if_false, ↓reduceIte])
       | (with_reducible refine awp_ret ?_; (try simp only [thenA, inBlockA, noGotoA]); (try simp [-List.reduceReplicate, Nat.add_one_le_iff, -getElem?_pos, -getElem?_neg, List.getElem?_cons_zero, List.getElem?_cons_succ, iC, bC, c0, h1, h2, h3, h4, w1]))
       | ((with_reducible first | refine awp_reg 66 hX [0, 3, 4, 5, 6, 7, 8, 9, 18, 30] ?_ | refine awp_drw 66 hX [0, 3, 4, 5, 6, 7, 8, 9, 18, 30] Tab.mixed (by kernel_rfl) ?_ | refine DEv_cut _ _ _ _ _ _ _ _ _ _ _ _ (by kernel_rfl) ?_ | change postOf _ _ _ _ _); simp [-List.reduceReplicate, Nat.add_one_le_iff, -getElem?_pos, -getElem?_neg, List.getElem?_cons_zero, List.getElem?_cons_succ, iC, bC, c0, h1, h2, h3, h4, w1])
       | ((first | (refine (q1 _).det ?_) | (refine ⟨_, _, q1 _, fun _ => rfl, ?_⟩) | (refine (q2 _).det ?_) | (refine ⟨_, _, q2 _, fun _ => rfl, ?_⟩) | (refine (q3 _).det ?_) | (refine ⟨_, _, q3 _, fun _ => rfl, ?_⟩) | (refine (q4 _).det ?_) | (refine ⟨_, _, q4 _, fun _ => rfl, ?_⟩) | (refine (q5 _).det ?_) | (refine ⟨_, _, q5 _, fun _ => rfl, ?_⟩) | (refine (q6 _ (by omega)).det ?_) | (refine ⟨_, _, q6 _ (by omega), fun _ => rfl, ?_⟩) | ((with_reducible refine Den.at_ (f := 15) ?_); refine (awake38_den _).det ?_) | ((with_reducible refine drawn_at (f := 15) ?_); refine ⟨_, _, awake38_den _, fun _ => rfl, ?_⟩)); try simp [-List.reduceReplicate, Nat.add_one_le_iff, -getElem?_pos, -getElem?_neg, List.getElem?_cons_zero, List.getElem?_cons_succ, iC, bC, c0, h1, h2, h3, h4, w1])
       | (with_reducible refine awp_if_b rfl (fun hc => ?_) (fun hc => ?_) <;> (try simp [-getElem?_pos, -getElem?_neg] at hc) <;> (try (exfalso; omega)))
       | ((with_reducible first | refine GuardK_b (fun hc => ?_) (fun hc => ?_) | refine DGuard_b _ _ _ _ _ _ _ _ _ _ (fun hc => ?_) (fun hc => ?_)) <;> (try simp only [Bool.not_eq_true', Bool.not_eq_false', decide_eq_true_eq, decide_eq_false_iff_not] at hc) <;> (first | (exfalso; omega) | skip) <;> simp [-List.reduceReplicate, Nat.add_one_le_iff, -getElem?_pos, -getElem?_neg, List.getElem?_cons_zero, List.getElem?_cons_succ, iC, bC, c0, h1, h2, h3, h4, w1, hc])
       | (with_reducible refine And.intro (by omega) ?_)
       | fail)
  · skip
    refine den_of Try.func3 rfl rfl (by simp [Try.ntmps3]) (fun X hX hO => ?_)
    rw [Try.ntmps3] at hX
    simp only [Try.results3]
    have c0 : (200 : Int) < zs.length := by omega
    repeat' (first 
     | (with_reducible first | refine awp_scope ?_ | refine awp_seq ?_ | refine awp_block ?_)
     | ((with_reducible first | refine awp_label ?_ | refine awp_skip ?_); try simp only [thenA, inBlockA, noGotoA])
     | (with_reducible refine awp_exit ?_; simp only [thenA, inBlockA, noGotoA, if_true, Nat.reduceEqDiff, if_false, ↓reduceIte])
     | (with_reducible refine awp_ret ?_; (try simp only [thenA, inBlockA, noGotoA]); (try simp [-List.reduceReplicate, Nat.add_one_le_iff, -getElem?_pos, -getElem?_neg, List.getElem?_cons_zero, List.getElem?_cons_succ, iC, bC, c0, intsC]))
     | ((with_reducible first | refine awp_reg 66 hX [0, 3, 4, 5, 6, 7, 8, 9, 18, 30] ?_ | refine awp_drw 66 hX [0, 3, 4, 5, 6, 7, 8, 9, 18, 30] Tab.mixed (by kernel_rfl) ?_ | refine DEv_cut _ _ _ _ _ _ _ _ _ _ _ _ (by kernel_rfl) ?_ | change postOf _ _ _ _ _); simp [-List.reduceReplicate, Nat.add_one_le_iff, -getElem?_pos, -getElem?_neg, List.getElem?_cons_zero, List.getElem?_cons_succ, iC, bC, c0, intsC])
     | ((first | ((with_reducible refine Den.at_ (f := 15) ?_); refine (awake38_den _).det ?_) | ((with_reducible refine drawn_at (f := 15) ?_); refine ⟨_, _, awake38_den _, fun _ => rfl, ?_⟩)); try simp [-List.reduceReplicate, Nat.add_one_le_iff, -getElem?_pos, -getElem?_neg, List.getElem?_cons_zero, List.getElem?_cons_succ, iC, bC, c0, intsC])
     | (with_reducible refine awp_if_b rfl (fun hc => ?_) (fun hc => ?_) <;> (try simp [-getElem?_pos, -getElem?_neg] at hc) <;> (try (exfalso; omega)))
     | ((with_reducible first | refine GuardK_b (fun hc => ?_) (fun hc => ?_) | refine DGuard_b _ _ _ _ _ _ _ _ _ _ (fun hc => ?_) (fun hc => ?_)) <;> (try simp only [Bool.not_eq_true', Bool.not_eq_false', decide_eq_true_eq, decide_eq_false_iff_not] at hc) <;> (first | (exfalso; omega) | skip) <;> simp [-List.reduceReplicate, Nat.add_one_le_iff, -getElem?_pos, -getElem?_neg, List.getElem?_cons_zero, List.getElem?_cons_succ, iC, bC, c0, intsC, hc])
     | (with_reducible refine And.intro (by omega) ?_)
     | fail)
/-- What is taken of one row by another that is a part of it. -/
theorem drop_step {X Y : List Nat} {p : Nat → Bool} (hX : X.Nodup) {i k x : Nat} (h : Y.drop k = (X.drop i).filter p) (hx : X[i]? = some x) :
    (p x = true → Y[k]? = some x ∧ Y.drop (k + 1) = (X.drop (i + 1)).filter p) ∧ (p x = false → Y[k]? ≠ some x ∧ Y.drop k = (X.drop (i + 1)).filter p) := by
  have hi := (List.getElem?_eq_some_iff.1 hx).1
  have e : X.drop i = x :: X.drop (i + 1) := by
    rw [List.drop_eq_getElem_cons hi]
    congr 1
    exact (List.getElem?_eq_some_iff.1 hx).2
  rw [e, List.filter_cons] at h
  refine ⟨fun hp => ?_, fun hp => ?_⟩
  · rw [if_pos hp] at h
    have h0 : Y[k]? = some x := by
      have : (Y.drop k)[0]? = some x := by rw [h]; rfl
      simpa using this
    refine ⟨h0, ?_⟩
    have : (Y.drop k).drop 1 = (X.drop (i + 1)).filter p := by rw [h]; rfl
    rwa [List.drop_drop] at this
  · rw [if_neg (by simp [hp])] at h
    refine ⟨fun hy => ?_, h⟩
    have h0 : (Y.drop k)[0]? = some x := by simpa using hy
    rw [h] at h0
    have hm := List.mem_of_getElem? h0
    have hm2 := (List.mem_filter.1 hm).2
    rw [hp] at hm2; simp at hm2
theorem pl_nodup (zs : List Int) (f l : Int) (k : Nat) : (pl zs f l k).Nodup := (List.nodup_range).filter _
theorem pl_part (zs : List Int) (a b : Int) (h : a ≤ b) : pl zs 0 b zs.length = (pl zs 0 a zs.length).filter fun i => decide (b ≤ zs[i]?.getD 0) := by
  unfold pl
  rw [List.filter_filter]
  congr 1
  funext i
  simp only [hit]
  by_cases h1 : b ≤ zs[i]?.getD 0
  · have h2 : a ≤ zs[i]?.getD 0 := by omega
    simp [h1, h2]
  · simp [h1]
set_option maxHeartbeats 4000000 in
theorem upLess_den (zs : List Int) (a b : Int) (ob : List Ob) : Den Try.prog 4 [.c (intsC zs), .c (iC a), .c (iC b)] ob (fun r ob' => r = .c (bC true) ∧ ob' = ob) := by
  refine Den.frame rfl rfl ?_ ob
  by_cases hn : zs.length ≤ 200
  · by_cases hab : a ≤ b
    · have q1 := count_den zs a false (by omega)
      have q2 := count_den zs b false (by omega)
      have q3 := places_den zs 0 a false (by omega) (by omega)
      have q4 := places_den zs 0 b false (by omega) (by omega)
      have l1 := plI_len zs 0 a
      have l2 := plI_len zs 0 b
      have hnd := pl_nodup zs 0 a zs.length
      have hpt := pl_part zs a b hab
      have e1 : plI zs 0 a = (pl zs 0 a zs.length).map fun x : Nat => (x : Int) := rfl
      have e2 : plI zs 0 b = (pl zs 0 b zs.length).map fun x : Nat => (x : Int) := rfl
      generalize plI zs 0 a = x at *
      generalize plI zs 0 b = y at *
      generalize pl zs 0 a zs.length = A0 at *
      generalize pl zs 0 b zs.length = B0 at *
      generalize (fun i : Nat => decide (b ≤ zs[i]?.getD 0)) = p at *
      have e3 : x.length = A0.length := by rw [e1]; simp
      have e4 : y.length = B0.length := by rw [e2]; simp
      have hle : B0.length ≤ A0.length := by rw [hpt]; exact List.length_filter_le _ _
      have c0 : ¬ (200 : Int) < zs.length := by omega
      have c1 : ¬ b < a := by omega
      have c2 : y.length ≤ x.length := by omega
      simp only [intsC] at *
      refine den_of Try.func4 rfl rfl (by simp [Try.ntmps4]) (fun X hX hO => ?_)
      rw [Try.ntmps4] at hX
      simp only [Try.results4]
      repeat' (first 
       | (with_reducible first | refine awp_scope ?_ | refine awp_seq ?_ | refine awp_block ?_)
       | ((with_reducible first | refine awp_label ?_ | refine awp_skip ?_); try simp only [thenA, inBlockA, noGotoA])
       | (with_reducible refine awp_exit ?_; simp only [thenA, inBlockA, noGotoA, if_true, Nat.reduceEqDiff, if_false, ↓reduceIte])
       | (with_reducible refine awp_ret ?_; (try simp only [thenA, inBlockA, noGotoA]); (try simp [-List.reduceReplicate, Nat.add_one_le_iff, -getElem?_pos, -getElem?_neg, List.getElem?_cons_zero, List.getElem?_cons_succ, iC, bC, c0, c1]))
       | ((with_reducible first | refine awp_reg 65 hX [0, 1, 2, 6, 7, 8, 9, 10, 18, 35, 46] ?_ | refine awp_drw 65 hX [0, 1, 2, 6, 7, 8, 9, 10, 18, 35, 46] Tab.mixed (by kernel_rfl) ?_ | refine DEv_cut _ _ _ _ _ _ _ _ _ _ _ _ (by kernel_rfl) ?_ | change postOf _ _ _ _ _); simp [-List.reduceReplicate, Nat.add_one_le_iff, -getElem?_pos, -getElem?_neg, List.getElem?_cons_zero, List.getElem?_cons_succ, iC, bC, c0, c1])
       | ((first | (refine (q1 _).det ?_) | (refine ⟨_, _, q1 _, fun _ => rfl, ?_⟩) | (refine (q2 _).det ?_) | (refine ⟨_, _, q2 _, fun _ => rfl, ?_⟩) | (refine (q3 _).det ?_) | (refine ⟨_, _, q3 _, fun _ => rfl, ?_⟩) | (refine (q4 _).det ?_) | (refine ⟨_, _, q4 _, fun _ => rfl, ?_⟩)); try simp [-List.reduceReplicate, Nat.add_one_le_iff, -getElem?_pos, -getElem?_neg, List.getElem?_cons_zero, List.getElem?_cons_succ, iC, bC, c0, c1])
       | (with_reducible refine awp_if_b rfl (fun hc => ?_) (fun hc => ?_) <;> (try simp [-getElem?_pos, -getElem?_neg] at hc) <;> (try (exfalso; omega)))
       | ((with_reducible first | refine GuardK_b (fun hc => ?_) (fun hc => ?_) | refine DGuard_b _ _ _ _ _ _ _ _ _ _ (fun hc => ?_) (fun hc => ?_)) <;> (try simp only [Bool.not_eq_true', Bool.not_eq_false', decide_eq_true_eq, decide_eq_false_iff_not] at hc) <;> (first | (exfalso; omega) | skip) <;> simp [-List.reduceReplicate, Nat.add_one_le_iff, -getElem?_pos, -getElem?_neg, List.getElem?_cons_zero, List.getElem?_cons_succ, iC, bC, c0, c1, hc])
       | ((with_reducible first | refine hother _ _ rfl ?_); simp only [inBlockA, thenA, noGotoA, Nat.reduceEqDiff, if_false, if_true, ↓reduceIte])
       | (with_reducible refine And.intro (by omega) ?_)
       | fail)
      refine awp_forU [0, 1, 2, 7, 8, 9, 10] (fun i (k : Nat) => [(9, .c (iC k)), (10, .c (iC i))]) (fun i (k : Nat) => []) (fun i (k : Nat) => k ≤ B0.length ∧ B0.drop k = (A0.drop i).filter p) (A0.length) (0) (⟨by omega, by simpa using hpt⟩) (by simp [-List.reduceReplicate, keep, iC]) (by simp [-List.reduceReplicate, iC]) ?_
      rintro i k Q1 hi hH next hother
      conv => arg 5; arg 1; simp only [List.cons_append, List.nil_append, keep, get, Nat.reduceEqDiff, if_true, if_false, ↓reduceIte]
      obtain ⟨hk, hd⟩ := hH
      have hwi := wrap_in ((i : Int) + 1) (by omega)
      have hwk := wrap_in ((k : Int) + 1) (by omega)
      have fin : k = B0.length → k = y.length := fun h => by omega
      by_cases hlt : i < A0.length
      · have hlt' : i < x.length := by omega
        obtain ⟨u, hu⟩ : ∃ u, A0[i]? = some u := ⟨_, List.getElem?_eq_getElem hlt⟩
        have hxu : x[i]? = some (u : Int) := by rw [e1]; simp [hu]
        obtain ⟨s1, s2⟩ := drop_step hnd hd hu
        by_cases hky : k < B0.length
        · have hky' : k < y.length := by omega
          obtain ⟨v, hv⟩ : ∃ v, B0[k]? = some v := ⟨_, List.getElem?_eq_getElem hky⟩
          have hyv : y[k]? = some (v : Int) := by rw [e2]; simp [hv]
          by_cases he : u = v
          · subst he
            have hp : p u = true := by
              cases h : p u with
              | true => rfl
              | false => exact absurd hv (s2 h).1
            repeat' (first 
             | (with_reducible first | refine awp_scope ?_ | refine awp_seq ?_ | refine awp_block ?_)
             | ((with_reducible first | refine awp_label ?_ | refine awp_skip ?_); try simp only [thenA, inBlockA, noGotoA])
             | (with_reducible refine awp_exit ?_; simp only [thenA, inBlockA, noGotoA, if_true, Nat.reduceEqDiff, if_false, ↓reduceIte])
             | (with_reducible refine awp_ret ?_; (try simp only [thenA, inBlockA, noGotoA]); (try simp [-List.reduceReplicate, Nat.add_one_le_iff, -getElem?_pos, -getElem?_neg, List.getElem?_cons_zero, List.getElem?_cons_succ, iC, bC, hlt', hky', hxu, hyv, hwi, hwk]))
             | ((with_reducible first | refine awp_reg 65 hX [0, 1, 2, 6, 7, 8, 9, 10, 18, 35, 46] ?_ | refine awp_drw 65 hX [0, 1, 2, 6, 7, 8, 9, 10, 18, 35, 46] Tab.mixed (by kernel_rfl) ?_ | refine DEv_cut _ _ _ _ _ _ _ _ _ _ _ _ (by kernel_rfl) ?_ | change postOf _ _ _ _ _); simp [-List.reduceReplicate, Nat.add_one_le_iff, -getElem?_pos, -getElem?_neg, List.getElem?_cons_zero, List.getElem?_cons_succ, iC, bC, hlt', hky', hxu, hyv, hwi, hwk])
             | (with_reducible refine awp_if_b rfl (fun hc => ?_) (fun hc => ?_) <;> (try simp [-getElem?_pos, -getElem?_neg] at hc) <;> (try (exfalso; omega)))
             | ((with_reducible first | refine GuardK_b (fun hc => ?_) (fun hc => ?_) | refine DGuard_b _ _ _ _ _ _ _ _ _ _ (fun hc => ?_) (fun hc => ?_)) <;> (try simp only [Bool.not_eq_true', Bool.not_eq_false', decide_eq_true_eq, decide_eq_false_iff_not] at hc) <;> (first | (exfalso; omega) | skip) <;> simp [-List.reduceReplicate, Nat.add_one_le_iff, -getElem?_pos, -getElem?_neg, List.getElem?_cons_zero, List.getElem?_cons_succ, iC, bC, hlt', hky', hxu, hyv, hwi, hwk, hc])
             | ((with_reducible first | refine hother _ _ rfl ?_); simp only [inBlockA, thenA, noGotoA, Nat.reduceEqDiff, if_false, if_true, ↓reduceIte])
             | (with_reducible refine And.intro (by omega) ?_)
             | fail)
            have nx : k + 1 ≤ B0.length ∧ B0.drop (k + 1) = (A0.drop (i + 1)).filter p := ⟨by omega, (s1 hp).2⟩
            refine next _ _ ((k + 1)) (by omega) (by first | trivial | omega | assumption) (by simp [-List.reduceReplicate, keep, iC]) (by simp [-List.reduceReplicate, iC])
          · have hp : p u = false := by
              cases h : p u with
              | false => rfl
              | true =>
                have := (s1 h).1
                rw [hv] at this
                exact absurd (Option.some.inj this).symm he
            have he' : ¬ (u : Int) = (v : Int) := by omega
            repeat' (first 
             | (with_reducible first | refine awp_scope ?_ | refine awp_seq ?_ | refine awp_block ?_)
             | ((with_reducible first | refine awp_label ?_ | refine awp_skip ?_); try simp only [thenA, inBlockA, noGotoA])
             | (with_reducible refine awp_exit ?_; simp only [thenA, inBlockA, noGotoA, if_true, Nat.reduceEqDiff, if_false, ↓reduceIte])
             | (with_reducible refine awp_ret ?_; (try simp only [thenA, inBlockA, noGotoA]); (try simp [-List.reduceReplicate, Nat.add_one_le_iff, -getElem?_pos, -getElem?_neg, List.getElem?_cons_zero, List.getElem?_cons_succ, iC, bC, hlt', hky', hxu, hyv, hwi, hwk, he']))
             | ((with_reducible first | refine awp_reg 65 hX [0, 1, 2, 6, 7, 8, 9, 10, 18, 35, 46] ?_ | refine awp_drw 65 hX [0, 1, 2, 6, 7, 8, 9, 10, 18, 35, 46] Tab.mixed (by kernel_rfl) ?_ | refine DEv_cut _ _ _ _ _ _ _ _ _ _ _ _ (by kernel_rfl) ?_ | change postOf _ _ _ _ _); simp [-List.reduceReplicate, Nat.add_one_le_iff, -getElem?_pos, -getElem?_neg, List.getElem?_cons_zero, List.getElem?_cons_succ, iC, bC, hlt', hky', hxu, hyv, hwi, hwk, he'])
             | (with_reducible refine awp_if_b rfl (fun hc => ?_) (fun hc => ?_) <;> (try simp [-getElem?_pos, -getElem?_neg] at hc) <;> (try (exfalso; omega)))
             | ((with_reducible first | refine GuardK_b (fun hc => ?_) (fun hc => ?_) | refine DGuard_b _ _ _ _ _ _ _ _ _ _ (fun hc => ?_) (fun hc => ?_)) <;> (try simp only [Bool.not_eq_true', Bool.not_eq_false', decide_eq_true_eq, decide_eq_false_iff_not] at hc) <;> (first | (exfalso; omega) | skip) <;> simp [-List.reduceReplicate, Nat.add_one_le_iff, -getElem?_pos, -getElem?_neg, List.getElem?_cons_zero, List.getElem?_cons_succ, iC, bC, hlt', hky', hxu, hyv, hwi, hwk, he', hc])
             | ((with_reducible first | refine hother _ _ rfl ?_); simp only [inBlockA, thenA, noGotoA, Nat.reduceEqDiff, if_false, if_true, ↓reduceIte])
             | (with_reducible refine And.intro (by omega) ?_)
             | fail)
            have nx : k ≤ B0.length ∧ B0.drop k = (A0.drop (i + 1)).filter p := ⟨by omega, (s2 hp).2⟩
            refine next _ _ (k) (by omega) (by first | trivial | omega | assumption) (by simp [-List.reduceReplicate, keep, iC]) (by simp [-List.reduceReplicate, iC])
        · have hk2 : k = y.length := by omega
          subst hk2
          repeat' (first 
           | (with_reducible first | refine awp_scope ?_ | refine awp_seq ?_ | refine awp_block ?_)
           | ((with_reducible first | refine awp_label ?_ | refine awp_skip ?_); try simp only [thenA, inBlockA, noGotoA])
           | (with_reducible refine awp_exit ?_; simp only [thenA, inBlockA, noGotoA, if_true, Nat.reduceEqDiff, if_false, ↓reduceIte])
           | (with_reducible refine awp_ret ?_; (try simp only [thenA, inBlockA, noGotoA]); (try simp [-List.reduceReplicate, Nat.add_one_le_iff, -getElem?_pos, -getElem?_neg, List.getElem?_cons_zero, List.getElem?_cons_succ, iC, bC, hlt', c2]))
           | ((with_reducible first | refine awp_reg 65 hX [0, 1, 2, 6, 7, 8, 9, 10, 18, 35, 46] ?_ | refine awp_drw 65 hX [0, 1, 2, 6, 7, 8, 9, 10, 18, 35, 46] Tab.mixed (by kernel_rfl) ?_ | refine DEv_cut _ _ _ _ _ _ _ _ _ _ _ _ (by kernel_rfl) ?_ | change postOf _ _ _ _ _); simp [-List.reduceReplicate, Nat.add_one_le_iff, -getElem?_pos, -getElem?_neg, List.getElem?_cons_zero, List.getElem?_cons_succ, iC, bC, hlt', c2])
           | ((first | (refine (q1 _).det ?_) | (refine ⟨_, _, q1 _, fun _ => rfl, ?_⟩) | (refine (q2 _).det ?_) | (refine ⟨_, _, q2 _, fun _ => rfl, ?_⟩) | ((with_reducible refine Den.at_ (f := 15) ?_); refine (awake38_den _).det ?_) | ((with_reducible refine drawn_at (f := 15) ?_); refine ⟨_, _, awake38_den _, fun _ => rfl, ?_⟩)); try simp [-List.reduceReplicate, Nat.add_one_le_iff, -getElem?_pos, -getElem?_neg, List.getElem?_cons_zero, List.getElem?_cons_succ, iC, bC, hlt', c2])
           | (with_reducible refine awp_if_b rfl (fun hc => ?_) (fun hc => ?_) <;> (try simp [-getElem?_pos, -getElem?_neg] at hc) <;> (try (exfalso; omega)))
           | ((with_reducible first | refine GuardK_b (fun hc => ?_) (fun hc => ?_) | refine DGuard_b _ _ _ _ _ _ _ _ _ _ (fun hc => ?_) (fun hc => ?_)) <;> (try simp only [Bool.not_eq_true', Bool.not_eq_false', decide_eq_true_eq, decide_eq_false_iff_not] at hc) <;> (first | (exfalso; omega) | skip) <;> simp [-List.reduceReplicate, Nat.add_one_le_iff, -getElem?_pos, -getElem?_neg, List.getElem?_cons_zero, List.getElem?_cons_succ, iC, bC, hlt', c2, hc])
           | ((with_reducible first | refine hother _ _ rfl ?_); simp only [inBlockA, thenA, noGotoA, Nat.reduceEqDiff, if_false, if_true, ↓reduceIte])
           | (with_reducible refine And.intro (by omega) ?_)
           | fail)
      · have hlt' : ¬ i < x.length := by omega
        have hd0 : B0.drop k = [] := by rw [hd, List.drop_of_length_le (by omega)]; rfl
        have hk2 : k = y.length := by
          have := congrArg List.length hd0
          simp at this; omega
        subst hk2
        repeat' (first 
         | (with_reducible first | refine awp_scope ?_ | refine awp_seq ?_ | refine awp_block ?_)
         | ((with_reducible first | refine awp_label ?_ | refine awp_skip ?_); try simp only [thenA, inBlockA, noGotoA])
         | (with_reducible refine awp_exit ?_; simp only [thenA, inBlockA, noGotoA, if_true, Nat.reduceEqDiff, if_false, ↓reduceIte])
         | (with_reducible refine awp_ret ?_; (try simp only [thenA, inBlockA, noGotoA]); (try simp [-List.reduceReplicate, Nat.add_one_le_iff, -getElem?_pos, -getElem?_neg, List.getElem?_cons_zero, List.getElem?_cons_succ, iC, bC, hlt', c2]))
         | ((with_reducible first | refine awp_reg 65 hX [0, 1, 2, 6, 7, 8, 9, 10, 18, 35, 46] ?_ | refine awp_drw 65 hX [0, 1, 2, 6, 7, 8, 9, 10, 18, 35, 46] Tab.mixed (by kernel_rfl) ?_ | refine DEv_cut _ _ _ _ _ _ _ _ _ _ _ _ (by kernel_rfl) ?_ | change postOf _ _ _ _ _); simp [-List.reduceReplicate, Nat.add_one_le_iff, -getElem?_pos, -getElem?_neg, List.getElem?_cons_zero, List.getElem?_cons_succ, iC, bC, hlt', c2])
         | ((first | (refine (q1 _).det ?_) | (refine ⟨_, _, q1 _, fun _ => rfl, ?_⟩) | (refine (q2 _).det ?_) | (refine ⟨_, _, q2 _, fun _ => rfl, ?_⟩) | ((with_reducible refine Den.at_ (f := 15) ?_); refine (awake38_den _).det ?_) | ((with_reducible refine drawn_at (f := 15) ?_); refine ⟨_, _, awake38_den _, fun _ => rfl, ?_⟩)); try simp [-List.reduceReplicate, Nat.add_one_le_iff, -getElem?_pos, -getElem?_neg, List.getElem?_cons_zero, List.getElem?_cons_succ, iC, bC, hlt', c2])
         | (with_reducible refine awp_if_b rfl (fun hc => ?_) (fun hc => ?_) <;> (try simp [-getElem?_pos, -getElem?_neg] at hc) <;> (try (exfalso; omega)))
         | ((with_reducible first | refine GuardK_b (fun hc => ?_) (fun hc => ?_) | refine DGuard_b _ _ _ _ _ _ _ _ _ _ (fun hc => ?_) (fun hc => ?_)) <;> (try simp only [Bool.not_eq_true', Bool.not_eq_false', decide_eq_true_eq, decide_eq_false_iff_not] at hc) <;> (first | (exfalso; omega) | skip) <;> simp [-List.reduceReplicate, Nat.add_one_le_iff, -getElem?_pos, -getElem?_neg, List.getElem?_cons_zero, List.getElem?_cons_succ, iC, bC, hlt', c2, hc])
         | ((with_reducible first | refine hother _ _ rfl ?_); simp only [inBlockA, thenA, noGotoA, Nat.reduceEqDiff, if_false, if_true, ↓reduceIte])
         | (with_reducible refine And.intro (by omega) ?_)
         | fail)
    · skip
      refine den_of Try.func4 rfl rfl (by simp [Try.ntmps4]) (fun X hX hO => ?_)
      rw [Try.ntmps4] at hX
      simp only [Try.results4]
      have c0 : ¬ (200 : Int) < zs.length := by omega
      have c1 : b < a := by omega
      repeat' (first 
       | (with_reducible first | refine awp_scope ?_ | refine awp_seq ?_ | refine awp_block ?_)
       | ((with_reducible first | refine awp_label ?_ | refine awp_skip ?_); try simp only [thenA, inBlockA, noGotoA])
       | (with_reducible refine awp_exit ?_; simp only [thenA, inBlockA, noGotoA, if_true, Nat.reduceEqDiff, if_false, ↓reduceIte])
       | (with_reducible refine awp_ret ?_; (try simp only [thenA, inBlockA, noGotoA]); (try simp [-List.reduceReplicate, Nat.add_one_le_iff, -getElem?_pos, -getElem?_neg, List.getElem?_cons_zero, List.getElem?_cons_succ, iC, bC, c0, c1, intsC]))
       | ((with_reducible first | refine awp_reg 65 hX [0, 1, 2, 6, 7, 8, 9, 10, 18, 35, 46] ?_ | refine awp_drw 65 hX [0, 1, 2, 6, 7, 8, 9, 10, 18, 35, 46] Tab.mixed (by kernel_rfl) ?_ | refine DEv_cut _ _ _ _ _ _ _ _ _ _ _ _ (by kernel_rfl) ?_ | change postOf _ _ _ _ _); simp [-List.reduceReplicate, Nat.add_one_le_iff, -getElem?_pos, -getElem?_neg, List.getElem?_cons_zero, List.getElem?_cons_succ, iC, bC, c0, c1, intsC])
       | ((first | ((with_reducible refine Den.at_ (f := 15) ?_); refine (awake38_den _).det ?_) | ((with_reducible refine drawn_at (f := 15) ?_); refine ⟨_, _, awake38_den _, fun _ => rfl, ?_⟩)); try simp [-List.reduceReplicate, Nat.add_one_le_iff, -getElem?_pos, -getElem?_neg, List.getElem?_cons_zero, List.getElem?_cons_succ, iC, bC, c0, c1, intsC])
       | (with_reducible refine awp_if_b rfl (fun hc => ?_) (fun hc => ?_) <;> (try simp [-getElem?_pos, -getElem?_neg] at hc) <;> (try (exfalso; omega)))
       | ((with_reducible first | refine GuardK_b (fun hc => ?_) (fun hc => ?_) | refine DGuard_b _ _ _ _ _ _ _ _ _ _ (fun hc => ?_) (fun hc => ?_)) <;> (try simp only [Bool.not_eq_true', Bool.not_eq_false', decide_eq_true_eq, decide_eq_false_iff_not] at hc) <;> (first | (exfalso; omega) | skip) <;> simp [-List.reduceReplicate, Nat.add_one_le_iff, -getElem?_pos, -getElem?_neg, List.getElem?_cons_zero, List.getElem?_cons_succ, iC, bC, c0, c1, intsC, hc])
       | ((with_reducible first | refine hother _ _ rfl ?_); simp only [inBlockA, thenA, noGotoA, Nat.reduceEqDiff, if_false, if_true, ↓reduceIte])
       | (with_reducible refine And.intro (by omega) ?_)
       | fail)
  · skip
    refine den_of Try.func4 rfl rfl (by simp [Try.ntmps4]) (fun X hX hO => ?_)
    rw [Try.ntmps4] at hX
    simp only [Try.results4]
    have c0 : (200 : Int) < zs.length := by omega
    repeat' (first 
     | (with_reducible first | refine awp_scope ?_ | refine awp_seq ?_ | refine awp_block ?_)
     | ((with_reducible first | refine awp_label ?_ | refine awp_skip ?_); try simp only [thenA, inBlockA, noGotoA])
     | (with_reducible refine awp_exit ?_; simp only [thenA, inBlockA, noGotoA, if_true, Nat.reduceEqDiff, if_false, ↓reduceIte])
     | (with_reducible refine awp_ret ?_; (try simp only [thenA, inBlockA, noGotoA]); (try simp [-List.reduceReplicate, Nat.add_one_le_iff, -getElem?_pos, -getElem?_neg, List.getElem?_cons_zero, List.getElem?_cons_succ, iC, bC, c0, intsC]))
     | ((with_reducible first | refine awp_reg 65 hX [0, 1, 2, 6, 7, 8, 9, 10, 18, 35, 46] ?_ | refine awp_drw 65 hX [0, 1, 2, 6, 7, 8, 9, 10, 18, 35, 46] Tab.mixed (by kernel_rfl) ?_ | refine DEv_cut _ _ _ _ _ _ _ _ _ _ _ _ (by kernel_rfl) ?_ | change postOf _ _ _ _ _); simp [-List.reduceReplicate, Nat.add_one_le_iff, -getElem?_pos, -getElem?_neg, List.getElem?_cons_zero, List.getElem?_cons_succ, iC, bC, c0, intsC])
     | ((first | ((with_reducible refine Den.at_ (f := 15) ?_); refine (awake38_den _).det ?_) | ((with_reducible refine drawn_at (f := 15) ?_); refine ⟨_, _, awake38_den _, fun _ => rfl, ?_⟩)); try simp [-List.reduceReplicate, Nat.add_one_le_iff, -getElem?_pos, -getElem?_neg, List.getElem?_cons_zero, List.getElem?_cons_succ, iC, bC, c0, intsC])
     | (with_reducible refine awp_if_b rfl (fun hc => ?_) (fun hc => ?_) <;> (try simp [-getElem?_pos, -getElem?_neg] at hc) <;> (try (exfalso; omega)))
     | ((with_reducible first | refine GuardK_b (fun hc => ?_) (fun hc => ?_) | refine DGuard_b _ _ _ _ _ _ _ _ _ _ (fun hc => ?_) (fun hc => ?_)) <;> (try simp only [Bool.not_eq_true', Bool.not_eq_false', decide_eq_true_eq, decide_eq_false_iff_not] at hc) <;> (first | (exfalso; omega) | skip) <;> simp [-List.reduceReplicate, Nat.add_one_le_iff, -getElem?_pos, -getElem?_neg, List.getElem?_cons_zero, List.getElem?_cons_succ, iC, bC, c0, intsC, hc])
     | ((with_reducible first | refine hother _ _ rfl ?_); simp only [inBlockA, thenA, noGotoA, Nat.reduceEqDiff, if_false, if_true, ↓reduceIte])
     | (with_reducible refine And.intro (by omega) ?_)
     | fail)
theorem opens_arr3 {P : Program} {t e : TypeId} (ht : P.underlying t = some (.array 3 e)) (he : P.underlying e = some (.int .i64)) (hc : P.cellsOf e = 1) (hct : P.cellsOf t = 3) :
    Opens P t (fun p : Int × Int × Int => [iC p.1, iC p.2.1, iC p.2.2]) (fun p => p.1 ≤ 9223372036854775807) :=
  (opens_array ht (by rw [hct, hc]) (by simp [hc]) (opens_int he)).conv fun l ⟨hl, hw⟩ => by
    match l, hl with
    | [a, b, c], _ =>
      have h : -9223372036854775808 ≤ a ∧ a ≤ 9223372036854775807 := by simpa [Lit.wf, IntKind.min, IntKind.max, IntKind.signed, IntKind.bits] using hw a (by simp)
      exact ⟨(a, b, c), h.2, rfl⟩
end Go.Av

set_option linter.unusedVariables false
set_option linter.unusedSimpArgs false
set_option maxRecDepth 100000
set_option maxHeartbeats 4000000
namespace Go.Av
open Go Go.Proofs Go.Proofs.Ytofomnllcmgfeaa Go.RowKit
/-! ### hashes -/
def bC8 (b : UInt8) : C := .v (.int .u8 (b.toNat : Int))
def hashM (l : List UInt8) : M := .agg (up (l.map bC8))
theorem zero_hash : List.replicate 32 (C.v (Value.int IntKind.u8 0)) = (List.replicate 32 (0 : UInt8)).map bC8 := by rw [List.map_replicate]; rfl
theorem eq_hash (l l' : List UInt8) (h : l.length = 32) (h' : l'.length = 32) : eqM (List.replicate 32 0) (up (l.map bC8)) (up (l'.map bC8)) = some (decide (l = l')) := by
  have e := eqM_ints (k := .u8) 32 (l.map fun b => (b.toNat : Int)) (l'.map fun b => (b.toNat : Int)) (by simp [h]) (by simp [h'])
  have inj : (l.map (fun b => (b.toNat : Int)) = l'.map fun b => (b.toNat : Int)) ↔ l = l' := by
    constructor
    · intro h
      exact List.map_inj_right (fun a b hab => UInt8.toNat_inj.1 (by omega)) |>.1 h
    · intro h; rw [h]
  rw [List.map_map, List.map_map] at e
  simp only [inj] at e
  exact e
theorem eq_zero_hash : eqM (List.replicate 32 0) (up (List.replicate 32 (bC8 0))) (up (List.replicate 32 (C.v (Value.int IntKind.u8 0)))) = some true := by rfl
theorem lt_hash (n : Nat) (l : List UInt8) : ltB n (hashM l) = true := by
  simp only [hashM, ltB]
  exact ltBs_up n _
theorem bytesM_b8 (l : List UInt8) : bytesM (up (l.map bC8)) = some l := by
  induction l with
  | nil => rfl
  | cons x xs ih =>
    simp only [up, List.map_cons] at *
    simp only [bytesM, bC8] at *
    rw [ih]
    simp
theorem raw_den (l : List UInt8) (hl : l.length = 32) : DenV Try.prog 112 [hashM l] (.c (.v (.string ⟨l.toArray⟩))) := by
  intro ob
  refine Den.dropM rfl ?_
  refine den_of Try.func112 rfl rfl (by simp [Try.ntmps112]) (fun X hX hO => ?_)
  rw [Try.ntmps112] at hX
  simp only [Try.results112]
  repeat' (first 
   | (with_reducible first | refine awp_scope ?_ | refine awp_seq ?_ | refine awp_block ?_)
   | ((with_reducible first | refine awp_label ?_ | refine awp_skip ?_); try simp only [thenA, inBlockA, noGotoA])
   | (with_reducible refine awp_exit ?_; simp only [thenA, inBlockA, noGotoA, if_true, Nat.reduceEqDiff, if_false, ↓reduceIte])
   | (with_reducible refine awp_ret ?_; (try simp only [thenA, inBlockA, noGotoA]); (try simp [-List.reduceReplicate, Nat.add_one_le_iff, -getElem?_pos, -getElem?_neg, List.getElem?_cons_zero, List.getElem?_cons_succ, hashM, hl]))
   | ((with_reducible first | refine awp_reg 18 hX [1, 2, 3, 4, 7] ?_ | change postOf _ _ _ _ _); simp [-List.reduceReplicate, Nat.add_one_le_iff, -getElem?_pos, -getElem?_neg, List.getElem?_cons_zero, List.getElem?_cons_succ, hashM, hl])
   | (with_reducible refine awp_if_b rfl (fun hc => ?_) (fun hc => ?_) <;> (try simp [-getElem?_pos, -getElem?_neg] at hc) <;> (try (exfalso; omega)))
   | ((with_reducible first | refine GuardK_b (fun hc => ?_) (fun hc => ?_)) <;> (try simp only [Bool.not_eq_true', Bool.not_eq_false', decide_eq_true_eq, decide_eq_false_iff_not] at hc) <;> (first | (exfalso; omega) | skip) <;> simp [-List.reduceReplicate, Nat.add_one_le_iff, -getElem?_pos, -getElem?_neg, List.getElem?_cons_zero, List.getElem?_cons_succ, hashM, hl, hc])
   | ((with_reducible first | refine hother _ _ rfl ?_); simp only [inBlockA, thenA, noGotoA, Nat.reduceEqDiff, if_false, if_true, ↓reduceIte])
   | (with_reducible refine And.intro (by omega) ?_)
   | fail)
  refine awp_forU [1, 3, 4] (fun i (_u : Unit) => [(4, .c (iC i))]) (fun i (_u : Unit) => ob ++ [⟨71, 1, false, 0, up (l.map bC8), none⟩, ⟨5, 1, false, 0, up ((l.map bC8).take i ++ List.replicate (32 - i) (bC8 0)), none⟩]) (fun i (_u : Unit) => True) (32) (()) (by first | trivial | (simp; done) | omega | (intros; simp at *; done)) (by simp [-List.reduceReplicate, keep, iC, bC8]) (by simp [-List.reduceReplicate, iC, bC8]) ?_
  rintro i _u Q1 hi hH next hother
  conv => arg 5; arg 1; simp only [List.cons_append, List.nil_append, keep, get, Nat.reduceEqDiff, if_true, if_false, ↓reduceIte]
  have hwi := wrap_in ((i : Int) + 1) (by omega)
  have hml : (l.map bC8).length = 32 := by simp [hl]
  by_cases hlt : i < 32
  · obtain ⟨b, hb⟩ := getI l (i : Nat) (by omega) (by omega)
    simp only [Int.toNat_natCast] at hb
    have hset := set_fill (l.map bC8) (bC8 0) (bC8 b) 32 i hlt hml (by simp [hb])
    have hln := len_fill (l.map bC8) (bC8 0) 32 i hi hml
    generalize (l.map bC8).take (i + 1) ++ List.replicate (32 - (i + 1)) (bC8 0) = r1 at *
    have hbc : .v (.int .u8 (b.toNat : Int)) = bC8 b := rfl
    generalize hr0 : (l.map bC8).take i ++ List.replicate (32 - i) (bC8 0) = r0 at *
    repeat' (first 
     | (with_reducible first | refine awp_scope ?_ | refine awp_seq ?_ | refine awp_block ?_)
     | ((with_reducible first | refine awp_label ?_ | refine awp_skip ?_); try simp only [thenA, inBlockA, noGotoA])
     | (with_reducible refine awp_exit ?_; simp only [thenA, inBlockA, noGotoA, if_true, Nat.reduceEqDiff, if_false, ↓reduceIte])
     | (with_reducible refine awp_ret ?_; (try simp only [thenA, inBlockA, noGotoA]); (try simp [-List.reduceReplicate, Nat.add_one_le_iff, -getElem?_pos, -getElem?_neg, List.getElem?_cons_zero, List.getElem?_cons_succ, iC, hlt, hwi, hl, hb, hln, bC8]))
     | ((with_reducible first | refine awp_reg 18 hX [1, 2, 3, 4, 7] ?_ | change postOf _ _ _ _ _); simp [-List.reduceReplicate, Nat.add_one_le_iff, -getElem?_pos, -getElem?_neg, List.getElem?_cons_zero, List.getElem?_cons_succ, iC, hlt, hwi, hl, hb, hln, bC8])
     | (with_reducible refine awp_if_b rfl (fun hc => ?_) (fun hc => ?_) <;> (try simp [-getElem?_pos, -getElem?_neg] at hc) <;> (try (exfalso; omega)))
     | ((with_reducible first | refine GuardK_b (fun hc => ?_) (fun hc => ?_)) <;> (try simp only [Bool.not_eq_true', Bool.not_eq_false', decide_eq_true_eq, decide_eq_false_iff_not] at hc) <;> (first | (exfalso; omega) | skip) <;> simp [-List.reduceReplicate, Nat.add_one_le_iff, -getElem?_pos, -getElem?_neg, List.getElem?_cons_zero, List.getElem?_cons_succ, iC, hlt, hwi, hl, hb, hln, bC8, hc])
     | ((with_reducible first | refine hother _ _ rfl ?_); simp only [inBlockA, thenA, noGotoA, Nat.reduceEqDiff, if_false, if_true, ↓reduceIte])
     | (with_reducible refine And.intro (by omega) ?_)
     | fail)
    rw [hbc, hset]
    refine next _ _ (()) (by omega) (by first | trivial | omega | assumption) (by simp [-List.reduceReplicate, keep, iC]) (by simp [-List.reduceReplicate, iC])
  · have hi32 : i = 32 := by omega
    subst hi32
    have htk : (l.map bC8).take 32 = l.map bC8 := List.take_of_length_le (by simp [hl])
    have hbm := bytesM_b8 l
    repeat' (first 
     | (with_reducible first | refine awp_scope ?_ | refine awp_seq ?_ | refine awp_block ?_)
     | ((with_reducible first | refine awp_label ?_ | refine awp_skip ?_); try simp only [thenA, inBlockA, noGotoA])
     | (with_reducible refine awp_exit ?_; simp only [thenA, inBlockA, noGotoA, if_true, Nat.reduceEqDiff, if_false, ↓reduceIte])
     | (with_reducible refine awp_ret ?_; (try simp only [thenA, inBlockA, noGotoA]); (try simp [-List.reduceReplicate, Nat.add_one_le_iff, -getElem?_pos, -getElem?_neg, List.getElem?_cons_zero, List.getElem?_cons_succ, iC, hlt, htk, hbm, hl]))
     | ((with_reducible first | refine awp_reg 18 hX [1, 2, 3, 4, 7] ?_ | change postOf _ _ _ _ _); simp [-List.reduceReplicate, Nat.add_one_le_iff, -getElem?_pos, -getElem?_neg, List.getElem?_cons_zero, List.getElem?_cons_succ, iC, hlt, htk, hbm, hl])
     | (with_reducible refine awp_if_b rfl (fun hc => ?_) (fun hc => ?_) <;> (try simp [-getElem?_pos, -getElem?_neg] at hc) <;> (try (exfalso; omega)))
     | ((with_reducible first | refine GuardK_b (fun hc => ?_) (fun hc => ?_)) <;> (try simp only [Bool.not_eq_true', Bool.not_eq_false', decide_eq_true_eq, decide_eq_false_iff_not] at hc) <;> (first | (exfalso; omega) | skip) <;> simp [-List.reduceReplicate, Nat.add_one_le_iff, -getElem?_pos, -getElem?_neg, List.getElem?_cons_zero, List.getElem?_cons_succ, iC, hlt, htk, hbm, hl, hc])
     | ((with_reducible first | refine hother _ _ rfl ?_); simp only [inBlockA, thenA, noGotoA, Nat.reduceEqDiff, if_false, if_true, ↓reduceIte])
     | (with_reducible refine And.intro (by omega) ?_)
     | fail)
end Go.Av

/- The library contracts that this program bears, laid by the kit's own tools. -/
namespace Go.Proofs
open Go.Shelf
def Try.lays170_ren : Go.Shelf.Ren := ⟨fun | 170 => 139 | n => n, fun | 70 => 179 | 3 => 3 | 0 => 0 | 72 => 181 | 37 => 148 | 5 => 5 | n => n, fun | n => n⟩
theorem Try.lays170 : Go.Proofs.Lays.n170 Try.prog Try.lays170_ren := {
  mixed := by kernel_rfl
  f170 := Try.func139.trans (congrArg some (by kernel_rfl))
  t0 := Try.underlying0
  a0 := Try.isAgg0
  z0 := Try.sizeOf0
  v0 := Try.zeroValue0
  t3 := Try.underlying3
  a3 := Try.isAgg3
  z3 := Try.sizeOf3
  v3 := Try.zeroValue3
  t37 := Try.underlying148
  a37 := Try.isAgg148
  z37 := Try.sizeOf148
  v37 := Try.zeroValue148
  t70 := Try.underlying179
  a70 := Try.isAgg179
  z70 := Try.sizeOf179
  v70 := Try.zeroValue179
  t72 := Try.underlying181
  a72 := Try.isAgg181
  z72 := Try.sizeOf181
  v72 := Try.zeroValue181 }
open Go.RowKit in
theorem Try.Builder_Len (B b : Nat) (bs : List Value) (w : World) (h : Lib.IsBuilder 181 5 B b bs w) :
    Calls Try.prog 139 #[.pointer (some ⟨b, 0, none⟩)] w fun e w' => e = .returned (.int .i64 bs.length) ∧ w' = w := Any.Builder_Len Try.lays170 B b bs w h
def Try.lays169_ren : Go.Shelf.Ren := ⟨fun | 169 => 135 | n => n, fun | 70 => 179 | 9 => 9 | 0 => 0 | 72 => 181 | 37 => 148 | 127 => 192 | 3 => 3 | 5 => 5 | n => n, fun | n => n⟩
theorem Try.lays169 : Go.Proofs.Lays.n169 Try.prog Try.lays169_ren := {
  mixed := by kernel_rfl
  f169 := Try.func135.trans (congrArg some (by kernel_rfl))
  t0 := Try.underlying0
  a0 := Try.isAgg0
  z0 := Try.sizeOf0
  v0 := Try.zeroValue0
  t3 := Try.underlying3
  a3 := Try.isAgg3
  z3 := Try.sizeOf3
  v3 := Try.zeroValue3
  t9 := Try.underlying9
  a9 := Try.isAgg9
  z9 := Try.sizeOf9
  v9 := Try.zeroValue9
  t37 := Try.underlying148
  a37 := Try.isAgg148
  z37 := Try.sizeOf148
  v37 := Try.zeroValue148
  t70 := Try.underlying179
  a70 := Try.isAgg179
  z70 := Try.sizeOf179
  v70 := Try.zeroValue179
  t72 := Try.underlying181
  a72 := Try.isAgg181
  z72 := Try.sizeOf181
  v72 := Try.zeroValue181
  t127 := Try.underlying192
  a127 := Try.isAgg192
  z127 := Try.sizeOf192
  v127 := Try.zeroValue192 }
theorem Try.Builder_Extra_169 : Builder.Extra Try.prog Try.lays169_ren := {
  sizeBuilder := by kernel_rfl
  liesBuilder := by kernel_rfl
  t5 := Try.underlying5
  a5 := Try.isAgg5
  z5 := Try.sizeOf5
  v5 := Try.zeroValue5
  infoByte := by kernel_rfl
  cellsByte := by kernel_rfl
  sizeByte := by kernel_rfl
  neB5 := by decide }
open Go.RowKit in
theorem Try.Builder_String (B b : Nat) (l : List UInt8) (w : World) (h : Lib.IsBuilder 181 5 B b (Lib.byteCells l) w) (h0 : l ≠ []) :
    Calls Try.prog 135 #[.pointer (some ⟨b, 0, none⟩)] w fun e w' => e = .returned (.string ⟨l.toArray⟩) ∧ Below B w w' := Any.Builder_String Try.lays169 Try.Builder_Extra_169 B b l w h h0
open Go.RowKit in
theorem Try.Builder_String_empty (B b : Nat) (w : World) (h : Lib.IsBuilder 181 5 B b [] w) (hBw : B ≤ w.heap.size) :
    Calls Try.prog 135 #[.pointer (some ⟨b, 0, none⟩)] w fun e w' => e = .returned (.string ⟨#[]⟩) ∧ Below B w w' := Any.Builder_String_empty Try.lays169 Try.Builder_Extra_169 B b w h hBw
open Go.RowKit in
theorem Try.Builder_String_any (B b : Nat) (l : List UInt8) (w : World) (h : Lib.IsBuilder 181 5 B b (Lib.byteCells l) w) (hBw : B ≤ w.heap.size) :
    Calls Try.prog 135 #[.pointer (some ⟨b, 0, none⟩)] w fun e w' => e = .returned (.string ⟨l.toArray⟩) ∧ Below B w w' := Any.Builder_String_any Try.lays169 Try.Builder_Extra_169 B b l w h hBw
def Try.lays241_ren : Go.Shelf.Ren := ⟨fun | 241 => 141 | 277 => 146 | n => n, fun | 70 => 179 | 3 => 3 | 0 => 0 | 72 => 181 | 37 => 148 | 5 => 5 | n => n, fun | n => n⟩
theorem Try.lays241 : Go.Proofs.Lays.n241 Try.prog Try.lays241_ren := {
  mixed := by kernel_rfl
  f241 := Try.func141.trans (congrArg some (by kernel_rfl))
  f277 := Try.func146.trans (congrArg some (by kernel_rfl))
  t0 := Try.underlying0
  a0 := Try.isAgg0
  z0 := Try.sizeOf0
  v0 := Try.zeroValue0
  t3 := Try.underlying3
  a3 := Try.isAgg3
  z3 := Try.sizeOf3
  v3 := Try.zeroValue3
  t37 := Try.underlying148
  a37 := Try.isAgg148
  z37 := Try.sizeOf148
  v37 := Try.zeroValue148
  t70 := Try.underlying179
  a70 := Try.isAgg179
  z70 := Try.sizeOf179
  v70 := Try.zeroValue179
  t72 := Try.underlying181
  a72 := Try.isAgg181
  z72 := Try.sizeOf181
  v72 := Try.zeroValue181 }
theorem Try.Builder_Extra_241 : Builder.Extra Try.prog Try.lays241_ren := {
  sizeBuilder := by kernel_rfl
  liesBuilder := by kernel_rfl
  t5 := Try.underlying5
  a5 := Try.isAgg5
  z5 := Try.sizeOf5
  v5 := Try.zeroValue5
  infoByte := by kernel_rfl
  cellsByte := by kernel_rfl
  sizeByte := by kernel_rfl
  neB5 := by decide }
open Go.RowKit in
theorem Try.Builder_grow_fresh (B b n : Nat) (w : World) (hB : B ≤ b) (hbk : w.heap[b]? = some (.cells #[.pointer (some ⟨b, 0, none⟩), .slice none 0 0] 181 (0, 0))) (hBw : B ≤ w.heap.size) (hn : n ≤ 281474976710656) :
    Calls Try.prog 141 #[.pointer (some ⟨b, 0, none⟩), .int .i64 n] w fun e w' => e = .returned (.tuple #[]) ∧ (Lib.BuilderAt 181 5 B b (.pointer (some ⟨b, 0, none⟩)) [] w' ∧ Below B w w') := Any.Builder_grow_fresh Try.lays241 Try.Builder_Extra_241 B b n w hB hbk hBw hn
def Try.lays165_ren : Go.Shelf.Ren := ⟨fun | 165 => 133 | 240 => 140 | 241 => 141 | 276 => 145 | 277 => 146 | n => n, fun | 70 => 179 | 3 => 3 | 0 => 0 | 4 => 4 | 9 => 9 | 20 => 20 | 72 => 181 | 37 => 148 | 164 => 197 | 5 => 5 | n => n, fun | n => n⟩
theorem Try.lays165 : Go.Proofs.Lays.n165 Try.prog Try.lays165_ren := {
  mixed := by kernel_rfl
  f165 := Try.func133.trans (congrArg some (by kernel_rfl))
  f240 := Try.func140.trans (congrArg some (by kernel_rfl))
  f241 := Try.func141.trans (congrArg some (by kernel_rfl))
  f276 := Try.func145.trans (congrArg some (by kernel_rfl))
  f277 := Try.func146.trans (congrArg some (by kernel_rfl))
  t0 := Try.underlying0
  a0 := Try.isAgg0
  z0 := Try.sizeOf0
  v0 := Try.zeroValue0
  t3 := Try.underlying3
  a3 := Try.isAgg3
  z3 := Try.sizeOf3
  v3 := Try.zeroValue3
  t4 := Try.underlying4
  a4 := Try.isAgg4
  z4 := Try.sizeOf4
  v4 := Try.zeroValue4
  t9 := Try.underlying9
  a9 := Try.isAgg9
  z9 := Try.sizeOf9
  v9 := Try.zeroValue9
  t20 := Try.underlying20
  a20 := Try.isAgg20
  z20 := Try.sizeOf20
  v20 := Try.zeroValue20
  t37 := Try.underlying148
  a37 := Try.isAgg148
  z37 := Try.sizeOf148
  v37 := Try.zeroValue148
  t70 := Try.underlying179
  a70 := Try.isAgg179
  z70 := Try.sizeOf179
  v70 := Try.zeroValue179
  t72 := Try.underlying181
  a72 := Try.isAgg181
  z72 := Try.sizeOf181
  v72 := Try.zeroValue181
  t164 := Try.underlying197
  a164 := Try.isAgg197
  z164 := Try.sizeOf197
  v164 := Try.zeroValue197 }
theorem Try.Builder_Extra_165 : Builder.Extra Try.prog Try.lays165_ren := {
  sizeBuilder := by kernel_rfl
  liesBuilder := by kernel_rfl
  t5 := Try.underlying5
  a5 := Try.isAgg5
  z5 := Try.sizeOf5
  v5 := Try.zeroValue5
  infoByte := by kernel_rfl
  cellsByte := by kernel_rfl
  sizeByte := by kernel_rfl
  neB5 := by decide }
open Go.RowKit in
theorem Try.Builder_Grow_fresh (B b n : Nat) (w : World) (hB : B ≤ b) (hbk : w.heap[b]? = some (.cells #[.pointer none, .slice none 0 0] 181 (0, 0))) (hBw : B ≤ w.heap.size) (hn : n ≤ 281474976710656) :
    Calls Try.prog 133 #[.pointer (some ⟨b, 0, none⟩), .int .i64 n] w fun e w' => e = .returned (.tuple #[]) ∧ (Lib.BuilderAt 181 5 B b (.pointer (some ⟨b, 0, none⟩)) [] w' ∧ Below B w w') := Any.Builder_Grow_fresh Try.lays165 Try.Builder_Extra_165 B b n w hB hbk hBw hn
def Try.lays156_ren : Go.Shelf.Ren := ⟨fun | 156 => 127 | 165 => 133 | 166 => 134 | 169 => 135 | 240 => 140 | 241 => 141 | 276 => 145 | 277 => 146 | n => n, fun | 31 => 36 | 9 => 9 | 3 => 3 | 4 => 4 | 0 => 0 | 20 => 20 | 72 => 181 | 76 => 185 | 70 => 179 | 37 => 148 | 75 => 184 | 127 => 192 | 164 => 197 | 5 => 5 | 80 => 187 | n => n, fun | n => n⟩
theorem Try.lays156 : Go.Proofs.Lays.n156 Try.prog Try.lays156_ren := {
  mixed := by kernel_rfl
  f156 := Try.func127.trans (congrArg some (by kernel_rfl))
  f165 := Try.func133.trans (congrArg some (by kernel_rfl))
  f166 := Try.func134.trans (congrArg some (by kernel_rfl))
  f169 := Try.func135.trans (congrArg some (by kernel_rfl))
  f240 := Try.func140.trans (congrArg some (by kernel_rfl))
  f241 := Try.func141.trans (congrArg some (by kernel_rfl))
  f276 := Try.func145.trans (congrArg some (by kernel_rfl))
  f277 := Try.func146.trans (congrArg some (by kernel_rfl))
  t0 := Try.underlying0
  a0 := Try.isAgg0
  z0 := Try.sizeOf0
  v0 := Try.zeroValue0
  t3 := Try.underlying3
  a3 := Try.isAgg3
  z3 := Try.sizeOf3
  v3 := Try.zeroValue3
  t4 := Try.underlying4
  a4 := Try.isAgg4
  z4 := Try.sizeOf4
  v4 := Try.zeroValue4
  t9 := Try.underlying9
  a9 := Try.isAgg9
  z9 := Try.sizeOf9
  v9 := Try.zeroValue9
  t20 := Try.underlying20
  a20 := Try.isAgg20
  z20 := Try.sizeOf20
  v20 := Try.zeroValue20
  t31 := Try.underlying36
  a31 := Try.isAgg36
  z31 := Try.sizeOf36
  v31 := Try.zeroValue36
  t37 := Try.underlying148
  a37 := Try.isAgg148
  z37 := Try.sizeOf148
  v37 := Try.zeroValue148
  t70 := Try.underlying179
  a70 := Try.isAgg179
  z70 := Try.sizeOf179
  v70 := Try.zeroValue179
  t72 := Try.underlying181
  a72 := Try.isAgg181
  z72 := Try.sizeOf181
  v72 := Try.zeroValue181
  t75 := Try.underlying184
  a75 := Try.isAgg184
  z75 := Try.sizeOf184
  v75 := Try.zeroValue184
  t76 := Try.underlying185
  a76 := Try.isAgg185
  z76 := Try.sizeOf185
  v76 := Try.zeroValue185
  t127 := Try.underlying192
  a127 := Try.isAgg192
  z127 := Try.sizeOf192
  v127 := Try.zeroValue192
  t164 := Try.underlying197
  a164 := Try.isAgg197
  z164 := Try.sizeOf197
  v164 := Try.zeroValue197 }
theorem Try.Builder_Extra_156 : Builder.Extra Try.prog Try.lays156_ren := {
  sizeBuilder := by kernel_rfl
  liesBuilder := by kernel_rfl
  t5 := Try.underlying5
  a5 := Try.isAgg5
  z5 := Try.sizeOf5
  v5 := Try.zeroValue5
  infoByte := by kernel_rfl
  cellsByte := by kernel_rfl
  sizeByte := by kernel_rfl
  neB5 := by decide }
open Go.RowKit in
theorem Try.strings_Join_none (a : Option Addr) (c : Nat) (sep : ByteArray) (w : World) :
    Calls Try.prog 127 #[.slice a 0 c, .string sep] w fun e w' => e = .returned (.string ⟨#[]⟩) ∧ w' = w := Any.strings_Join_none Try.lays156 Try.Builder_Extra_156 a c sep w
open Go.RowKit in
theorem Try.strings_Join (bk o c : Nat) (xs : List ByteArray) (sep : ByteArray) (w : World) (hcells : ∀ (j : Nat) x, xs[j]? = some x → w.cell? ⟨bk, o + j, none⟩ = some (.string x)) (hbk : bk < w.heap.size) (hN : xs.length ≤ 140737488355328) (hcap : xs.length ≤ c) (hlen : (Lib.join (xs.map (·.data.toList)) sep.data.toList).length ≤ 140737488355328) :
    Calls Try.prog 127 #[.slice (some ⟨bk, o, none⟩) xs.length c, .string sep] w fun e w' => e = .returned (.string ⟨(Lib.join (xs.map (·.data.toList)) sep.data.toList).toArray⟩) ∧ Below w.heap.size w w' := Any.strings_Join Try.lays156 Try.Builder_Extra_156 bk o c xs sep w hcells hbk hN hcap hlen
open Go.RowKit in
theorem Try.Builder_Len_f (B b : Nat) (bs : List Value) (w : World) (h : Lib.IsBuilderF 181 5 B b bs w) :
    Calls Try.prog 139 #[.pointer (some ⟨b, 0, none⟩)] w fun e w' => e = .returned (.int .i64 bs.length) ∧ w' = w := Any.Builder_Len_f Try.lays170 B b bs w h
open Go.RowKit in
theorem Try.Builder_String_f (B b : Nat) (l : List UInt8) (w : World) (h : Lib.IsBuilderF 181 5 B b (Lib.byteCells l) w) (h0 : l ≠ []) :
    Calls Try.prog 135 #[.pointer (some ⟨b, 0, none⟩)] w fun e w' => e = .returned (.string ⟨l.toArray⟩) ∧ (Lib.IsBuilderF 181 5 B b (Lib.byteCells l) w' ∧ Below B w w') := Any.Builder_String_f Try.lays169 Try.Builder_Extra_169 B b l w h h0
open Go.RowKit in
theorem Try.Builder_String_empty_f (B b : Nat) (w : World) (h : Lib.IsBuilderF 181 5 B b [] w) (hBw : B ≤ w.heap.size) :
    Calls Try.prog 135 #[.pointer (some ⟨b, 0, none⟩)] w fun e w' => e = .returned (.string ⟨#[]⟩) ∧ (Lib.IsBuilderF 181 5 B b [] w' ∧ Below B w w') := Any.Builder_String_empty_f Try.lays169 Try.Builder_Extra_169 B b w h hBw
open Go.RowKit in
theorem Try.Builder_String_any_f (B b : Nat) (l : List UInt8) (w : World) (h : Lib.IsBuilderF 181 5 B b (Lib.byteCells l) w) (hBw : B ≤ w.heap.size) :
    Calls Try.prog 135 #[.pointer (some ⟨b, 0, none⟩)] w fun e w' => e = .returned (.string ⟨l.toArray⟩) ∧ (Lib.IsBuilderF 181 5 B b (Lib.byteCells l) w' ∧ Below B w w') := Any.Builder_String_any_f Try.lays169 Try.Builder_Extra_169 B b l w h hBw
def Try.lays206_ren : Go.Shelf.Ren := ⟨fun | 206 => 144 | n => n, fun | 9 => 9 | 4 => 4 | 3 => 3 | n => n, fun | n => n⟩
theorem Try.lays206 : Go.Proofs.Lays.n206 Try.prog Try.lays206_ren := {
  mixed := by kernel_rfl
  f206 := Try.func144.trans (congrArg some (by kernel_rfl))
  t3 := Try.underlying3
  a3 := Try.isAgg3
  z3 := Try.sizeOf3
  v3 := Try.zeroValue3
  t4 := Try.underlying4
  a4 := Try.isAgg4
  z4 := Try.sizeOf4
  v4 := Try.zeroValue4
  t9 := Try.underlying9
  a9 := Try.isAgg9
  z9 := Try.sizeOf9
  v9 := Try.zeroValue9 }
open Go.RowKit Go.Lib in
theorem Try.stringslite_HasPrefix (s p : ByteArray) (w : World) :
    Calls Try.prog 144 #[.string s, .string p] w fun e w' => e = .returned (.bool (Lib.hasPrefix s.data.toList p.data.toList)) ∧ w' = w := Any.stringslite_HasPrefix Try.lays206 s p w
def Try.lays99_ren : Go.Shelf.Ren := ⟨fun | 99 => 138 | 206 => 144 | n => n, fun | 9 => 9 | 4 => 4 | 3 => 3 | n => n, fun | n => n⟩
theorem Try.lays99 : Go.Proofs.Lays.n99 Try.prog Try.lays99_ren := {
  mixed := by kernel_rfl
  f99 := Try.func138.trans (congrArg some (by kernel_rfl))
  f206 := Try.func144.trans (congrArg some (by kernel_rfl))
  t3 := Try.underlying3
  a3 := Try.isAgg3
  z3 := Try.sizeOf3
  v3 := Try.zeroValue3
  t4 := Try.underlying4
  a4 := Try.isAgg4
  z4 := Try.sizeOf4
  v4 := Try.zeroValue4
  t9 := Try.underlying9
  a9 := Try.isAgg9
  z9 := Try.sizeOf9
  v9 := Try.zeroValue9 }
open Go.RowKit Go.Lib in
theorem Try.strings_HasPrefix (s p : ByteArray) (w : World) :
    Calls Try.prog 138 #[.string s, .string p] w fun e w' => e = .returned (.bool (Lib.hasPrefix s.data.toList p.data.toList)) ∧ w' = w := Any.strings_HasPrefix Try.lays99 s p w
def Try.lays264_ren : Go.Shelf.Ren := ⟨fun | 264 => 143 | n => n, fun | 53 => 42 | 46 => 33 | n => n, fun | n => n⟩
theorem Try.lays264 : Go.Proofs.Lays.n264 Try.prog Try.lays264_ren := {
  mixed := by kernel_rfl
  f264 := Try.func143.trans (congrArg some (by kernel_rfl))
  t46 := Try.underlying33
  a46 := Try.isAgg33
  z46 := Try.sizeOf33
  v46 := Try.zeroValue33
  t53 := Try.underlying42
  a53 := Try.isAgg42
  z53 := Try.sizeOf42
  v53 := Try.zeroValue42 }
open Go.RowKit Go.Lib in
theorem Try.bits_Mul64 (x y : Nat) (hx : x < 18446744073709551616) (hy : y < 18446744073709551616) (w : World) :
    Calls Try.prog 143 #[.int .u64 x, .int .u64 y] w fun e w' => e = .returned (.tuple #[.int .u64 ((x * y / 18446744073709551616 : Nat) : Int), .int .u64 ((x * y % 18446744073709551616 : Nat) : Int)]) ∧ w' = w := Any.bits_Mul64 Try.lays264 x y hx hy w
def Try.lays212_ren : Go.Shelf.Ren := ⟨fun | 212 => 137 | 263 => 142 | 264 => 143 | n => n, fun | 46 => 33 | 51 => 109 | 146 => 193 | 53 => 42 | 148 => 195 | n => n, fun | n => n⟩
theorem Try.lays212 : Go.Proofs.Lays.n212 Try.prog Try.lays212_ren := {
  mixed := by kernel_rfl
  f212 := Try.func137.trans (congrArg some (by kernel_rfl))
  f263 := Try.func142.trans (congrArg some (by kernel_rfl))
  f264 := Try.func143.trans (congrArg some (by kernel_rfl))
  t46 := Try.underlying33
  a46 := Try.isAgg33
  z46 := Try.sizeOf33
  v46 := Try.zeroValue33
  t51 := Try.underlying109
  a51 := Try.isAgg109
  z51 := Try.sizeOf109
  v51 := Try.zeroValue109
  t53 := Try.underlying42
  a53 := Try.isAgg42
  z53 := Try.sizeOf42
  v53 := Try.zeroValue42
  t146 := Try.underlying193
  a146 := Try.isAgg193
  z146 := Try.sizeOf193
  v146 := Try.zeroValue193
  t148 := Try.underlying195
  a148 := Try.isAgg195
  z148 := Try.sizeOf195
  v148 := Try.zeroValue195 }
open Go.RowKit Go.Lib in
theorem Try.bits_Mul (x y : Nat) (hx : x < 18446744073709551616) (hy : y < 18446744073709551616) (w : World) :
    Calls Try.prog 137 #[.int .u64 x, .int .u64 y] w fun e w' => e = .returned (.tuple #[.int .u64 ((x * y / 18446744073709551616 : Nat) : Int), .int .u64 ((x * y % 18446744073709551616 : Nat) : Int)]) ∧ w' = w := Any.bits_Mul Try.lays212 x y hx hy w
def Try.lays105_ren : Go.Shelf.Ren := ⟨fun | 105 => 132 | 212 => 137 | 99 => 138 | 165 => 133 | 166 => 134 | 170 => 139 | 169 => 135 | 263 => 142 | 264 => 143 | 206 => 144 | 240 => 140 | 241 => 141 | 276 => 145 | 277 => 146 | n => n, fun | 9 => 9 | 3 => 3 | 4 => 4 | 20 => 20 | 0 => 0 | 46 => 33 | 109 => 189 | 5 => 5 | 72 => 181 | 76 => 185 | 51 => 109 | 146 => 193 | 53 => 42 | 148 => 195 | 70 => 179 | 37 => 148 | 75 => 184 | 127 => 192 | 164 => 197 | 80 => 187 | n => n, fun | n => n⟩
theorem Try.lays105 : Go.Proofs.Lays.n105 Try.prog Try.lays105_ren := {
  mixed := by kernel_rfl
  f99 := Try.func138.trans (congrArg some (by kernel_rfl))
  f105 := Try.func132.trans (congrArg some (by kernel_rfl))
  f165 := Try.func133.trans (congrArg some (by kernel_rfl))
  f166 := Try.func134.trans (congrArg some (by kernel_rfl))
  f169 := Try.func135.trans (congrArg some (by kernel_rfl))
  f170 := Try.func139.trans (congrArg some (by kernel_rfl))
  f206 := Try.func144.trans (congrArg some (by kernel_rfl))
  f212 := Try.func137.trans (congrArg some (by kernel_rfl))
  f240 := Try.func140.trans (congrArg some (by kernel_rfl))
  f241 := Try.func141.trans (congrArg some (by kernel_rfl))
  f263 := Try.func142.trans (congrArg some (by kernel_rfl))
  f264 := Try.func143.trans (congrArg some (by kernel_rfl))
  f276 := Try.func145.trans (congrArg some (by kernel_rfl))
  f277 := Try.func146.trans (congrArg some (by kernel_rfl))
  t0 := Try.underlying0
  a0 := Try.isAgg0
  z0 := Try.sizeOf0
  v0 := Try.zeroValue0
  t3 := Try.underlying3
  a3 := Try.isAgg3
  z3 := Try.sizeOf3
  v3 := Try.zeroValue3
  t4 := Try.underlying4
  a4 := Try.isAgg4
  z4 := Try.sizeOf4
  v4 := Try.zeroValue4
  t5 := Try.underlying5
  a5 := Try.isAgg5
  z5 := Try.sizeOf5
  v5 := Try.zeroValue5
  t9 := Try.underlying9
  a9 := Try.isAgg9
  z9 := Try.sizeOf9
  v9 := Try.zeroValue9
  t20 := Try.underlying20
  a20 := Try.isAgg20
  z20 := Try.sizeOf20
  v20 := Try.zeroValue20
  t37 := Try.underlying148
  a37 := Try.isAgg148
  z37 := Try.sizeOf148
  v37 := Try.zeroValue148
  t46 := Try.underlying33
  a46 := Try.isAgg33
  z46 := Try.sizeOf33
  v46 := Try.zeroValue33
  t51 := Try.underlying109
  a51 := Try.isAgg109
  z51 := Try.sizeOf109
  v51 := Try.zeroValue109
  t53 := Try.underlying42
  a53 := Try.isAgg42
  z53 := Try.sizeOf42
  v53 := Try.zeroValue42
  t70 := Try.underlying179
  a70 := Try.isAgg179
  z70 := Try.sizeOf179
  v70 := Try.zeroValue179
  t72 := Try.underlying181
  a72 := Try.isAgg181
  z72 := Try.sizeOf181
  v72 := Try.zeroValue181
  t75 := Try.underlying184
  a75 := Try.isAgg184
  z75 := Try.sizeOf184
  v75 := Try.zeroValue184
  t76 := Try.underlying185
  a76 := Try.isAgg185
  z76 := Try.sizeOf185
  v76 := Try.zeroValue185
  t109 := Try.underlying189
  a109 := Try.isAgg189
  z109 := Try.sizeOf189
  v109 := Try.zeroValue189
  t127 := Try.underlying192
  a127 := Try.isAgg192
  z127 := Try.sizeOf192
  v127 := Try.zeroValue192
  t146 := Try.underlying193
  a146 := Try.isAgg193
  z146 := Try.sizeOf193
  v146 := Try.zeroValue193
  t148 := Try.underlying195
  a148 := Try.isAgg195
  z148 := Try.sizeOf195
  v148 := Try.zeroValue195
  t164 := Try.underlying197
  a164 := Try.isAgg197
  z164 := Try.sizeOf197
  v164 := Try.zeroValue197 }
theorem Try.Builder_Extra_105 : Builder.Extra Try.prog Try.lays105_ren := {
  sizeBuilder := by kernel_rfl
  liesBuilder := by kernel_rfl
  t5 := Try.underlying5
  a5 := Try.isAgg5
  z5 := Try.sizeOf5
  v5 := Try.zeroValue5
  infoByte := by kernel_rfl
  cellsByte := by kernel_rfl
  sizeByte := by kernel_rfl
  neB5 := by decide }
open Go.RowKit Go.Lib in
theorem Try.strings_Repeat_main (s : ByteArray) (c : Nat) (w : World) (hc2 : 2 ≤ c) (hc : c ≤ 9223372036854775807) (hlen : s.size * c ≤ 140737488355328) (h0 : 0 < s.size) :
    Calls Try.prog 132 #[.string s, .int .i64 c] w fun e w' => e = .returned (.string ⟨(Lib.repeatL s.data.toList c).toArray⟩) ∧ Below w.heap.size w w' := Any.strings_Repeat_main Try.lays105 Try.Builder_Extra_105 s c w hc2 hc hlen h0
open Go.RowKit Go.Lib in
theorem Try.strings_Repeat_zero (s : ByteArray) (w : World) :
    Calls Try.prog 132 #[.string s, .int .i64 0] w fun e w' => e = .returned (.string ⟨#[]⟩) ∧ w' = w := Any.strings_Repeat_zero Try.lays105 s w
open Go.RowKit Go.Lib in
theorem Try.strings_Repeat_one (s : ByteArray) (w : World) :
    Calls Try.prog 132 #[.string s, .int .i64 1] w fun e w' => e = .returned (.string s) ∧ w' = w := Any.strings_Repeat_one Try.lays105 s w
open Go.RowKit Go.Lib in
theorem Try.strings_Repeat_empty (s : ByteArray) (c : Nat) (w : World) (hc2 : 2 ≤ c) (hc : c ≤ 9223372036854775807) (h0 : s.size = 0) :
    Calls Try.prog 132 #[.string s, .int .i64 c] w fun e w' => e = .returned (.string ⟨#[]⟩) ∧ w' = w := Any.strings_Repeat_empty Try.lays105 s c w hc2 hc h0
open Go.RowKit Go.Lib in
theorem Try.strings_Repeat_negative (s : ByteArray) (c : Int) (w : World) (hc : c < 0) :
    Calls Try.prog 132 #[.string s, .int .i64 c] w fun e w' => e = .panicked [{ v := repeatPanic Try.lays105_ren "strings: negative Repeat count", recovered := false }] ∧ w' = w := Any.strings_Repeat_negative Try.lays105 s c w hc
open Go.RowKit Go.Lib in
theorem Try.strings_Repeat_overflow (s : ByteArray) (c : Nat) (w : World) (hc : c ≤ 9223372036854775807) (hs : s.size ≤ 9223372036854775807) (hbig : 9223372036854775807 < s.size * c) :
    Calls Try.prog 132 #[.string s, .int .i64 c] w fun e w' => e = .panicked [{ v := repeatPanic Try.lays105_ren "strings: Repeat output length overflow", recovered := false }] ∧ w' = w := Any.strings_Repeat_overflow Try.lays105 s c w hc hs hbig
open Go.RowKit Go.Lib in
theorem Try.strings_Repeat (s : ByteArray) (c : Nat) (w : World) (hc : c ≤ 9223372036854775807) (hlen : s.size * c ≤ 140737488355328) :
    Calls Try.prog 132 #[.string s, .int .i64 c] w fun e w' => e = .returned (.string ⟨(Lib.repeatL s.data.toList c).toArray⟩) ∧ Below w.heap.size w w' := Any.strings_Repeat Try.lays105 Try.Builder_Extra_105 s c w hc hlen
end Go.Proofs

set_option linter.unusedVariables false
set_option linter.unusedSimpArgs false
set_option maxRecDepth 100000
set_option maxHeartbeats 4000000
namespace Go.Av
open Go Go.Proofs Go.Proofs.Ytofomnllcmgfeaa Go.RowKit
/-! ### strings.Join; texts and their bytes -/
theorem of_list (l : List UInt8) : (⟨l.toArray⟩ : ByteArray) = bsS l := rfl
theorem bs_data (b : ByteArray) : bsS b.data.toList = b := by
  obtain ⟨d⟩ := b
  simp [bsS]
def joinS (xs : List ByteArray) (sep : ByteArray) : List UInt8 := Lib.join (xs.map (·.data.toList)) sep.data.toList
theorem join_den (xs : List ByteArray) (sep : ByteArray) (n : Nat) (full : Bool) (hn : xs.length = n) (hN : n ≤ 1000000) (hlen : (joinS xs sep).length ≤ 140737488355328) :
    DenV Try.prog 127 [.c (.sl (xs.map fun s => .v (.string s)) n full), .c (.v (.string sep))] (.c (.v (.string (bsS (joinS xs sep))))) := by
  refine Den.of_below (by kernel_rfl) rfl fun w E vals hs ha hst => ?_
  have h1 := ha 1 _ rfl
  have h0 := ha 0 _ rfl
  rw [show (xs.map fun s => C.v (.string s)) = (xs.map Value.string).map C.v by simp] at h0
  obtain ⟨va, vb, rfl⟩ : ∃ va vb, vals = #[va, vb] := by
    obtain ⟨l⟩ := vals
    match l, hs with
    | [a, b], _ => exact ⟨a, b, rfl⟩
  obtain rfl : vb = .string sep := arg_v h1
  rcases arg_row (by simpa using hn) h0 with ⟨h, e⟩ | ⟨a, cap, e, hcap, hcell⟩
  · simp only [Array.getD_eq_getD_getElem?, List.getElem?_toArray, List.getElem?_cons_zero, Option.getD_some] at e
    subst e
    have : xs = [] := by rw [h] at hn; exact List.length_eq_zero_iff.1 hn
    subst this
    refine (Try.strings_Join_none none 0 sep w).mono fun e w' ⟨he, hw⟩ => ⟨?_, hw ▸ Below.refl _ _⟩
    rw [he]
    rfl
  · simp only [Array.getD_eq_getD_getElem?, List.getElem?_toArray, List.getElem?_cons_zero, Option.getD_some] at e
    subst e
    by_cases h : n = 0
    · have : xs = [] := by rw [h] at hn; exact List.length_eq_zero_iff.1 hn
      subst this
      subst h
      refine (Try.strings_Join_none (some a) cap sep w).mono fun e w' ⟨he, hw⟩ => ⟨?_, hw ▸ Below.refl _ _⟩
      rw [he]
      rfl
    · obtain ⟨s, hs0⟩ : ∃ s, xs[0]? = some s := ⟨_, List.getElem?_eq_getElem (by omega)⟩
      obtain ⟨hb, hc0⟩ := hcell 0 (.string s) (by simp [hs0])
      have hpl : a = ⟨a.block, a.off, none⟩ := by
        have : a.add 0 = a := by simp [Addr.add]
        rw [this] at hc0
        exact plain_of_cell hc0
      obtain ⟨blk, off, sp⟩ := a
      simp only [Addr.mk.injEq, true_and] at hpl
      subst hpl
      subst hn
      exact (Try.strings_Join blk off cap xs sep w (fun j x hx => by
        have := (hcell j (.string x) (by simp [hx])).2
        rwa [add_plain] at this) (hst _ hb) (by omega) hcap hlen).mono fun e w' h => h
theorem bs_toList (l : List UInt8) : (bsS l).toList = l := by rw [toList_data]; rfl
theorem ba_ext {a b : ByteArray} (h : a.data.toList = b.data.toList) : a = b := by
  obtain ⟨a⟩ := a
  obtain ⟨b⟩ := b
  simp only [ByteArray.mk.injEq]
  exact Array.toList_inj.1 h
theorem size_list (s : ByteArray) : s.size = s.data.toList.length := by simp
theorem hash_take (l : List UInt8) (h : l.length = 32) : (l.map bC8).take 32 = l.map bC8 := List.take_of_length_le (by simp [h])
theorem eq_hash1 (l : List UInt8) (h : l.length = 32) : eqM (List.replicate 32 0) (up (l.map bC8)) (up (l.map bC8)) = some true := by rw [eq_hash l l h h]; simp
end Go.Av

set_option linter.unusedVariables false
set_option linter.unusedSimpArgs false
set_option maxRecDepth 100000
set_option maxHeartbeats 4000000
namespace Go.Av
open Go Go.Proofs Go.Proofs.Ytofomnllcmgfeaa Go.RowKit
/-! ### tag -/
theorem join_two (a b : ByteArray) : joinS [a, b] ⟨#[]⟩ = a.data.toList ++ b.data.toList := by simp [joinS, Lib.join, List.intercalate]
theorem join_one' (a : ByteArray) : joinS [a] ⟨#[]⟩ = a.data.toList := by simp [joinS, Lib.join, List.intercalate]
theorem text_den (t : UInt8) (xs : List ByteArray) (n : Nat) (full : Bool) (hn : xs.length = n) (hN : n ≤ 1000000) (hl : (joinS xs ⟨#[]⟩).length ≤ 140737488355328) :
    DenV Try.prog 118 [.c (.v (.int .u8 (t.toNat : Int))), .c (.sl (xs.map fun s => .v (.string s)) n full)] (.c (.v (.string (bsS (t :: joinS xs ⟨#[]⟩))))) := by
  refine Den.frame rfl rfl ?_
  refine den_of Try.func118 rfl rfl (by simp [Try.ntmps118]) (fun X hX hO => ?_)
  rw [Try.ntmps118] at hX
  simp only [Try.results118]
  have h1 : (⟨#[t]⟩ : ByteArray) = bsS [t] := rfl
  have h2 := bs_append [t] (joinS xs ⟨#[]⟩)
  have h3 : 1 + (joinS xs ⟨#[]⟩).length ≤ 9223372036854775807 := by omega
  have h4 : UInt8.ofNat t.toNat = t := by simp
  repeat' (first 
   | (with_reducible first | refine awp_scope ?_ | refine awp_seq ?_ | refine awp_block ?_)
   | ((with_reducible first | refine awp_label ?_ | refine awp_skip ?_); try simp only [thenA, inBlockA, noGotoA])
   | (with_reducible refine awp_exit ?_; simp only [thenA, inBlockA, noGotoA, if_true, Nat.reduceEqDiff, if_false, ↓reduceIte])
   | (with_reducible refine awp_ret ?_; (try simp only [thenA, inBlockA, noGotoA]); (try simp [-List.reduceReplicate, Nat.add_one_le_iff, -getElem?_pos, -getElem?_neg, List.getElem?_cons_zero, List.getElem?_cons_succ, h1, bs_append, bs_size, h3, h4]))
   | ((with_reducible first | refine awp_reg 11 hX [0, 1, 4] ?_ | refine awp_drw 11 hX [0, 1, 4] Tab.mixed (by kernel_rfl) ?_ | refine DEv_cut _ _ _ _ _ _ _ _ _ _ _ _ (by kernel_rfl) ?_ | change postOf _ _ _ _ _); simp [-List.reduceReplicate, Nat.add_one_le_iff, -getElem?_pos, -getElem?_neg, List.getElem?_cons_zero, List.getElem?_cons_succ, h1, bs_append, bs_size, h3, h4])
   | ((first | ((with_reducible refine Den.at_ (f := 127) ?_); refine (join_den xs ⟨#[]⟩ n full hn hN hl _).det ?_) | ((with_reducible refine drawn_at (f := 127) ?_); refine ⟨_, _, join_den xs ⟨#[]⟩ n full hn hN hl _, fun _ => rfl, ?_⟩)); try simp [-List.reduceReplicate, Nat.add_one_le_iff, -getElem?_pos, -getElem?_neg, List.getElem?_cons_zero, List.getElem?_cons_succ, h1, bs_append, bs_size, h3, h4])
   | (with_reducible refine awp_if_b rfl (fun hc => ?_) (fun hc => ?_) <;> (try simp [-getElem?_pos, -getElem?_neg] at hc) <;> (try (exfalso; omega)))
   | ((with_reducible first | refine GuardK_b (fun hc => ?_) (fun hc => ?_) | refine DGuard_b _ _ _ _ _ _ _ _ _ _ (fun hc => ?_) (fun hc => ?_)) <;> (try simp only [Bool.not_eq_true', Bool.not_eq_false', decide_eq_true_eq, decide_eq_false_iff_not] at hc) <;> (first | (exfalso; omega) | skip) <;> simp [-List.reduceReplicate, Nat.add_one_le_iff, -getElem?_pos, -getElem?_neg, List.getElem?_cons_zero, List.getElem?_cons_succ, h1, bs_append, bs_size, h3, h4, hc])
   | (with_reducible refine And.intro (by omega) ?_)
   | fail)
def leafT (s : ByteArray) : List UInt8 := 0 :: s.data.toList
def headT (s : ByteArray) : List UInt8 := 3 :: s.data.toList
def nodeT (a b : List UInt8) : List UInt8 := 1 :: (a ++ b)
def rootT (n : Nat) (a : List UInt8) : List UInt8 := 2 :: (putN n 8 ++ a)
theorem headerText_den (s : ByteArray) (hs : s.size ≤ 140737488355328) : DenV Try.prog 104 [.c (.v (.string s))] (.c (.v (.string (bsS (headT s))))) := by
  refine Den.frame rfl rfl ?_
  refine den_of Try.func104 rfl rfl (by simp [Try.ntmps104]) (fun X hX hO => ?_)
  rw [Try.ntmps104] at hX
  simp only [Try.results104]
  have h := text_den 3 [s] 1 true rfl (by omega) (by rw [join_one', ← size_list]; exact hs)
  rw [join_one'] at h
  repeat' (first 
   | (with_reducible first | refine awp_scope ?_ | refine awp_seq ?_ | refine awp_block ?_)
   | ((with_reducible first | refine awp_label ?_ | refine awp_skip ?_); try simp only [thenA, inBlockA, noGotoA])
   | (with_reducible refine awp_exit ?_; simp only [thenA, inBlockA, noGotoA, if_true, Nat.reduceEqDiff, if_false, ↓reduceIte])
   | (with_reducible refine awp_ret ?_; (try simp only [thenA, inBlockA, noGotoA]); (try simp [-List.reduceReplicate, Nat.add_one_le_iff, -getElem?_pos, -getElem?_neg, List.getElem?_cons_zero, List.getElem?_cons_succ, headT]))
   | ((with_reducible first | refine awp_reg 6 hX [0, 2] ?_ | change postOf _ _ _ _ _); simp [-List.reduceReplicate, Nat.add_one_le_iff, -getElem?_pos, -getElem?_neg, List.getElem?_cons_zero, List.getElem?_cons_succ, headT])
   | ((first | (refine (h _).det ?_)); try simp [-List.reduceReplicate, Nat.add_one_le_iff, -getElem?_pos, -getElem?_neg, List.getElem?_cons_zero, List.getElem?_cons_succ, headT])
   | (with_reducible refine awp_if_b rfl (fun hc => ?_) (fun hc => ?_) <;> (try simp [-getElem?_pos, -getElem?_neg] at hc) <;> (try (exfalso; omega)))
   | ((with_reducible first | refine GuardK_b (fun hc => ?_) (fun hc => ?_)) <;> (try simp only [Bool.not_eq_true', Bool.not_eq_false', decide_eq_true_eq, decide_eq_false_iff_not] at hc) <;> (first | (exfalso; omega) | skip) <;> simp [-List.reduceReplicate, Nat.add_one_le_iff, -getElem?_pos, -getElem?_neg, List.getElem?_cons_zero, List.getElem?_cons_succ, headT, hc])
   | (with_reducible refine And.intro (by omega) ?_)
   | fail)
theorem bs_list (l : List UInt8) : (bsS l).data.toList = l := rfl
theorem bs_cons (t : UInt8) (s : ByteArray) : bsS [t] ++ s = bsS (t :: s.data.toList) := by
  rw [← bs_data s, bs_append]; rfl
theorem headerText03_den (s : ByteArray) (hs : s.size ≤ 140737488355328) : DenV Try.prog 97 [.c (.v (.string s))] (.c (.v (.string (bsS (headT s))))) := by
  refine Den.frame rfl rfl ?_
  refine den_of Try.func97 rfl rfl (by simp [Try.ntmps97]) (fun X hX hO => ?_)
  rw [Try.ntmps97] at hX
  simp only [Try.results97]
  have z : bsS [UInt8.ofNat (3 % 256 : Int).toNat] = bsS [3] := rfl
  have h := bs_cons 3 s
  have h1 : 1 + s.size ≤ 9223372036854775807 := by omega
  repeat' (first 
   | (with_reducible first | refine awp_scope ?_ | refine awp_seq ?_ | refine awp_block ?_)
   | ((with_reducible first | refine awp_label ?_ | refine awp_skip ?_); try simp only [thenA, inBlockA, noGotoA])
   | (with_reducible refine awp_exit ?_; simp only [thenA, inBlockA, noGotoA, if_true, Nat.reduceEqDiff, if_false, ↓reduceIte])
   | (with_reducible refine awp_ret ?_; (try simp only [thenA, inBlockA, noGotoA]); (try simp [-List.reduceReplicate, Nat.add_one_le_iff, -getElem?_pos, -getElem?_neg, List.getElem?_cons_zero, List.getElem?_cons_succ, z, h, h1, bs_size, headT]))
   | ((with_reducible first | refine awp_reg 6 hX [0, 2] ?_ | change postOf _ _ _ _ _); simp [-List.reduceReplicate, Nat.add_one_le_iff, -getElem?_pos, -getElem?_neg, List.getElem?_cons_zero, List.getElem?_cons_succ, z, h, h1, bs_size, headT])
   | ((first | ((with_reducible refine Den.at_ (f := 111) ?_); refine (byte01_den 3 _).det ?_)); try simp [-List.reduceReplicate, Nat.add_one_le_iff, -getElem?_pos, -getElem?_neg, List.getElem?_cons_zero, List.getElem?_cons_succ, z, h, h1, bs_size, headT])
   | (with_reducible refine awp_if_b rfl (fun hc => ?_) (fun hc => ?_) <;> (try simp [-getElem?_pos, -getElem?_neg] at hc) <;> (try (exfalso; omega)))
   | ((with_reducible first | refine GuardK_b (fun hc => ?_) (fun hc => ?_)) <;> (try simp only [Bool.not_eq_true', Bool.not_eq_false', decide_eq_true_eq, decide_eq_false_iff_not] at hc) <;> (first | (exfalso; omega) | skip) <;> simp [-List.reduceReplicate, Nat.add_one_le_iff, -getElem?_pos, -getElem?_neg, List.getElem?_cons_zero, List.getElem?_cons_succ, z, h, h1, bs_size, headT, hc])
   | (with_reducible refine And.intro (by omega) ?_)
   | fail)
theorem raw_den' (l : List UInt8) (hl : l.length = 32) : DenV Try.prog 112 [hashM l] (.c (.v (.string (bsS l)))) := raw_den l hl
theorem hashes_take (a b : List UInt8) (ha : a.length = 32) : (a.map bC8 ++ b.map bC8).take 32 = a.map bC8 := by
  rw [List.take_append_of_le_length (by simp [ha]), List.take_of_length_le (by simp [ha])]
theorem hashes_drop (a b : List UInt8) (ha : a.length = 32) (hb : b.length = 32) : ((a.map bC8 ++ b.map bC8).drop 32).take 32 = b.map bC8 := by
  rw [List.drop_append_of_le_length (by simp [ha]), List.drop_of_length_le (by simp [ha]), List.nil_append, List.take_of_length_le (by simp [hb])]
end Go.Av

set_option linter.unusedVariables false
set_option linter.unusedSimpArgs false
set_option maxRecDepth 100000
set_option maxHeartbeats 4000000
namespace Go.Av
open Go Go.Proofs Go.Proofs.Ytofomnllcmgfeaa Go.RowKit
/-! ### bytes as words -/
def u32C (n : Nat) : C := .v (.int .u32 (n : Int))
theorem put32_den (x : Nat) (hx : x < 4294967296) : DenV Try.prog 105 [.c (u32C x)] (.c (.v (.string (bsS (putN x 4))))) := by
  refine Den.frame rfl rfl ?_
  refine den_of Try.func105 rfl rfl (by simp [Try.ntmps105]) (fun X hX hO => ?_)
  rw [Try.ntmps105] at hX
  simp only [Try.results105]
  have h := wrapU64 (x : Int) (by omega)
  repeat' (first 
   | (with_reducible first | refine awp_scope ?_ | refine awp_seq ?_ | refine awp_block ?_)
   | ((with_reducible first | refine awp_label ?_ | refine awp_skip ?_); try simp only [thenA, inBlockA, noGotoA])
   | (with_reducible refine awp_exit ?_; simp only [thenA, inBlockA, noGotoA, if_true, Nat.reduceEqDiff, if_false, ↓reduceIte])
   | (with_reducible refine awp_ret ?_; (try simp only [thenA, inBlockA, noGotoA]); (try simp [-List.reduceReplicate, Nat.add_one_le_iff, -getElem?_pos, -getElem?_neg, List.getElem?_cons_zero, List.getElem?_cons_succ, u32C, u64C, h]))
   | ((with_reducible first | refine awp_reg 6 hX [0, 2] ?_ | change postOf _ _ _ _ _); simp [-List.reduceReplicate, Nat.add_one_le_iff, -getElem?_pos, -getElem?_neg, List.getElem?_cons_zero, List.getElem?_cons_succ, u32C, u64C, h])
   | ((first | ((with_reducible refine Den.at_ (f := 119) ?_); refine (put_den x 4 (by omega) (by omega) _).det ?_)); try simp [-List.reduceReplicate, Nat.add_one_le_iff, -getElem?_pos, -getElem?_neg, List.getElem?_cons_zero, List.getElem?_cons_succ, u32C, u64C, h])
   | (with_reducible refine awp_if_b rfl (fun hc => ?_) (fun hc => ?_) <;> (try simp [-getElem?_pos, -getElem?_neg] at hc) <;> (try (exfalso; omega)))
   | ((with_reducible first | refine GuardK_b (fun hc => ?_) (fun hc => ?_)) <;> (try simp only [Bool.not_eq_true', Bool.not_eq_false', decide_eq_true_eq, decide_eq_false_iff_not] at hc) <;> (first | (exfalso; omega) | skip) <;> simp [-List.reduceReplicate, Nat.add_one_le_iff, -getElem?_pos, -getElem?_neg, List.getElem?_cons_zero, List.getElem?_cons_succ, u32C, u64C, h, hc])
   | (with_reducible refine And.intro (by omega) ?_)
   | fail)
def byteI (b : ByteArray) (at_ : Int) (i : Nat) : Nat := if 0 ≤ at_ ∧ at_ + i < b.size then (b.data.toList.getD (at_ + i).toNat 0).toNat else 0
theorem byteI_lt (b : ByteArray) (at_ : Int) (i : Nat) : byteI b at_ i < 256 := by
  unfold byteI
  split
  · exact (b.data.toList.getD (at_ + i).toNat 0).toNat_lt
  · omega
def takeN (b : ByteArray) (at_ : Int) : Nat → Nat
  | 0 => 0
  | n + 1 => takeN b at_ n * 256 + byteI b at_ n
theorem takeN_lt (b : ByteArray) (at_ : Int) (n : Nat) : takeN b at_ n < 256 ^ n := by
  induction n with
  | zero => simp [takeN]
  | succ n ih =>
    have := byteI_lt b at_ n
    rw [takeN, Nat.pow_succ]
    omega
theorem takeN_u64 (b : ByteArray) (at_ : Int) (n : Nat) (h : n ≤ 8) : takeN b at_ n < 18446744073709551616 := by
  have h1 := takeN_lt b at_ n
  have h2 : 256 ^ n ≤ 256 ^ 8 := Nat.pow_le_pow_right (by omega) h
  have h3 : 256 ^ 8 = 18446744073709551616 := by decide
  omega
theorem take_den (b : ByteArray) (at_ : Int) (n : Nat) (hat : -9223372036854775808 ≤ at_ ∧ at_ ≤ 9223372036854775807) (hb : b.size ≤ 9223372036854775807) (hn : n ≤ 8) : DenV Try.prog 114 [.c (.v (.string b)), .c (iC at_), .c (iC n)] (.c (u64C (takeN b at_ n))) := by
  refine Den.frame rfl rfl ?_
  refine den_of Try.func114 rfl rfl (by simp [Try.ntmps114]) (fun X hX hO => ?_)
  rw [Try.ntmps114] at hX
  simp only [Try.results114]
  repeat' (first 
   | (with_reducible first | refine awp_scope ?_ | refine awp_seq ?_ | refine awp_block ?_)
   | ((with_reducible first | refine awp_label ?_ | refine awp_skip ?_); try simp only [thenA, inBlockA, noGotoA])
   | (with_reducible refine awp_exit ?_; simp only [thenA, inBlockA, noGotoA, if_true, Nat.reduceEqDiff, if_false, ↓reduceIte])
   | (with_reducible refine awp_ret ?_; (try simp only [thenA, inBlockA, noGotoA]); (try simp [-List.reduceReplicate, Nat.add_one_le_iff, -getElem?_pos, -getElem?_neg, List.getElem?_cons_zero, List.getElem?_cons_succ, u64C, iC]))
   | ((with_reducible first | refine awp_reg 41 hX [0, 1, 2, 6, 7, 8, 9, 10, 11, 30] ?_ | change postOf _ _ _ _ _); simp [-List.reduceReplicate, Nat.add_one_le_iff, -getElem?_pos, -getElem?_neg, List.getElem?_cons_zero, List.getElem?_cons_succ, u64C, iC])
   | (with_reducible refine awp_if_b rfl (fun hc => ?_) (fun hc => ?_) <;> (try simp [-getElem?_pos, -getElem?_neg] at hc) <;> (try (exfalso; omega)))
   | ((with_reducible first | refine GuardK_b (fun hc => ?_) (fun hc => ?_)) <;> (try simp only [Bool.not_eq_true', Bool.not_eq_false', decide_eq_true_eq, decide_eq_false_iff_not] at hc) <;> (first | (exfalso; omega) | skip) <;> simp [-List.reduceReplicate, Nat.add_one_le_iff, -getElem?_pos, -getElem?_neg, List.getElem?_cons_zero, List.getElem?_cons_succ, u64C, iC, hc])
   | ((with_reducible first | refine hother _ _ rfl ?_); simp only [inBlockA, thenA, noGotoA, Nat.reduceEqDiff, if_false, if_true, ↓reduceIte])
   | (with_reducible refine And.intro (by omega) ?_)
   | fail)
  refine awp_forU [0, 1, 7, 9, 10] (fun i (_u : Unit) => [(7, .c (u64C (takeN b at_ i))), (10, .c (iC i))]) (fun i (_u : Unit) => []) (fun i (_u : Unit) => True) (n) (()) (by first | trivial | (simp; done) | omega | (intros; simp at *; done)) (by simp [-List.reduceReplicate, keep, u64C, iC, takeN]) (by simp [-List.reduceReplicate, u64C, iC, takeN]) ?_
  rintro i _u Q1 hi hH next hother
  conv => arg 5; arg 1; simp only [List.cons_append, List.nil_append, keep, get, Nat.reduceEqDiff, if_true, if_false, ↓reduceIte]
  have hwi := wrap_in ((i : Int) + 1) (by omega)
  by_cases hlt : i < n
  · have h1 := takeN_u64 b at_ i (by omega)
    have h2 := takeN_u64 b at_ (i + 1) (by omega)
    have hbl := byteI_lt b at_ i
    have hst : takeN b at_ (i + 1) = takeN b at_ i * 256 + byteI b at_ i := rfl
    have hw : IntKind.u64.wrap (((takeN b at_ i : Nat) : Int) * 256) = ((takeN b at_ i * 256 : Nat) : Int) := (wrapU64 _ (by omega)).trans (by omega)
    have hor := orU .u64 (takeN b at_ i * 256) (byteI b at_ i) (by show _ < 2 ^ 64; omega) (by show _ < 2 ^ 64; omega) rfl
    rw [or_byte _ _ hbl, ← hst, show ((takeN b at_ i * 256 : Nat) : Int) = (takeN b at_ i : Int) * 256 by omega] at hor
    by_cases c1 : 0 ≤ at_
    · by_cases c2 : at_ < b.size
      · have w1 := wrap_in ((b.size : Int) - at_) (by omega)
        by_cases c3 : (i : Int) < (b.size : Int) - at_
        · have hby : byteI b at_ i = (b.toList.getD (at_ + i).toNat 0).toNat := by unfold byteI; rw [if_pos ⟨c1, by omega⟩, toList_data]
          have w2 := wrap_in (at_ + (i : Int)) (by omega)
          have hbi : byteAt b (at_ + i).toNat = (byteI b at_ i : Int) := by unfold byteAt; rw [hby]
          have w3 := wrapU64 ((byteI b at_ i : Nat) : Int) (by omega)
          have c4 : 0 ≤ at_ + (i : Int) := by omega
          have c5 : at_ + (i : Int) < b.size := by omega
          repeat' (first 
           | (with_reducible first | refine awp_scope ?_ | refine awp_seq ?_ | refine awp_block ?_)
           | ((with_reducible first | refine awp_label ?_ | refine awp_skip ?_); try simp only [thenA, inBlockA, noGotoA])
           | (with_reducible refine awp_exit ?_; simp only [thenA, inBlockA, noGotoA, if_true, Nat.reduceEqDiff, if_false, ↓reduceIte])
           | (with_reducible refine awp_ret ?_; (try simp only [thenA, inBlockA, noGotoA]); (try simp [-List.reduceReplicate, Nat.add_one_le_iff, -getElem?_pos, -getElem?_neg, List.getElem?_cons_zero, List.getElem?_cons_succ, u64C, iC, hlt, hwi, hw, c1, c2, c3, c4, c5, w1, w2, w3, hbi, hor, IntKind.bits]))
           | ((with_reducible first | refine awp_reg 41 hX [0, 1, 2, 6, 7, 8, 9, 10, 11, 30] ?_ | change postOf _ _ _ _ _); simp [-List.reduceReplicate, Nat.add_one_le_iff, -getElem?_pos, -getElem?_neg, List.getElem?_cons_zero, List.getElem?_cons_succ, u64C, iC, hlt, hwi, hw, c1, c2, c3, c4, c5, w1, w2, w3, hbi, hor, IntKind.bits])
           | (with_reducible refine awp_if_b rfl (fun hc => ?_) (fun hc => ?_) <;> (try simp [-getElem?_pos, -getElem?_neg] at hc) <;> (try (exfalso; omega)))
           | ((with_reducible first | refine GuardK_b (fun hc => ?_) (fun hc => ?_)) <;> (try simp only [Bool.not_eq_true', Bool.not_eq_false', decide_eq_true_eq, decide_eq_false_iff_not] at hc) <;> (first | (exfalso; omega) | skip) <;> simp [-List.reduceReplicate, Nat.add_one_le_iff, -getElem?_pos, -getElem?_neg, List.getElem?_cons_zero, List.getElem?_cons_succ, u64C, iC, hlt, hwi, hw, c1, c2, c3, c4, c5, w1, w2, w3, hbi, hor, IntKind.bits, hc])
           | ((with_reducible first | refine hother _ _ rfl ?_); simp only [inBlockA, thenA, noGotoA, Nat.reduceEqDiff, if_false, if_true, ↓reduceIte])
           | (with_reducible refine And.intro (by omega) ?_)
           | fail)
          refine next _ _ (()) (by omega) (by first | trivial | omega | assumption) (by simp [-List.reduceReplicate, keep, u64C, iC]) (by simp [-List.reduceReplicate, u64C, iC])
        · have hz : byteI b at_ i = 0 := by unfold byteI; rw [if_neg (by omega)]
          repeat' (first 
           | (with_reducible first | refine awp_scope ?_ | refine awp_seq ?_ | refine awp_block ?_)
           | ((with_reducible first | refine awp_label ?_ | refine awp_skip ?_); try simp only [thenA, inBlockA, noGotoA])
           | (with_reducible refine awp_exit ?_; simp only [thenA, inBlockA, noGotoA, if_true, Nat.reduceEqDiff, if_false, ↓reduceIte])
           | (with_reducible refine awp_ret ?_; (try simp only [thenA, inBlockA, noGotoA]); (try simp [-List.reduceReplicate, Nat.add_one_le_iff, -getElem?_pos, -getElem?_neg, List.getElem?_cons_zero, List.getElem?_cons_succ, u64C, iC, hlt, hwi, hw, c1, c2, c3, w1, IntKind.bits]))
           | ((with_reducible first | refine awp_reg 41 hX [0, 1, 2, 6, 7, 8, 9, 10, 11, 30] ?_ | change postOf _ _ _ _ _); simp [-List.reduceReplicate, Nat.add_one_le_iff, -getElem?_pos, -getElem?_neg, List.getElem?_cons_zero, List.getElem?_cons_succ, u64C, iC, hlt, hwi, hw, c1, c2, c3, w1, IntKind.bits])
           | (with_reducible refine awp_if_b rfl (fun hc => ?_) (fun hc => ?_) <;> (try simp [-getElem?_pos, -getElem?_neg] at hc) <;> (try (exfalso; omega)))
           | ((with_reducible first | refine GuardK_b (fun hc => ?_) (fun hc => ?_)) <;> (try simp only [Bool.not_eq_true', Bool.not_eq_false', decide_eq_true_eq, decide_eq_false_iff_not] at hc) <;> (first | (exfalso; omega) | skip) <;> simp [-List.reduceReplicate, Nat.add_one_le_iff, -getElem?_pos, -getElem?_neg, List.getElem?_cons_zero, List.getElem?_cons_succ, u64C, iC, hlt, hwi, hw, c1, c2, c3, w1, IntKind.bits, hc])
           | ((with_reducible first | refine hother _ _ rfl ?_); simp only [inBlockA, thenA, noGotoA, Nat.reduceEqDiff, if_false, if_true, ↓reduceIte])
           | (with_reducible refine And.intro (by omega) ?_)
           | fail)
          refine next _ _ (()) (by omega) (by first | trivial | omega | assumption) (by simp [-List.reduceReplicate, keep, u64C, iC, takeN, hz]) (by simp [-List.reduceReplicate, u64C, iC, takeN, hz])
      · have hz : byteI b at_ i = 0 := by unfold byteI; rw [if_neg (by omega)]
        repeat' (first 
         | (with_reducible first | refine awp_scope ?_ | refine awp_seq ?_ | refine awp_block ?_)
         | ((with_reducible first | refine awp_label ?_ | refine awp_skip ?_); try simp only [thenA, inBlockA, noGotoA])
         | (with_reducible refine awp_exit ?_; simp only [thenA, inBlockA, noGotoA, if_true, Nat.reduceEqDiff, if_false, ↓reduceIte])
         | (with_reducible refine awp_ret ?_; (try simp only [thenA, inBlockA, noGotoA]); (try simp [-List.reduceReplicate, Nat.add_one_le_iff, -getElem?_pos, -getElem?_neg, List.getElem?_cons_zero, List.getElem?_cons_succ, u64C, iC, hlt, hwi, hw, c1, c2, IntKind.bits]))
         | ((with_reducible first | refine awp_reg 41 hX [0, 1, 2, 6, 7, 8, 9, 10, 11, 30] ?_ | change postOf _ _ _ _ _); simp [-List.reduceReplicate, Nat.add_one_le_iff, -getElem?_pos, -getElem?_neg, List.getElem?_cons_zero, List.getElem?_cons_succ, u64C, iC, hlt, hwi, hw, c1, c2, IntKind.bits])
         | (with_reducible refine awp_if_b rfl (fun hc => ?_) (fun hc => ?_) <;> (try simp [-getElem?_pos, -getElem?_neg] at hc) <;> (try (exfalso; omega)))
         | ((with_reducible first | refine GuardK_b (fun hc => ?_) (fun hc => ?_)) <;> (try simp only [Bool.not_eq_true', Bool.not_eq_false', decide_eq_true_eq, decide_eq_false_iff_not] at hc) <;> (first | (exfalso; omega) | skip) <;> simp [-List.reduceReplicate, Nat.add_one_le_iff, -getElem?_pos, -getElem?_neg, List.getElem?_cons_zero, List.getElem?_cons_succ, u64C, iC, hlt, hwi, hw, c1, c2, IntKind.bits, hc])
         | ((with_reducible first | refine hother _ _ rfl ?_); simp only [inBlockA, thenA, noGotoA, Nat.reduceEqDiff, if_false, if_true, ↓reduceIte])
         | (with_reducible refine And.intro (by omega) ?_)
         | fail)
        refine next _ _ (()) (by omega) (by first | trivial | omega | assumption) (by simp [-List.reduceReplicate, keep, u64C, iC, takeN, hz]) (by simp [-List.reduceReplicate, u64C, iC, takeN, hz])
    · have hz : byteI b at_ i = 0 := by unfold byteI; rw [if_neg (by omega)]
      repeat' (first 
       | (with_reducible first | refine awp_scope ?_ | refine awp_seq ?_ | refine awp_block ?_)
       | ((with_reducible first | refine awp_label ?_ | refine awp_skip ?_); try simp only [thenA, inBlockA, noGotoA])
       | (with_reducible refine awp_exit ?_; simp only [thenA, inBlockA, noGotoA, if_true, Nat.reduceEqDiff, if_false, ↓reduceIte])
       | (with_reducible refine awp_ret ?_; (try simp only [thenA, inBlockA, noGotoA]); (try simp [-List.reduceReplicate, Nat.add_one_le_iff, -getElem?_pos, -getElem?_neg, List.getElem?_cons_zero, List.getElem?_cons_succ, u64C, iC, hlt, hwi, hw, c1, IntKind.bits]))
       | ((with_reducible first | refine awp_reg 41 hX [0, 1, 2, 6, 7, 8, 9, 10, 11, 30] ?_ | change postOf _ _ _ _ _); simp [-List.reduceReplicate, Nat.add_one_le_iff, -getElem?_pos, -getElem?_neg, List.getElem?_cons_zero, List.getElem?_cons_succ, u64C, iC, hlt, hwi, hw, c1, IntKind.bits])
       | (with_reducible refine awp_if_b rfl (fun hc => ?_) (fun hc => ?_) <;> (try simp [-getElem?_pos, -getElem?_neg] at hc) <;> (try (exfalso; omega)))
       | ((with_reducible first | refine GuardK_b (fun hc => ?_) (fun hc => ?_)) <;> (try simp only [Bool.not_eq_true', Bool.not_eq_false', decide_eq_true_eq, decide_eq_false_iff_not] at hc) <;> (first | (exfalso; omega) | skip) <;> simp [-List.reduceReplicate, Nat.add_one_le_iff, -getElem?_pos, -getElem?_neg, List.getElem?_cons_zero, List.getElem?_cons_succ, u64C, iC, hlt, hwi, hw, c1, IntKind.bits, hc])
       | ((with_reducible first | refine hother _ _ rfl ?_); simp only [inBlockA, thenA, noGotoA, Nat.reduceEqDiff, if_false, if_true, ↓reduceIte])
       | (with_reducible refine And.intro (by omega) ?_)
       | fail)
      refine next _ _ (()) (by omega) (by first | trivial | omega | assumption) (by simp [-List.reduceReplicate, keep, u64C, iC, takeN, hz]) (by simp [-List.reduceReplicate, u64C, iC, takeN, hz])
  · have hin : i = n := by omega
    subst hin
    repeat' (first 
     | (with_reducible first | refine awp_scope ?_ | refine awp_seq ?_ | refine awp_block ?_)
     | ((with_reducible first | refine awp_label ?_ | refine awp_skip ?_); try simp only [thenA, inBlockA, noGotoA])
     | (with_reducible refine awp_exit ?_; simp only [thenA, inBlockA, noGotoA, if_true, Nat.reduceEqDiff, if_false, ↓reduceIte])
     | (with_reducible refine awp_ret ?_; (try simp only [thenA, inBlockA, noGotoA]); (try simp [-List.reduceReplicate, Nat.add_one_le_iff, -getElem?_pos, -getElem?_neg, List.getElem?_cons_zero, List.getElem?_cons_succ, u64C, iC, hlt]))
     | ((with_reducible first | refine awp_reg 41 hX [0, 1, 2, 6, 7, 8, 9, 10, 11, 30] ?_ | change postOf _ _ _ _ _); simp [-List.reduceReplicate, Nat.add_one_le_iff, -getElem?_pos, -getElem?_neg, List.getElem?_cons_zero, List.getElem?_cons_succ, u64C, iC, hlt])
     | (with_reducible refine awp_if_b rfl (fun hc => ?_) (fun hc => ?_) <;> (try simp [-getElem?_pos, -getElem?_neg] at hc) <;> (try (exfalso; omega)))
     | ((with_reducible first | refine GuardK_b (fun hc => ?_) (fun hc => ?_)) <;> (try simp only [Bool.not_eq_true', Bool.not_eq_false', decide_eq_true_eq, decide_eq_false_iff_not] at hc) <;> (first | (exfalso; omega) | skip) <;> simp [-List.reduceReplicate, Nat.add_one_le_iff, -getElem?_pos, -getElem?_neg, List.getElem?_cons_zero, List.getElem?_cons_succ, u64C, iC, hlt, hc])
     | ((with_reducible first | refine hother _ _ rfl ?_); simp only [inBlockA, thenA, noGotoA, Nat.reduceEqDiff, if_false, if_true, ↓reduceIte])
     | (with_reducible refine And.intro (by omega) ?_)
     | fail)
theorem take32_den (b : ByteArray) (at_ : Int) (hat : -9223372036854775808 ≤ at_ ∧ at_ ≤ 9223372036854775807) (hb : b.size ≤ 9223372036854775807) : DenV Try.prog 136 [.c (.v (.string b)), .c (iC at_)] (.c (u32C (takeN b at_ 4))) := by
  refine Den.frame rfl rfl ?_
  refine den_of Try.func136 rfl rfl (by simp [Try.ntmps136]) (fun X hX hO => ?_)
  rw [Try.ntmps136] at hX
  simp only [Try.results136]
  have h1 := takeN_lt b at_ 4
  have h := wrapU32 (takeN b at_ 4 : Int) (by omega)
  repeat' (first 
   | (with_reducible first | refine awp_scope ?_ | refine awp_seq ?_ | refine awp_block ?_)
   | ((with_reducible first | refine awp_label ?_ | refine awp_skip ?_); try simp only [thenA, inBlockA, noGotoA])
   | (with_reducible refine awp_exit ?_; simp only [thenA, inBlockA, noGotoA, if_true, Nat.reduceEqDiff, if_false, ↓reduceIte])
   | (with_reducible refine awp_ret ?_; (try simp only [thenA, inBlockA, noGotoA]); (try simp [-List.reduceReplicate, Nat.add_one_le_iff, -getElem?_pos, -getElem?_neg, List.getElem?_cons_zero, List.getElem?_cons_succ, u32C, u64C, iC, h]))
   | ((with_reducible first | refine awp_reg 9 hX [0, 1, 4] ?_ | change postOf _ _ _ _ _); simp [-List.reduceReplicate, Nat.add_one_le_iff, -getElem?_pos, -getElem?_neg, List.getElem?_cons_zero, List.getElem?_cons_succ, u32C, u64C, iC, h])
   | ((first | ((with_reducible refine Den.at_ (f := 114) ?_); refine (take_den b at_ 4 hat hb (by omega) _).det ?_)); try simp [-List.reduceReplicate, Nat.add_one_le_iff, -getElem?_pos, -getElem?_neg, List.getElem?_cons_zero, List.getElem?_cons_succ, u32C, u64C, iC, h])
   | (with_reducible refine awp_if_b rfl (fun hc => ?_) (fun hc => ?_) <;> (try simp [-getElem?_pos, -getElem?_neg] at hc) <;> (try (exfalso; omega)))
   | ((with_reducible first | refine GuardK_b (fun hc => ?_) (fun hc => ?_)) <;> (try simp only [Bool.not_eq_true', Bool.not_eq_false', decide_eq_true_eq, decide_eq_false_iff_not] at hc) <;> (first | (exfalso; omega) | skip) <;> simp [-List.reduceReplicate, Nat.add_one_le_iff, -getElem?_pos, -getElem?_neg, List.getElem?_cons_zero, List.getElem?_cons_succ, u32C, u64C, iC, h, hc])
   | (with_reducible refine And.intro (by omega) ?_)
   | fail)
theorem take01_den (b : ByteArray) (at_ : Int) (n : Nat) (hat : -9223372036854775808 ≤ at_ ∧ at_ ≤ 9223372036854775807) (hb : b.size ≤ 9223372036854775807) (hn : n ≤ 8) : DenV Try.prog 128 [.c (.v (.string b)), .c (iC at_), .c (iC n)] (.c (u64C (takeN b at_ n))) := by
  refine Den.frame rfl rfl ?_
  refine den_of Try.func128 rfl rfl (by simp [Try.ntmps128]) (fun X hX hO => ?_)
  rw [Try.ntmps128] at hX
  simp only [Try.results128]
  repeat' (first 
   | (with_reducible first | refine awp_scope ?_ | refine awp_seq ?_ | refine awp_block ?_)
   | ((with_reducible first | refine awp_label ?_ | refine awp_skip ?_); try simp only [thenA, inBlockA, noGotoA])
   | (with_reducible refine awp_exit ?_; simp only [thenA, inBlockA, noGotoA, if_true, Nat.reduceEqDiff, if_false, ↓reduceIte])
   | (with_reducible refine awp_ret ?_; (try simp only [thenA, inBlockA, noGotoA]); (try simp [-List.reduceReplicate, Nat.add_one_le_iff, -getElem?_pos, -getElem?_neg, List.getElem?_cons_zero, List.getElem?_cons_succ, u64C, iC]))
   | ((with_reducible first | refine awp_reg 41 hX [0, 1, 2, 6, 7, 8, 11, 31] ?_ | change postOf _ _ _ _ _); simp [-List.reduceReplicate, Nat.add_one_le_iff, -getElem?_pos, -getElem?_neg, List.getElem?_cons_zero, List.getElem?_cons_succ, u64C, iC])
   | (with_reducible refine awp_if_b rfl (fun hc => ?_) (fun hc => ?_) <;> (try simp [-getElem?_pos, -getElem?_neg] at hc) <;> (try (exfalso; omega)))
   | ((with_reducible first | refine GuardK_b (fun hc => ?_) (fun hc => ?_)) <;> (try simp only [Bool.not_eq_true', Bool.not_eq_false', decide_eq_true_eq, decide_eq_false_iff_not] at hc) <;> (first | (exfalso; omega) | skip) <;> simp [-List.reduceReplicate, Nat.add_one_le_iff, -getElem?_pos, -getElem?_neg, List.getElem?_cons_zero, List.getElem?_cons_succ, u64C, iC, hc])
   | ((with_reducible first | refine hother _ _ rfl ?_); simp only [inBlockA, thenA, noGotoA, Nat.reduceEqDiff, if_false, if_true, ↓reduceIte])
   | (with_reducible refine And.intro (by omega) ?_)
   | fail)
  refine awp_forU [0, 1, 2, 7, 8] (fun i (_u : Unit) => [(7, .c (u64C (takeN b at_ i))), (8, .c (iC i))]) (fun i (_u : Unit) => []) (fun i (_u : Unit) => True) (n) (()) (by first | trivial | (simp; done) | omega | (intros; simp at *; done)) (by simp [-List.reduceReplicate, keep, u64C, iC, takeN]) (by simp [-List.reduceReplicate, u64C, iC, takeN]) ?_
  rintro i _u Q1 hi hH next hother
  conv => arg 5; arg 1; simp only [List.cons_append, List.nil_append, keep, get, Nat.reduceEqDiff, if_true, if_false, ↓reduceIte]
  have hwi := wrap_in ((i : Int) + 1) (by omega)
  by_cases hlt : i < n
  · have h1 := takeN_u64 b at_ i (by omega)
    have h2 := takeN_u64 b at_ (i + 1) (by omega)
    have hbl := byteI_lt b at_ i
    have hst : takeN b at_ (i + 1) = takeN b at_ i * 256 + byteI b at_ i := rfl
    have hw : IntKind.u64.wrap (((takeN b at_ i : Nat) : Int) * 256) = ((takeN b at_ i : Nat) : Int) * 256 := wrapU64 _ (by omega)
    have hor : IntKind.u64.wrap ((takeN b at_ i : Int) * 256 + (byteI b at_ i : Int)) = (takeN b at_ (i + 1) : Int) := (wrapU64 _ (by omega)).trans (by omega)
    by_cases c1 : 0 ≤ at_
    · by_cases c2 : at_ < b.size
      · have w1 := wrap_in ((b.size : Int) - at_) (by omega)
        by_cases c3 : (i : Int) < (b.size : Int) - at_
        · have hby : byteI b at_ i = (b.toList.getD (at_ + i).toNat 0).toNat := by unfold byteI; rw [if_pos ⟨c1, by omega⟩, toList_data]
          have w2 := wrap_in (at_ + (i : Int)) (by omega)
          have hbi : byteAt b (at_ + i).toNat = (byteI b at_ i : Int) := by unfold byteAt; rw [hby]
          have w3 := wrapU64 ((byteI b at_ i : Nat) : Int) (by omega)
          have c4 : 0 ≤ at_ + (i : Int) := by omega
          have c5 : at_ + (i : Int) < b.size := by omega
          repeat' (first 
           | (with_reducible first | refine awp_scope ?_ | refine awp_seq ?_ | refine awp_block ?_)
           | ((with_reducible first | refine awp_label ?_ | refine awp_skip ?_); try simp only [thenA, inBlockA, noGotoA])
           | (with_reducible refine awp_exit ?_; simp only [thenA, inBlockA, noGotoA, if_true, Nat.reduceEqDiff, if_false, ↓reduceIte])
           | (with_reducible refine awp_ret ?_; (try simp only [thenA, inBlockA, noGotoA]); (try simp [-List.reduceReplicate, Nat.add_one_le_iff, -getElem?_pos, -getElem?_neg, List.getElem?_cons_zero, List.getElem?_cons_succ, u64C, iC, hlt, hwi, hw, c1, c2, c3, c4, c5, w1, w2, w3, hbi, hor]))
           | ((with_reducible first | refine awp_reg 41 hX [0, 1, 2, 6, 7, 8, 11, 31] ?_ | change postOf _ _ _ _ _); simp [-List.reduceReplicate, Nat.add_one_le_iff, -getElem?_pos, -getElem?_neg, List.getElem?_cons_zero, List.getElem?_cons_succ, u64C, iC, hlt, hwi, hw, c1, c2, c3, c4, c5, w1, w2, w3, hbi, hor])
           | (with_reducible refine awp_if_b rfl (fun hc => ?_) (fun hc => ?_) <;> (try simp [-getElem?_pos, -getElem?_neg] at hc) <;> (try (exfalso; omega)))
           | ((with_reducible first | refine GuardK_b (fun hc => ?_) (fun hc => ?_)) <;> (try simp only [Bool.not_eq_true', Bool.not_eq_false', decide_eq_true_eq, decide_eq_false_iff_not] at hc) <;> (first | (exfalso; omega) | skip) <;> simp [-List.reduceReplicate, Nat.add_one_le_iff, -getElem?_pos, -getElem?_neg, List.getElem?_cons_zero, List.getElem?_cons_succ, u64C, iC, hlt, hwi, hw, c1, c2, c3, c4, c5, w1, w2, w3, hbi, hor, hc])
           | ((with_reducible first | refine hother _ _ rfl ?_); simp only [inBlockA, thenA, noGotoA, Nat.reduceEqDiff, if_false, if_true, ↓reduceIte])
           | (with_reducible refine And.intro (by omega) ?_)
           | fail)
          refine next _ _ (()) (by omega) (by first | trivial | omega | assumption) (by simp [-List.reduceReplicate, keep, u64C, iC]) (by simp [-List.reduceReplicate, u64C, iC])
        · have hz : byteI b at_ i = 0 := by unfold byteI; rw [if_neg (by omega)]
          repeat' (first 
           | (with_reducible first | refine awp_scope ?_ | refine awp_seq ?_ | refine awp_block ?_)
           | ((with_reducible first | refine awp_label ?_ | refine awp_skip ?_); try simp only [thenA, inBlockA, noGotoA])
           | (with_reducible refine awp_exit ?_; simp only [thenA, inBlockA, noGotoA, if_true, Nat.reduceEqDiff, if_false, ↓reduceIte])
           | (with_reducible refine awp_ret ?_; (try simp only [thenA, inBlockA, noGotoA]); (try simp [-List.reduceReplicate, Nat.add_one_le_iff, -getElem?_pos, -getElem?_neg, List.getElem?_cons_zero, List.getElem?_cons_succ, u64C, iC, hlt, hwi, hw, c1, c2, c3, w1]))
           | ((with_reducible first | refine awp_reg 41 hX [0, 1, 2, 6, 7, 8, 11, 31] ?_ | change postOf _ _ _ _ _); simp [-List.reduceReplicate, Nat.add_one_le_iff, -getElem?_pos, -getElem?_neg, List.getElem?_cons_zero, List.getElem?_cons_succ, u64C, iC, hlt, hwi, hw, c1, c2, c3, w1])
           | (with_reducible refine awp_if_b rfl (fun hc => ?_) (fun hc => ?_) <;> (try simp [-getElem?_pos, -getElem?_neg] at hc) <;> (try (exfalso; omega)))
           | ((with_reducible first | refine GuardK_b (fun hc => ?_) (fun hc => ?_)) <;> (try simp only [Bool.not_eq_true', Bool.not_eq_false', decide_eq_true_eq, decide_eq_false_iff_not] at hc) <;> (first | (exfalso; omega) | skip) <;> simp [-List.reduceReplicate, Nat.add_one_le_iff, -getElem?_pos, -getElem?_neg, List.getElem?_cons_zero, List.getElem?_cons_succ, u64C, iC, hlt, hwi, hw, c1, c2, c3, w1, hc])
           | ((with_reducible first | refine hother _ _ rfl ?_); simp only [inBlockA, thenA, noGotoA, Nat.reduceEqDiff, if_false, if_true, ↓reduceIte])
           | (with_reducible refine And.intro (by omega) ?_)
           | fail)
          refine next _ _ (()) (by omega) (by first | trivial | omega | assumption) (by simp [-List.reduceReplicate, keep, u64C, iC, takeN, hz]) (by simp [-List.reduceReplicate, u64C, iC, takeN, hz])
      · have hz : byteI b at_ i = 0 := by unfold byteI; rw [if_neg (by omega)]
        repeat' (first 
         | (with_reducible first | refine awp_scope ?_ | refine awp_seq ?_ | refine awp_block ?_)
         | ((with_reducible first | refine awp_label ?_ | refine awp_skip ?_); try simp only [thenA, inBlockA, noGotoA])
         | (with_reducible refine awp_exit ?_; simp only [thenA, inBlockA, noGotoA, if_true, Nat.reduceEqDiff, if_false, ↓reduceIte])
         | (with_reducible refine awp_ret ?_; (try simp only [thenA, inBlockA, noGotoA]); (try simp [-List.reduceReplicate, Nat.add_one_le_iff, -getElem?_pos, -getElem?_neg, List.getElem?_cons_zero, List.getElem?_cons_succ, u64C, iC, hlt, hwi, hw, c1, c2]))
         | ((with_reducible first | refine awp_reg 41 hX [0, 1, 2, 6, 7, 8, 11, 31] ?_ | change postOf _ _ _ _ _); simp [-List.reduceReplicate, Nat.add_one_le_iff, -getElem?_pos, -getElem?_neg, List.getElem?_cons_zero, List.getElem?_cons_succ, u64C, iC, hlt, hwi, hw, c1, c2])
         | (with_reducible refine awp_if_b rfl (fun hc => ?_) (fun hc => ?_) <;> (try simp [-getElem?_pos, -getElem?_neg] at hc) <;> (try (exfalso; omega)))
         | ((with_reducible first | refine GuardK_b (fun hc => ?_) (fun hc => ?_)) <;> (try simp only [Bool.not_eq_true', Bool.not_eq_false', decide_eq_true_eq, decide_eq_false_iff_not] at hc) <;> (first | (exfalso; omega) | skip) <;> simp [-List.reduceReplicate, Nat.add_one_le_iff, -getElem?_pos, -getElem?_neg, List.getElem?_cons_zero, List.getElem?_cons_succ, u64C, iC, hlt, hwi, hw, c1, c2, hc])
         | ((with_reducible first | refine hother _ _ rfl ?_); simp only [inBlockA, thenA, noGotoA, Nat.reduceEqDiff, if_false, if_true, ↓reduceIte])
         | (with_reducible refine And.intro (by omega) ?_)
         | fail)
        refine next _ _ (()) (by omega) (by first | trivial | omega | assumption) (by simp [-List.reduceReplicate, keep, u64C, iC, takeN, hz]) (by simp [-List.reduceReplicate, u64C, iC, takeN, hz])
    · have hz : byteI b at_ i = 0 := by unfold byteI; rw [if_neg (by omega)]
      repeat' (first 
       | (with_reducible first | refine awp_scope ?_ | refine awp_seq ?_ | refine awp_block ?_)
       | ((with_reducible first | refine awp_label ?_ | refine awp_skip ?_); try simp only [thenA, inBlockA, noGotoA])
       | (with_reducible refine awp_exit ?_; simp only [thenA, inBlockA, noGotoA, if_true, Nat.reduceEqDiff, if_false, ↓reduceIte])
       | (with_reducible refine awp_ret ?_; (try simp only [thenA, inBlockA, noGotoA]); (try simp [-List.reduceReplicate, Nat.add_one_le_iff, -getElem?_pos, -getElem?_neg, List.getElem?_cons_zero, List.getElem?_cons_succ, u64C, iC, hlt, hwi, hw, c1]))
       | ((with_reducible first | refine awp_reg 41 hX [0, 1, 2, 6, 7, 8, 11, 31] ?_ | change postOf _ _ _ _ _); simp [-List.reduceReplicate, Nat.add_one_le_iff, -getElem?_pos, -getElem?_neg, List.getElem?_cons_zero, List.getElem?_cons_succ, u64C, iC, hlt, hwi, hw, c1])
       | (with_reducible refine awp_if_b rfl (fun hc => ?_) (fun hc => ?_) <;> (try simp [-getElem?_pos, -getElem?_neg] at hc) <;> (try (exfalso; omega)))
       | ((with_reducible first | refine GuardK_b (fun hc => ?_) (fun hc => ?_)) <;> (try simp only [Bool.not_eq_true', Bool.not_eq_false', decide_eq_true_eq, decide_eq_false_iff_not] at hc) <;> (first | (exfalso; omega) | skip) <;> simp [-List.reduceReplicate, Nat.add_one_le_iff, -getElem?_pos, -getElem?_neg, List.getElem?_cons_zero, List.getElem?_cons_succ, u64C, iC, hlt, hwi, hw, c1, hc])
       | ((with_reducible first | refine hother _ _ rfl ?_); simp only [inBlockA, thenA, noGotoA, Nat.reduceEqDiff, if_false, if_true, ↓reduceIte])
       | (with_reducible refine And.intro (by omega) ?_)
       | fail)
      refine next _ _ (()) (by omega) (by first | trivial | omega | assumption) (by simp [-List.reduceReplicate, keep, u64C, iC, takeN, hz]) (by simp [-List.reduceReplicate, u64C, iC, takeN, hz])
  · have hin : i = n := by omega
    subst hin
    repeat' (first 
     | (with_reducible first | refine awp_scope ?_ | refine awp_seq ?_ | refine awp_block ?_)
     | ((with_reducible first | refine awp_label ?_ | refine awp_skip ?_); try simp only [thenA, inBlockA, noGotoA])
     | (with_reducible refine awp_exit ?_; simp only [thenA, inBlockA, noGotoA, if_true, Nat.reduceEqDiff, if_false, ↓reduceIte])
     | (with_reducible refine awp_ret ?_; (try simp only [thenA, inBlockA, noGotoA]); (try simp [-List.reduceReplicate, Nat.add_one_le_iff, -getElem?_pos, -getElem?_neg, List.getElem?_cons_zero, List.getElem?_cons_succ, u64C, iC, hlt]))
     | ((with_reducible first | refine awp_reg 41 hX [0, 1, 2, 6, 7, 8, 11, 31] ?_ | change postOf _ _ _ _ _); simp [-List.reduceReplicate, Nat.add_one_le_iff, -getElem?_pos, -getElem?_neg, List.getElem?_cons_zero, List.getElem?_cons_succ, u64C, iC, hlt])
     | (with_reducible refine awp_if_b rfl (fun hc => ?_) (fun hc => ?_) <;> (try simp [-getElem?_pos, -getElem?_neg] at hc) <;> (try (exfalso; omega)))
     | ((with_reducible first | refine GuardK_b (fun hc => ?_) (fun hc => ?_)) <;> (try simp only [Bool.not_eq_true', Bool.not_eq_false', decide_eq_true_eq, decide_eq_false_iff_not] at hc) <;> (first | (exfalso; omega) | skip) <;> simp [-List.reduceReplicate, Nat.add_one_le_iff, -getElem?_pos, -getElem?_neg, List.getElem?_cons_zero, List.getElem?_cons_succ, u64C, iC, hlt, hc])
     | ((with_reducible first | refine hother _ _ rfl ?_); simp only [inBlockA, thenA, noGotoA, Nat.reduceEqDiff, if_false, if_true, ↓reduceIte])
     | (with_reducible refine And.intro (by omega) ?_)
     | fail)
end Go.Av
