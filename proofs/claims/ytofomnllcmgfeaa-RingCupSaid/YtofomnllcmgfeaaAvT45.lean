import Derived.Test.YtofomnllcmgfeaaAvT8
import Derived.Test.YtofomnllcmgfeaaAvEngine3
set_option linter.unusedVariables false
set_option linter.unusedSimpArgs false
set_option maxRecDepth 100000
set_option maxHeartbeats 4000000
namespace Go.Av
open Go Go.Proofs Go.Proofs.Ytofomnllcmgfeaa Go.RowKit
/-! ### cup: the row of runners, a heap -/
open Go.Hp
theorem toList_inj3 (x y : ByteArray) : x.toList = y.toList ↔ x = y := by
  rw [toList_data, toList_data]
  constructor
  · intro h
    cases x; cases y
    simp only [ByteArray.mk.injEq]
    exact Array.toList_inj.1 h
  · intro h; rw [h]
theorem flat_take3 {A B : Type} {f : A → List B} {sz : Nat} (hf : ∀ a, (f a).length = sz) (l : List A) : ∀ (i : Nat) (a : A), l[i]? = some a → ((l.flatMap f).drop (i * sz)).take sz = f a := by
  induction l with
  | nil => intro i a h; simp at h
  | cons x l ih =>
    intro i a h
    simp only [List.flatMap_cons]
    cases i with
    | zero =>
      simp at h
      subst h
      rw [Nat.zero_mul, List.drop_zero, List.take_append_of_le_length (by rw [hf]; exact Nat.le_refl _), List.take_of_length_le (by rw [hf]; exact Nat.le_refl _)]
    | succ i =>
      have hx := hf x
      rw [Nat.add_mul, Nat.one_mul, Nat.add_comm (i * sz) sz, ← List.drop_drop, List.drop_left' hx]
      exact ih i a (by simpa using h)
structure Run where
  at_ : Int
  wins : Int
  key : ByteArray
instance : Inhabited Run := ⟨⟨0, 0, ByteArray.empty⟩⟩
def runrC (r : Run) : List C := [iC r.at_, iC r.wins, sC r.key]
def rlt (a b : Run) : Bool := if a.wins = b.wins then (if a.key.toList = b.key.toList then decide (a.at_ < b.at_) else less a.key b.key) else decide (b.wins < a.wins)
theorem rlt_ord : Ord rlt := by
  have key : ∀ a b : Run, rlt b a = false ↔ (b.wins ≤ a.wins ∧ (a.wins = b.wins → less b.key a.key = false ∧ (b.key.toList = a.key.toList → a.at_ ≤ b.at_))) := fun a b => by
    unfold rlt
    by_cases h : b.wins = a.wins
    · rw [if_pos h]
      by_cases h2 : b.key.toList = a.key.toList
      · rw [if_pos h2]
        have : less b.key a.key = false := by unfold less; rw [h2]; exact bl_irr _
        simp only [decide_eq_false_iff_not]
        constructor
        · intro q; exact ⟨by omega, fun _ => ⟨this, fun _ => by omega⟩⟩
        · intro ⟨_, q⟩; have := (q h.symm).2 h2; omega
      · rw [if_neg h2]
        constructor
        · intro q; exact ⟨by omega, fun _ => ⟨q, fun e => absurd e h2⟩⟩
        · intro ⟨_, q⟩; exact (q h.symm).1
    · rw [if_neg h]
      simp only [decide_eq_false_iff_not]
      constructor
      · intro q; exact ⟨by omega, fun e => absurd e.symm h⟩
      · intro ⟨q, _⟩; omega
  refine ⟨fun a b c h1 h2 => ?_, fun a b => ?_⟩
  · rw [key] at h1 h2 ⊢
    refine ⟨by omega, fun e => ?_⟩
    obtain ⟨p1, p2⟩ := h1.2 (by omega)
    obtain ⟨q1, q2⟩ := h2.2 (by omega)
    unfold less at *
    by_cases e1 : c.key.toList = b.key.toList
    · rw [e1]
      refine ⟨p1, fun e2 => ?_⟩
      have := q2 e1; have := p2 (by rw [← e2])
      omega
    · have c1 : Op.bytesLess b.key.toList c.key.toList = true := by
        cases h : Op.bytesLess b.key.toList c.key.toList with
        | true => rfl
        | false => exact absurd (bl_eq _ _ q1 h) e1
      by_cases e2 : b.key.toList = a.key.toList
      · rw [← e2]
        exact ⟨q1, fun e3 => absurd e3 e1⟩
      · have c2 : Op.bytesLess a.key.toList b.key.toList = true := by
          cases h : Op.bytesLess a.key.toList b.key.toList with
          | true => rfl
          | false => exact absurd (bl_eq _ _ p1 h) e2
        have c3 := bl_trans _ _ _ c2 c1
        refine ⟨bl_asym _ _ c3, fun e3 => ?_⟩
        rw [e3, bl_irr] at c3; simp at c3
  · rw [key, key]
    rcases Int.lt_trichotomy a.wins b.wins with h | h | h
    · exact .inr ⟨by omega, fun e => by omega⟩
    · by_cases e : a.key.toList = b.key.toList
      · unfold less
        rw [e]
        rcases Int.le_total a.at_ b.at_ with h2 | h2
        · exact .inl ⟨by omega, fun _ => ⟨bl_irr _, fun _ => h2⟩⟩
        · exact .inr ⟨by omega, fun _ => ⟨bl_irr _, fun _ => h2⟩⟩
      · unfold less
        cases h2 : Op.bytesLess a.key.toList b.key.toList with
        | true => exact .inl ⟨by omega, fun _ => ⟨bl_asym _ _ h2, fun q => absurd q.symm e⟩⟩
        | false => exact .inr ⟨by omega, fun _ => ⟨rfl, fun q => absurd q e⟩⟩
    · exact .inl ⟨by omega, fun e => by omega⟩
theorem rlt_anti (a b : Run) (h1 : rlt a b = false) (h2 : rlt b a = false) : a = b := by
  obtain ⟨a1, a2, a3⟩ := a
  obtain ⟨b1, b2, b3⟩ := b
  unfold rlt at h1 h2
  simp only at h1 h2
  by_cases h : a2 = b2
  · subst h
    rw [if_pos rfl] at h1 h2
    by_cases e : a3.toList = b3.toList
    · rw [if_pos e] at h1
      rw [if_pos e.symm] at h2
      simp only [decide_eq_false_iff_not] at h1 h2
      have := (toList_inj3 _ _).1 e
      subst this
      have : a1 = b1 := by omega
      subst this
      rfl
    · rw [if_neg e] at h1
      rw [if_neg (fun q => e q.symm)] at h2
      exact absurd (bl_eq _ _ h1 h2) e
  · rw [if_neg h] at h1
    rw [if_neg (fun q => h q.symm)] at h2
    simp only [decide_eq_false_iff_not] at h1 h2
    omega
def rowC (l : List Run) : List C := l.flatMap runrC
theorem rowC_len (l : List Run) : (rowC l).length = 3 * l.length := by
  have := flat_len (f := runrC) (sz := 3) (fun _ => rfl) l
  unfold rowC
  omega
theorem rowC_at (l : List Run) (i : Nat) (h : i < l.length) : ((rowC l).drop (i * 3)).take 3 = runrC (at' l i) := flat_take3 (f := runrC) (fun _ => rfl) l i _ (at'_some h)
theorem rowC_set (l : List Run) (i : Nat) (r : Run) (h : i < l.length) : lay (up (rowC l)) (i * 3) (up (runrC r)) = up (rowC (l.set i r)) := by
  have hl := rowC_len l
  have e : rowC (l.set i r) = (rowC l).take (i * 3) ++ (runrC r ++ (rowC l).drop (i * 3 + 3)) := by
    have h1 : ∀ (m : Nat) (q : List Run), (rowC q).take (m * 3) = rowC (q.take m) ∧ (rowC q).drop (m * 3) = rowC (q.drop m) := fun m => by
      induction m with
      | zero => intro q; simp [rowC]
      | succ m ih =>
        intro q
        cases q with
        | nil => simp [rowC]
        | cons x q =>
          obtain ⟨i1, i2⟩ := ih q
          have e0 : rowC (x :: q) = runrC x ++ rowC q := by simp [rowC]
          have e1 : (m + 1) * 3 = (runrC x).length + m * 3 := by show (m + 1) * 3 = 3 + m * 3; omega
          rw [e0, e1]
          constructor
          · rw [List.take_length_add_append, i1, List.take_succ_cons]; simp [rowC]
          · rw [List.drop_length_add_append, i2, List.drop_succ_cons]
    rw [(h1 i l).1, show i * 3 + 3 = (i + 1) * 3 by omega, (h1 (i + 1) l).2, List.set_eq_take_append_cons_drop, if_pos h]
    simp [rowC]
  rw [e, lay_app _ _ _ (by simp [up, hl, runrC]; omega)]
  simp only [up, List.length_map, show (runrC r).length = 3 from rfl, ← List.map_take, ← List.map_drop, ← List.map_append]
theorem up_all (n : Nat) (cs : List C) : (up cs).all (ltB n) = true := by simp [up, ltB]
def rowO (l : List Run) (g : Nat) : Ob := ⟨97, 3, false, g, up (rowC l), none⟩
set_option maxHeartbeats 4000000 in
theorem less_den (b gb : Ob) (l : List Run) (g n i k : Nat) (hi : i < n) (hk : k < n) (hn : n ≤ l.length) :
    Den Try.prog 163 [.ms 2 g 0 n, .c (iC i), .c (iC k)] [b, gb, rowO l g] (fun r ob' => r = .c (bC (rlt (at' l i) (at' l k))) ∧ ob' = [b, gb, rowO l g]) := by
  refine Den.dropM rfl ?_
  have a1 := rowC_at l i (by omega)
  have a2 := rowC_at l k (by omega)
  have hl := rowC_len l
  have c1 : i * 3 + 3 ≤ (rowC l).length := by omega
  have c2 : k * 3 + 3 ≤ (rowC l).length := by omega
  unfold rowO
  generalize rowC l = cs at *
  unfold rlt less
  have hrl : ∀ r, (runrC r).length = 3 := fun _ => rfl
  have z0 : zeroT Try.prog 97 = some (up (runrC default)) := by kernel_rfl
  generalize at' l i = x at *
  generalize at' l k = y at *
  refine den_of Try.func163 rfl rfl (by simp [Try.ntmps163]) (fun X hX hO => ?_)
  rw [Try.ntmps163] at hX
  simp only [Try.results163]
  repeat' (first 
   | (with_reducible first | refine awp_scope ?_ | refine awp_seq ?_ | refine awp_block ?_)
   | ((with_reducible first | refine awp_label ?_ | refine awp_skip ?_); try simp only [thenA, inBlockA, noGotoA])
   | (with_reducible refine awp_exit ?_; simp only [thenA, inBlockA, noGotoA, if_true, Nat.reduceEqDiff, if_false, ↓reduceIte])
   | (with_reducible refine awp_ret ?_; (try simp only [thenA, inBlockA, noGotoA]); (try simp [-List.reduceReplicate, Nat.add_one_le_iff, -getElem?_pos, -getElem?_neg, List.getElem?_cons_zero, List.getElem?_cons_succ]))
   | ((with_reducible first | refine awp_reg 44 hX [0, 1, 2, 6, 7, 8, 17, 28] ?_ | refine DEv_cut _ _ _ _ _ _ _ _ _ _ _ _ (by kernel_rfl) ?_ | change postOf _ _ _ _ _); simp [-List.reduceReplicate, Nat.add_one_le_iff, -getElem?_pos, -getElem?_neg, List.getElem?_cons_zero, List.getElem?_cons_succ])
   | (with_reducible refine awp_if_b rfl (fun hc => ?_) (fun hc => ?_) <;> (try simp [-getElem?_pos, -getElem?_neg] at hc) <;> (try (exfalso; omega)))
   | ((with_reducible first | refine GuardK_b (fun hc => ?_) (fun hc => ?_) | refine DGuard_b _ _ _ _ _ _ _ _ _ _ (fun hc => ?_) (fun hc => ?_)) <;> (try simp only [Bool.not_eq_true', Bool.not_eq_false', decide_eq_true_eq, decide_eq_false_iff_not] at hc) <;> (first | (exfalso; omega) | skip) <;> simp [-List.reduceReplicate, Nat.add_one_le_iff, -getElem?_pos, -getElem?_neg, List.getElem?_cons_zero, List.getElem?_cons_succ, hc])
   | (with_reducible refine And.intro (by omega) ?_)
   | fail)
  refine awp_nilO 97 3 (awp_nilO 97 3 ?_)
  simp only [List.cons_append, List.nil_append]
  refine awp_drawS (id := 1) 44 hX [0, 1, 2, 6, 7, 8, 17, 28] Tab.mixed (by kernel_rfl) [.ms 2 g 0 n, .c (iC i), .mp 2 g (i * 3), .agg (up (runrC x)), .ms 2 g 0 n, .c (iC k), .mp 2 g (k * 3), .agg (up (runrC y)), .mp 3 1 0, .mp 4 1 0, .junk, .junk] (fun p => [b, gb, ⟨97, 3, false, g, up cs, none⟩, if p 10 then ⟨97, 3, false, 1, up (runrC x), none⟩ else if p 8 then ⟨97, 3, false, 1, up (runrC default), none⟩ else ⟨97, 3, true, 0, [], none⟩, if p 11 then ⟨97, 3, false, 1, up (runrC y), none⟩ else if p 9 then ⟨97, 3, false, 1, up (runrC default), none⟩ else ⟨97, 3, true, 0, [], none⟩]) (by simp [iC, hi, hk, a1, a2, c1, c2, hrl]) (fun p q hpq => ?_) ?_ ?_
  · simp only [hpq 8 (by decide), hpq 9 (by decide), hpq 10 (by decide), hpq 11 (by decide)]
  · intro i o p hl hp hcl hno
    match i, hl with
    | 0, hl =>
      obtain rfl := Option.some.inj hl
      have c10 : p 10 = false := by cases h : p 10 with | false => rfl | true => exact absurd (List.contains_iff_mem.1 (by kernel_rfl)) (hno 10 _ rfl h)
      have c11 : p 11 = false := by cases h : p 11 with | false => rfl | true => exact absurd (List.contains_iff_mem.1 (by kernel_rfl)) (hno 11 _ rfl h)
      all_goals rcases Bool.eq_false_or_eq_true (p 8) with c8 | c8
      all_goals rcases Bool.eq_false_or_eq_true (p 9) with c9 | c9
      all_goals refine ⟨_, rfl, ?_⟩
      all_goals simp [StepS, frP, -exists_and_left, hp, c10, c11, c8, c9, iC, hi, hk, a1, a2, c1, c2, hrl]
    | 1, hl =>
      obtain rfl := Option.some.inj hl
      have c10 : p 10 = false := by cases h : p 10 with | false => rfl | true => exact absurd (List.contains_iff_mem.1 (by kernel_rfl)) (hno 10 _ rfl h)
      have c11 : p 11 = false := by cases h : p 11 with | false => rfl | true => exact absurd (List.contains_iff_mem.1 (by kernel_rfl)) (hno 11 _ rfl h)
      all_goals rcases Bool.eq_false_or_eq_true (p 8) with c8 | c8
      all_goals rcases Bool.eq_false_or_eq_true (p 9) with c9 | c9
      all_goals refine ⟨_, rfl, ?_⟩
      all_goals simp [StepS, frP, -exists_and_left, hp, c10, c11, c8, c9, iC, hi, hk, a1, a2, c1, c2, hrl]
    | 2, hl =>
      obtain rfl := Option.some.inj hl
      have c10 : p 10 = false := by cases h : p 10 with | false => rfl | true => exact absurd (List.contains_iff_mem.1 (by kernel_rfl)) (hno 10 _ rfl h)
      have c11 : p 11 = false := by cases h : p 11 with | false => rfl | true => exact absurd (List.contains_iff_mem.1 (by kernel_rfl)) (hno 11 _ rfl h)
      all_goals rcases Bool.eq_false_or_eq_true (p 8) with c8 | c8
      all_goals rcases Bool.eq_false_or_eq_true (p 9) with c9 | c9
      all_goals refine ⟨_, rfl, ?_⟩
      all_goals simp [StepS, frP, -exists_and_left, hp, c10, c11, c8, c9, iC, hi, hk, a1, a2, c1, c2, hrl]
    | 3, hl =>
      obtain rfl := Option.some.inj hl
      have c10 : p 10 = false := by cases h : p 10 with | false => rfl | true => exact absurd (List.contains_iff_mem.1 (by kernel_rfl)) (hno 10 _ rfl h)
      have c11 : p 11 = false := by cases h : p 11 with | false => rfl | true => exact absurd (List.contains_iff_mem.1 (by kernel_rfl)) (hno 11 _ rfl h)
      all_goals rcases Bool.eq_false_or_eq_true (p 8) with c8 | c8
      all_goals rcases Bool.eq_false_or_eq_true (p 9) with c9 | c9
      all_goals refine ⟨_, rfl, ?_⟩
      all_goals simp [StepS, frP, -exists_and_left, hp, c10, c11, c8, c9, iC, hi, hk, a1, a2, c1, c2, hrl]
    | 4, hl =>
      obtain rfl := Option.some.inj hl
      have c11 : p 11 = false := by cases h : p 11 with | false => rfl | true => exact absurd (List.contains_iff_mem.1 (by kernel_rfl)) (hno 11 _ rfl h)
      all_goals rcases Bool.eq_false_or_eq_true (p 8) with c8 | c8
      all_goals rcases Bool.eq_false_or_eq_true (p 9) with c9 | c9
      all_goals rcases Bool.eq_false_or_eq_true (p 10) with c10 | c10
      all_goals refine ⟨_, rfl, ?_⟩
      all_goals simp [StepS, frP, -exists_and_left, hp, c11, c8, c9, c10, iC, hi, hk, a1, a2, c1, c2, hrl]
    | 5, hl =>
      obtain rfl := Option.some.inj hl
      have c11 : p 11 = false := by cases h : p 11 with | false => rfl | true => exact absurd (List.contains_iff_mem.1 (by kernel_rfl)) (hno 11 _ rfl h)
      all_goals rcases Bool.eq_false_or_eq_true (p 8) with c8 | c8
      all_goals rcases Bool.eq_false_or_eq_true (p 9) with c9 | c9
      all_goals rcases Bool.eq_false_or_eq_true (p 10) with c10 | c10
      all_goals refine ⟨_, rfl, ?_⟩
      all_goals simp [StepS, frP, -exists_and_left, hp, c11, c8, c9, c10, iC, hi, hk, a1, a2, c1, c2, hrl]
    | 6, hl =>
      obtain rfl := Option.some.inj hl
      have c11 : p 11 = false := by cases h : p 11 with | false => rfl | true => exact absurd (List.contains_iff_mem.1 (by kernel_rfl)) (hno 11 _ rfl h)
      all_goals rcases Bool.eq_false_or_eq_true (p 8) with c8 | c8
      all_goals rcases Bool.eq_false_or_eq_true (p 9) with c9 | c9
      all_goals rcases Bool.eq_false_or_eq_true (p 10) with c10 | c10
      all_goals refine ⟨_, rfl, ?_⟩
      all_goals simp [StepS, frP, -exists_and_left, hp, c11, c8, c9, c10, iC, hi, hk, a1, a2, c1, c2, hrl]
    | 7, hl =>
      obtain rfl := Option.some.inj hl
      have c11 : p 11 = false := by cases h : p 11 with | false => rfl | true => exact absurd (List.contains_iff_mem.1 (by kernel_rfl)) (hno 11 _ rfl h)
      all_goals rcases Bool.eq_false_or_eq_true (p 8) with c8 | c8
      all_goals rcases Bool.eq_false_or_eq_true (p 9) with c9 | c9
      all_goals rcases Bool.eq_false_or_eq_true (p 10) with c10 | c10
      all_goals refine ⟨_, rfl, ?_⟩
      all_goals simp [StepS, frP, -exists_and_left, hp, c11, c8, c9, c10, iC, hi, hk, a1, a2, c1, c2, hrl]
    | 8, hl =>
      obtain rfl := Option.some.inj hl
      have c10 : p 10 = false := by cases h : p 10 with | false => rfl | true => exact absurd (List.contains_iff_mem.1 (by kernel_rfl)) (hno 10 _ rfl h)
      have c11 : p 11 = false := by cases h : p 11 with | false => rfl | true => exact absurd (List.contains_iff_mem.1 (by kernel_rfl)) (hno 11 _ rfl h)
      all_goals rcases Bool.eq_false_or_eq_true (p 9) with c9 | c9
      all_goals refine ⟨_, rfl, ?_⟩
      all_goals refine ⟨by simp [dstOK], .inr ⟨by simp [guardV], .inr ⟨by simp [callOf], .inr ⟨_, _, _, rfl, by first | assumption | (simp; done), by simp [hp, c10, c11, c9, iC, hi, hk, a1, a2, c1, c2, hrl], rfl, by simp [hp, c10, c11, c9, iC, hi, hk, a1, a2, c1, c2, hrl]⟩⟩⟩⟩
    | 9, hl =>
      obtain rfl := Option.some.inj hl
      have c10 : p 10 = false := by cases h : p 10 with | false => rfl | true => exact absurd (List.contains_iff_mem.1 (by kernel_rfl)) (hno 10 _ rfl h)
      have c11 : p 11 = false := by cases h : p 11 with | false => rfl | true => exact absurd (List.contains_iff_mem.1 (by kernel_rfl)) (hno 11 _ rfl h)
      all_goals rcases Bool.eq_false_or_eq_true (p 8) with c8 | c8
      all_goals refine ⟨_, rfl, ?_⟩
      all_goals refine ⟨by simp [dstOK], .inr ⟨by simp [guardV], .inr ⟨by simp [callOf], .inr ⟨_, _, _, rfl, by first | assumption | (simp; done), by simp [hp, c10, c11, c8, iC, hi, hk, a1, a2, c1, c2, hrl], rfl, by simp [hp, c10, c11, c8, iC, hi, hk, a1, a2, c1, c2, hrl]⟩⟩⟩⟩
    | 10, hl =>
      obtain rfl := Option.some.inj hl
      have c8 : p 8 = true := hcl 8 (List.contains_iff_mem.1 (by kernel_rfl))
      have c9 : p 9 = true := hcl 9 (List.contains_iff_mem.1 (by kernel_rfl))
      have c11 : p 11 = false := by cases h : p 11 with | false => rfl | true => exact absurd (List.contains_iff_mem.1 (by kernel_rfl)) (hno 11 _ rfl h)
      all_goals refine ⟨_, rfl, ?_⟩
      all_goals simp [StepS, frP, -exists_and_left, hp, c8, c9, c11, iC, hi, hk, a1, a2, c1, c2, hrl]
    | 11, hl =>
      obtain rfl := Option.some.inj hl
      have c8 : p 8 = true := hcl 8 (List.contains_iff_mem.1 (by kernel_rfl))
      have c9 : p 9 = true := hcl 9 (List.contains_iff_mem.1 (by kernel_rfl))
      have c10 : p 10 = true := hcl 10 (List.contains_iff_mem.1 (by kernel_rfl))
      all_goals refine ⟨_, rfl, ?_⟩
      all_goals simp [StepS, frP, -exists_and_left, hp, c8, c9, c10, iC, hi, hk, a1, a2, c1, c2, hrl]
    | n + 12, hl => simp at hl
  simp [frP, iC, hi, hk, a1, a2, c1, c2, hrl]
  by_cases d1 : x.wins = y.wins
  · by_cases d2 : x.key.toList = y.key.toList
    · repeat' (first 
       | (with_reducible first | refine awp_scope ?_ | refine awp_seq ?_ | refine awp_block ?_)
       | ((with_reducible first | refine awp_label ?_ | refine awp_skip ?_); try simp only [thenA, inBlockA, noGotoA])
       | (with_reducible refine awp_exit ?_; simp only [thenA, inBlockA, noGotoA, if_true, Nat.reduceEqDiff, if_false, ↓reduceIte])
       | (with_reducible refine awp_ret ?_; (try simp only [thenA, inBlockA, noGotoA]); (try simp [-List.reduceReplicate, Nat.add_one_le_iff, -getElem?_pos, -getElem?_neg, List.getElem?_cons_zero, List.getElem?_cons_succ, iC, bC, sC, runrC, d1, d2]))
       | ((with_reducible first | refine awp_reg 44 hX [0, 1, 2, 6, 7, 8, 17, 28] ?_ | refine DEv_cut _ _ _ _ _ _ _ _ _ _ _ _ (by kernel_rfl) ?_ | change postOf _ _ _ _ _); simp [-List.reduceReplicate, Nat.add_one_le_iff, -getElem?_pos, -getElem?_neg, List.getElem?_cons_zero, List.getElem?_cons_succ, iC, bC, sC, runrC, d1, d2])
       | (with_reducible refine awp_if_b rfl (fun hc => ?_) (fun hc => ?_) <;> (try simp [-getElem?_pos, -getElem?_neg] at hc) <;> (try (exfalso; omega)))
       | ((with_reducible first | refine GuardK_b (fun hc => ?_) (fun hc => ?_) | refine DGuard_b _ _ _ _ _ _ _ _ _ _ (fun hc => ?_) (fun hc => ?_)) <;> (try simp only [Bool.not_eq_true', Bool.not_eq_false', decide_eq_true_eq, decide_eq_false_iff_not] at hc) <;> (first | (exfalso; omega) | skip) <;> simp [-List.reduceReplicate, Nat.add_one_le_iff, -getElem?_pos, -getElem?_neg, List.getElem?_cons_zero, List.getElem?_cons_succ, iC, bC, sC, runrC, d1, d2, hc])
       | (with_reducible refine And.intro (by omega) ?_)
       | fail)
    · repeat' (first 
       | (with_reducible first | refine awp_scope ?_ | refine awp_seq ?_ | refine awp_block ?_)
       | ((with_reducible first | refine awp_label ?_ | refine awp_skip ?_); try simp only [thenA, inBlockA, noGotoA])
       | (with_reducible refine awp_exit ?_; simp only [thenA, inBlockA, noGotoA, if_true, Nat.reduceEqDiff, if_false, ↓reduceIte])
       | (with_reducible refine awp_ret ?_; (try simp only [thenA, inBlockA, noGotoA]); (try simp [-List.reduceReplicate, Nat.add_one_le_iff, -getElem?_pos, -getElem?_neg, List.getElem?_cons_zero, List.getElem?_cons_succ, iC, bC, sC, runrC, d1, d2]))
       | ((with_reducible first | refine awp_reg 44 hX [0, 1, 2, 6, 7, 8, 17, 28] ?_ | refine DEv_cut _ _ _ _ _ _ _ _ _ _ _ _ (by kernel_rfl) ?_ | change postOf _ _ _ _ _); simp [-List.reduceReplicate, Nat.add_one_le_iff, -getElem?_pos, -getElem?_neg, List.getElem?_cons_zero, List.getElem?_cons_succ, iC, bC, sC, runrC, d1, d2])
       | (with_reducible refine awp_if_b rfl (fun hc => ?_) (fun hc => ?_) <;> (try simp [-getElem?_pos, -getElem?_neg] at hc) <;> (try (exfalso; omega)))
       | ((with_reducible first | refine GuardK_b (fun hc => ?_) (fun hc => ?_) | refine DGuard_b _ _ _ _ _ _ _ _ _ _ (fun hc => ?_) (fun hc => ?_)) <;> (try simp only [Bool.not_eq_true', Bool.not_eq_false', decide_eq_true_eq, decide_eq_false_iff_not] at hc) <;> (first | (exfalso; omega) | skip) <;> simp [-List.reduceReplicate, Nat.add_one_le_iff, -getElem?_pos, -getElem?_neg, List.getElem?_cons_zero, List.getElem?_cons_succ, iC, bC, sC, runrC, d1, d2, hc])
       | (with_reducible refine And.intro (by omega) ?_)
       | fail)
  · repeat' (first 
     | (with_reducible first | refine awp_scope ?_ | refine awp_seq ?_ | refine awp_block ?_)
     | ((with_reducible first | refine awp_label ?_ | refine awp_skip ?_); try simp only [thenA, inBlockA, noGotoA])
     | (with_reducible refine awp_exit ?_; simp only [thenA, inBlockA, noGotoA, if_true, Nat.reduceEqDiff, if_false, ↓reduceIte])
     | (with_reducible refine awp_ret ?_; (try simp only [thenA, inBlockA, noGotoA]); (try simp [-List.reduceReplicate, Nat.add_one_le_iff, -getElem?_pos, -getElem?_neg, List.getElem?_cons_zero, List.getElem?_cons_succ, iC, bC, sC, runrC, d1]))
     | ((with_reducible first | refine awp_reg 44 hX [0, 1, 2, 6, 7, 8, 17, 28] ?_ | refine DEv_cut _ _ _ _ _ _ _ _ _ _ _ _ (by kernel_rfl) ?_ | change postOf _ _ _ _ _); simp [-List.reduceReplicate, Nat.add_one_le_iff, -getElem?_pos, -getElem?_neg, List.getElem?_cons_zero, List.getElem?_cons_succ, iC, bC, sC, runrC, d1])
     | (with_reducible refine awp_if_b rfl (fun hc => ?_) (fun hc => ?_) <;> (try simp [-getElem?_pos, -getElem?_neg] at hc) <;> (try (exfalso; omega)))
     | ((with_reducible first | refine GuardK_b (fun hc => ?_) (fun hc => ?_) | refine DGuard_b _ _ _ _ _ _ _ _ _ _ (fun hc => ?_) (fun hc => ?_)) <;> (try simp only [Bool.not_eq_true', Bool.not_eq_false', decide_eq_true_eq, decide_eq_false_iff_not] at hc) <;> (first | (exfalso; omega) | skip) <;> simp [-List.reduceReplicate, Nat.add_one_le_iff, -getElem?_pos, -getElem?_neg, List.getElem?_cons_zero, List.getElem?_cons_succ, iC, bC, sC, runrC, d1, hc])
     | (with_reducible refine And.intro (by omega) ?_)
     | fail)
set_option maxHeartbeats 4000000 in
theorem swap_den (b gb : Ob) (l : List Run) (g n i k : Nat) (hi : i < n) (hk : k < n) (hn : n ≤ l.length) :
    Den Try.prog 166 [.ms 2 g 0 n, .c (iC i), .c (iC k)] [b, gb, rowO l g] (fun r ob' => r = .tup [] ∧ ob' = [b, gb, rowO (swp l i k) g]) := by
  have a1 := rowC_at l i (by omega)
  have a2 := rowC_at l k (by omega)
  have hl := rowC_len l
  have hl1 := rowC_len (l.set i (at' l k))
  rw [List.length_set] at hl1
  have s1 := rowC_set l i (at' l k) (by omega)
  have s2 := rowC_set (l.set i (at' l k)) k (at' l i) (by simp; omega)
  have c1 : i * 3 + 3 ≤ (rowC l).length := by omega
  have c2 : k * 3 + 3 ≤ (rowC l).length := by omega
  have c3 : k * 3 + 3 ≤ (rowC (l.set i (at' l k))).length := by omega
  have hrl : ∀ r, (runrC r).length = 3 := fun _ => rfl
  unfold rowO swp
  generalize rowC ((l.set i (at' l k)).set k (at' l i)) = cs2 at *
  generalize rowC (l.set i (at' l k)) = cs1 at *
  generalize rowC l = cs at *
  generalize at' l i = x at *
  generalize at' l k = y at *
  refine den_of Try.func166 rfl rfl (by simp [Try.ntmps166]) (fun X hX hO => ?_)
  rw [Try.ntmps166] at hX
  simp only [Try.results166]
  refine awp_drawS (id := 0) 20 hX [] Tab.mixed (by kernel_rfl) [.ms 2 g 0 n, .c (iC i), .ms 2 g 0 n, .c (iC k), .ms 2 g 0 n, .c (iC k), .mp 2 g (k * 3), .agg (up (runrC y)), .ms 2 g 0 n, .c (iC i), .mp 2 g (i * 3), .agg (up (runrC x)), .mp 2 g (i * 3), .junk, .mp 2 g (k * 3), .junk] (fun p => [b, gb, ⟨97, 3, false, g, up (if p 15 then cs2 else if p 13 then cs1 else cs), none⟩]) (by simp [iC, hi, hk, a1, a2, c1, c2, c3, s1, s2, hrl]) (fun p q hpq => ?_) ?_ ?_
  · simp only [hpq 13 (by decide), hpq 15 (by decide)]
  · intro i o p hl hp hcl hno
    match i, hl with
    | 0, hl =>
      obtain rfl := Option.some.inj hl
      have c13 : p 13 = false := by cases h : p 13 with | false => rfl | true => exact absurd (List.contains_iff_mem.1 (by kernel_rfl)) (hno 13 _ rfl h)
      have c15 : p 15 = false := by cases h : p 15 with | false => rfl | true => exact absurd (List.contains_iff_mem.1 (by kernel_rfl)) (hno 15 _ rfl h)
      all_goals refine ⟨_, rfl, ?_⟩
      all_goals simp [StepS, frP, -exists_and_left, hp, c13, c15, iC, hi, hk, a1, a2, c1, c2, c3, s1, s2, hrl]
    | 1, hl =>
      obtain rfl := Option.some.inj hl
      have c13 : p 13 = false := by cases h : p 13 with | false => rfl | true => exact absurd (List.contains_iff_mem.1 (by kernel_rfl)) (hno 13 _ rfl h)
      have c15 : p 15 = false := by cases h : p 15 with | false => rfl | true => exact absurd (List.contains_iff_mem.1 (by kernel_rfl)) (hno 15 _ rfl h)
      all_goals refine ⟨_, rfl, ?_⟩
      all_goals simp [StepS, frP, -exists_and_left, hp, c13, c15, iC, hi, hk, a1, a2, c1, c2, c3, s1, s2, hrl]
    | 2, hl =>
      obtain rfl := Option.some.inj hl
      have c15 : p 15 = false := by cases h : p 15 with | false => rfl | true => exact absurd (List.contains_iff_mem.1 (by kernel_rfl)) (hno 15 _ rfl h)
      all_goals rcases Bool.eq_false_or_eq_true (p 13) with c13 | c13
      all_goals refine ⟨_, rfl, ?_⟩
      all_goals simp [StepS, frP, -exists_and_left, hp, c15, c13, iC, hi, hk, a1, a2, c1, c2, c3, s1, s2, hrl]
    | 3, hl =>
      obtain rfl := Option.some.inj hl
      have c15 : p 15 = false := by cases h : p 15 with | false => rfl | true => exact absurd (List.contains_iff_mem.1 (by kernel_rfl)) (hno 15 _ rfl h)
      all_goals rcases Bool.eq_false_or_eq_true (p 13) with c13 | c13
      all_goals refine ⟨_, rfl, ?_⟩
      all_goals simp [StepS, frP, -exists_and_left, hp, c15, c13, iC, hi, hk, a1, a2, c1, c2, c3, s1, s2, hrl]
    | 4, hl =>
      obtain rfl := Option.some.inj hl
      have c13 : p 13 = false := by cases h : p 13 with | false => rfl | true => exact absurd (List.contains_iff_mem.1 (by kernel_rfl)) (hno 13 _ rfl h)
      have c15 : p 15 = false := by cases h : p 15 with | false => rfl | true => exact absurd (List.contains_iff_mem.1 (by kernel_rfl)) (hno 15 _ rfl h)
      all_goals refine ⟨_, rfl, ?_⟩
      all_goals simp [StepS, frP, -exists_and_left, hp, c13, c15, iC, hi, hk, a1, a2, c1, c2, c3, s1, s2, hrl]
    | 5, hl =>
      obtain rfl := Option.some.inj hl
      have c13 : p 13 = false := by cases h : p 13 with | false => rfl | true => exact absurd (List.contains_iff_mem.1 (by kernel_rfl)) (hno 13 _ rfl h)
      have c15 : p 15 = false := by cases h : p 15 with | false => rfl | true => exact absurd (List.contains_iff_mem.1 (by kernel_rfl)) (hno 15 _ rfl h)
      all_goals refine ⟨_, rfl, ?_⟩
      all_goals simp [StepS, frP, -exists_and_left, hp, c13, c15, iC, hi, hk, a1, a2, c1, c2, c3, s1, s2, hrl]
    | 6, hl =>
      obtain rfl := Option.some.inj hl
      have c13 : p 13 = false := by cases h : p 13 with | false => rfl | true => exact absurd (List.contains_iff_mem.1 (by kernel_rfl)) (hno 13 _ rfl h)
      have c15 : p 15 = false := by cases h : p 15 with | false => rfl | true => exact absurd (List.contains_iff_mem.1 (by kernel_rfl)) (hno 15 _ rfl h)
      all_goals refine ⟨_, rfl, ?_⟩
      all_goals simp [StepS, frP, -exists_and_left, hp, c13, c15, iC, hi, hk, a1, a2, c1, c2, c3, s1, s2, hrl]
    | 7, hl =>
      obtain rfl := Option.some.inj hl
      have c13 : p 13 = false := by cases h : p 13 with | false => rfl | true => exact absurd (List.contains_iff_mem.1 (by kernel_rfl)) (hno 13 _ rfl h)
      have c15 : p 15 = false := by cases h : p 15 with | false => rfl | true => exact absurd (List.contains_iff_mem.1 (by kernel_rfl)) (hno 15 _ rfl h)
      all_goals refine ⟨_, rfl, ?_⟩
      all_goals simp [StepS, frP, -exists_and_left, hp, c13, c15, iC, hi, hk, a1, a2, c1, c2, c3, s1, s2, hrl]
    | 8, hl =>
      obtain rfl := Option.some.inj hl
      have c13 : p 13 = false := by cases h : p 13 with | false => rfl | true => exact absurd (List.contains_iff_mem.1 (by kernel_rfl)) (hno 13 _ rfl h)
      have c15 : p 15 = false := by cases h : p 15 with | false => rfl | true => exact absurd (List.contains_iff_mem.1 (by kernel_rfl)) (hno 15 _ rfl h)
      all_goals refine ⟨_, rfl, ?_⟩
      all_goals simp [StepS, frP, -exists_and_left, hp, c13, c15, iC, hi, hk, a1, a2, c1, c2, c3, s1, s2, hrl]
    | 9, hl =>
      obtain rfl := Option.some.inj hl
      have c13 : p 13 = false := by cases h : p 13 with | false => rfl | true => exact absurd (List.contains_iff_mem.1 (by kernel_rfl)) (hno 13 _ rfl h)
      have c15 : p 15 = false := by cases h : p 15 with | false => rfl | true => exact absurd (List.contains_iff_mem.1 (by kernel_rfl)) (hno 15 _ rfl h)
      all_goals refine ⟨_, rfl, ?_⟩
      all_goals simp [StepS, frP, -exists_and_left, hp, c13, c15, iC, hi, hk, a1, a2, c1, c2, c3, s1, s2, hrl]
    | 10, hl =>
      obtain rfl := Option.some.inj hl
      have c13 : p 13 = false := by cases h : p 13 with | false => rfl | true => exact absurd (List.contains_iff_mem.1 (by kernel_rfl)) (hno 13 _ rfl h)
      have c15 : p 15 = false := by cases h : p 15 with | false => rfl | true => exact absurd (List.contains_iff_mem.1 (by kernel_rfl)) (hno 15 _ rfl h)
      all_goals refine ⟨_, rfl, ?_⟩
      all_goals simp [StepS, frP, -exists_and_left, hp, c13, c15, iC, hi, hk, a1, a2, c1, c2, c3, s1, s2, hrl]
    | 11, hl =>
      obtain rfl := Option.some.inj hl
      have c13 : p 13 = false := by cases h : p 13 with | false => rfl | true => exact absurd (List.contains_iff_mem.1 (by kernel_rfl)) (hno 13 _ rfl h)
      have c15 : p 15 = false := by cases h : p 15 with | false => rfl | true => exact absurd (List.contains_iff_mem.1 (by kernel_rfl)) (hno 15 _ rfl h)
      all_goals refine ⟨_, rfl, ?_⟩
      all_goals simp [StepS, frP, -exists_and_left, hp, c13, c15, iC, hi, hk, a1, a2, c1, c2, c3, s1, s2, hrl]
    | 12, hl =>
      obtain rfl := Option.some.inj hl
      have c13 : p 13 = false := by cases h : p 13 with | false => rfl | true => exact absurd (List.contains_iff_mem.1 (by kernel_rfl)) (hno 13 _ rfl h)
      have c15 : p 15 = false := by cases h : p 15 with | false => rfl | true => exact absurd (List.contains_iff_mem.1 (by kernel_rfl)) (hno 15 _ rfl h)
      all_goals refine ⟨_, rfl, ?_⟩
      all_goals simp [StepS, frP, -exists_and_left, hp, c13, c15, iC, hi, hk, a1, a2, c1, c2, c3, s1, s2, hrl]
    | 13, hl =>
      obtain rfl := Option.some.inj hl
      have c15 : p 15 = false := by cases h : p 15 with | false => rfl | true => exact absurd (List.contains_iff_mem.1 (by kernel_rfl)) (hno 15 _ rfl h)
      all_goals refine ⟨_, rfl, ?_⟩
      all_goals simp [StepS, frP, -exists_and_left, hp, c15, iC, hi, hk, a1, a2, c1, c2, c3, s1, s2, hrl]
    | 14, hl =>
      obtain rfl := Option.some.inj hl
      have c13 : p 13 = true := hcl 13 (List.contains_iff_mem.1 (by kernel_rfl))
      have c15 : p 15 = false := by cases h : p 15 with | false => rfl | true => exact absurd (List.contains_iff_mem.1 (by kernel_rfl)) (hno 15 _ rfl h)
      all_goals refine ⟨_, rfl, ?_⟩
      all_goals simp [StepS, frP, -exists_and_left, hp, c13, c15, iC, hi, hk, a1, a2, c1, c2, c3, s1, s2, hrl]
    | 15, hl =>
      obtain rfl := Option.some.inj hl
      have c13 : p 13 = true := hcl 13 (List.contains_iff_mem.1 (by kernel_rfl))
      all_goals refine ⟨_, rfl, ?_⟩
      all_goals simp [StepS, frP, -exists_and_left, hp, c13, iC, hi, hk, a1, a2, c1, c2, c3, s1, s2, hrl]
    | n + 16, hl => simp at hl
  simp [frP, iC, hi, hk, a1, a2, c1, c2, c3, s1, s2, hrl]
  repeat' (first 
   | (with_reducible first | refine awp_scope ?_ | refine awp_seq ?_ | refine awp_block ?_)
   | ((with_reducible first | refine awp_label ?_ | refine awp_skip ?_); try simp only [thenA, inBlockA, noGotoA])
   | (with_reducible refine awp_exit ?_; simp only [thenA, inBlockA, noGotoA, if_true, Nat.reduceEqDiff, if_false, ↓reduceIte])
   | (with_reducible refine awp_ret ?_; (try simp only [thenA, inBlockA, noGotoA]); (try simp [-List.reduceReplicate, Nat.add_one_le_iff, -getElem?_pos, -getElem?_neg, List.getElem?_cons_zero, List.getElem?_cons_succ]))
   | ((with_reducible first | refine awp_reg 20 hX [] ?_ | refine DEv_cut _ _ _ _ _ _ _ _ _ _ _ _ (by kernel_rfl) ?_ | change postOf _ _ _ _ _); simp [-List.reduceReplicate, Nat.add_one_le_iff, -getElem?_pos, -getElem?_neg, List.getElem?_cons_zero, List.getElem?_cons_succ])
   | (with_reducible refine awp_if_b rfl (fun hc => ?_) (fun hc => ?_) <;> (try simp [-getElem?_pos, -getElem?_neg] at hc) <;> (try (exfalso; omega)))
   | ((with_reducible first | refine GuardK_b (fun hc => ?_) (fun hc => ?_) | refine DGuard_b _ _ _ _ _ _ _ _ _ _ (fun hc => ?_) (fun hc => ?_)) <;> (try simp only [Bool.not_eq_true', Bool.not_eq_false', decide_eq_true_eq, decide_eq_false_iff_not] at hc) <;> (first | (exfalso; omega) | skip) <;> simp [-List.reduceReplicate, Nat.add_one_le_iff, -getElem?_pos, -getElem?_neg, List.getElem?_cons_zero, List.getElem?_cons_succ, hc])
   | (with_reducible refine And.intro (by omega) ?_)
   | fail)
/-- The box in which the row lies. -/
def boxO (n g : Nat) : Ob := ⟨94, 1, false, 0, [.ms 2 g 0 n], none⟩
def boxP (n g : Nat) : Ob := ⟨94, 1, false, 0, [if n = 0 then .c (.sl [] 0 false) else .ms 2 g 0 n], none⟩
def boxE : Ob := ⟨94, 1, false, 0, [.c (.sl [] 0 true)], none⟩
def garO (r : Run) : Ob := ⟨97, 3, false, 0, up (runrC r), none⟩
set_option maxHeartbeats 4000000 in
theorem push0_den (x : Run) : Den Try.prog 165 [.mp 0 0 0, .c (.ifc 97 true (runrC x))] [boxE] (fun r ob' => r = .tup [] ∧ ob' = [boxO 1 0, garO x, rowO [x] 0]) := by
  have hrl : ∀ r, (runrC r).length = 3 := fun _ => rfl
  have hrt : ∀ r, (runrC r).take 3 = runrC r := fun _ => rfl
  have hrx : rowC [x] = runrC x := by simp [rowC]
  have ho : rowO [x] 0 = ⟨97, 3, false, 0, up (runrC x), none⟩ := by unfold rowO; rw [hrx]
  unfold boxE boxO garO
  rw [ho]
  refine den_of Try.func165 rfl rfl (by simp [Try.ntmps165]) (fun X hX hO => ?_)
  rw [Try.ntmps165] at hX
  simp only [Try.results165]
  repeat' (first 
   | (with_reducible first | refine awp_scope ?_ | refine awp_seq ?_ | refine awp_block ?_)
   | ((with_reducible first | refine awp_label ?_ | refine awp_skip ?_); try simp only [thenA, inBlockA, noGotoA])
   | (with_reducible refine awp_exit ?_; simp only [thenA, inBlockA, noGotoA, if_true, Nat.reduceEqDiff, if_false, ↓reduceIte])
   | (with_reducible refine awp_ret ?_; (try simp only [thenA, inBlockA, noGotoA]); (try simp [-List.reduceReplicate, Nat.add_one_le_iff, -getElem?_pos, -getElem?_neg, List.getElem?_cons_zero, List.getElem?_cons_succ, hrl]))
   | ((with_reducible first | refine awp_reg 20 hX [0, 4, 5, 11] ?_ | refine DEv_cut _ _ _ _ _ _ _ _ _ _ _ _ (by kernel_rfl) ?_ | change postOf _ _ _ _ _); simp [-List.reduceReplicate, Nat.add_one_le_iff, -getElem?_pos, -getElem?_neg, List.getElem?_cons_zero, List.getElem?_cons_succ, hrl])
   | (with_reducible refine awp_if_b rfl (fun hc => ?_) (fun hc => ?_) <;> (try simp [-getElem?_pos, -getElem?_neg] at hc) <;> (try (exfalso; omega)))
   | ((with_reducible first | refine GuardK_b (fun hc => ?_) (fun hc => ?_) | refine DGuard_b _ _ _ _ _ _ _ _ _ _ (fun hc => ?_) (fun hc => ?_)) <;> (try simp only [Bool.not_eq_true', Bool.not_eq_false', decide_eq_true_eq, decide_eq_false_iff_not] at hc) <;> (first | (exfalso; omega) | skip) <;> simp [-List.reduceReplicate, Nat.add_one_le_iff, -getElem?_pos, -getElem?_neg, List.getElem?_cons_zero, List.getElem?_cons_succ, hrl, hc])
   | (with_reducible refine And.intro (by omega) ?_)
   | fail)
  refine awp_drawS (id := 2) 20 hX [0, 4, 5, 11] Tab.mixed (by kernel_rfl) [.mp 0 0 0, .mp 0 0 0, .mp 0 0 0, .c (.sl [] 0 true), .agg (up (runrC x)), .c (.sl (runrC x) 1 true), .ms 2 0 0 1, .mp 0 0 0, .junk] (fun p => [⟨94, 1, false, 0, if p 8 then [.ms 2 0 0 1] else [.c (.sl [] 0 true)], none⟩, ⟨97, 3, false, 0, up (runrC x), none⟩] ++ (if p 6 then [⟨97, 3, false, 0, up (runrC x), none⟩] else [])) (by simp [hrl, hrt, roomB]) (fun p q hpq => ?_) ?_ ?_
  · simp only [hpq 6 (by decide), hpq 8 (by decide)]
  · intro i o p hl hp hcl hno
    match i, hl with
    | 0, hl =>
      obtain rfl := Option.some.inj hl
      have c8 : p 8 = false := by cases h : p 8 with | false => rfl | true => exact absurd (List.contains_iff_mem.1 (by kernel_rfl)) (hno 8 _ rfl h)
      all_goals rcases Bool.eq_false_or_eq_true (p 6) with c6 | c6
      all_goals refine ⟨_, rfl, ?_⟩
      all_goals simp [StepS, frP, -exists_and_left, hp, c8, c6, hrl, hrt, roomB]
    | 1, hl =>
      obtain rfl := Option.some.inj hl
      have c6 : p 6 = false := by cases h : p 6 with | false => rfl | true => exact absurd (List.contains_iff_mem.1 (by kernel_rfl)) (hno 6 _ rfl h)
      have c8 : p 8 = false := by cases h : p 8 with | false => rfl | true => exact absurd (List.contains_iff_mem.1 (by kernel_rfl)) (hno 8 _ rfl h)
      all_goals refine ⟨_, rfl, ?_⟩
      all_goals simp [StepS, frP, -exists_and_left, hp, c6, c8, hrl, hrt, roomB]
    | 2, hl =>
      obtain rfl := Option.some.inj hl
      have c6 : p 6 = false := by cases h : p 6 with | false => rfl | true => exact absurd (List.contains_iff_mem.1 (by kernel_rfl)) (hno 6 _ rfl h)
      have c8 : p 8 = false := by cases h : p 8 with | false => rfl | true => exact absurd (List.contains_iff_mem.1 (by kernel_rfl)) (hno 8 _ rfl h)
      all_goals refine ⟨_, rfl, ?_⟩
      all_goals simp [StepS, frP, -exists_and_left, hp, c6, c8, hrl, hrt, roomB]
    | 3, hl =>
      obtain rfl := Option.some.inj hl
      have c6 : p 6 = false := by cases h : p 6 with | false => rfl | true => exact absurd (List.contains_iff_mem.1 (by kernel_rfl)) (hno 6 _ rfl h)
      have c8 : p 8 = false := by cases h : p 8 with | false => rfl | true => exact absurd (List.contains_iff_mem.1 (by kernel_rfl)) (hno 8 _ rfl h)
      all_goals refine ⟨_, rfl, ?_⟩
      all_goals simp [StepS, frP, -exists_and_left, hp, c6, c8, hrl, hrt, roomB]
    | 4, hl =>
      obtain rfl := Option.some.inj hl
      have c6 : p 6 = false := by cases h : p 6 with | false => rfl | true => exact absurd (List.contains_iff_mem.1 (by kernel_rfl)) (hno 6 _ rfl h)
      have c8 : p 8 = false := by cases h : p 8 with | false => rfl | true => exact absurd (List.contains_iff_mem.1 (by kernel_rfl)) (hno 8 _ rfl h)
      all_goals refine ⟨_, rfl, ?_⟩
      all_goals simp [StepS, frP, -exists_and_left, hp, c6, c8, hrl, hrt, roomB]
    | 5, hl =>
      obtain rfl := Option.some.inj hl
      have c6 : p 6 = false := by cases h : p 6 with | false => rfl | true => exact absurd (List.contains_iff_mem.1 (by kernel_rfl)) (hno 6 _ rfl h)
      have c8 : p 8 = false := by cases h : p 8 with | false => rfl | true => exact absurd (List.contains_iff_mem.1 (by kernel_rfl)) (hno 8 _ rfl h)
      all_goals refine ⟨_, rfl, ?_⟩
      all_goals simp [StepS, frP, -exists_and_left, hp, c6, c8, hrl, hrt, roomB]
    | 6, hl =>
      obtain rfl := Option.some.inj hl
      have c8 : p 8 = false := by cases h : p 8 with | false => rfl | true => exact absurd (List.contains_iff_mem.1 (by kernel_rfl)) (hno 8 _ rfl h)
      all_goals refine ⟨_, rfl, ?_⟩
      all_goals simp [StepS, frP, -exists_and_left, hp, c8, hrl, hrt, roomB]
    | 7, hl =>
      obtain rfl := Option.some.inj hl
      have c6 : p 6 = true := hcl 6 (List.contains_iff_mem.1 (by kernel_rfl))
      have c8 : p 8 = false := by cases h : p 8 with | false => rfl | true => exact absurd (List.contains_iff_mem.1 (by kernel_rfl)) (hno 8 _ rfl h)
      all_goals refine ⟨_, rfl, ?_⟩
      all_goals simp [StepS, frP, -exists_and_left, hp, c6, c8, hrl, hrt, roomB]
    | 8, hl =>
      obtain rfl := Option.some.inj hl
      have c6 : p 6 = true := hcl 6 (List.contains_iff_mem.1 (by kernel_rfl))
      all_goals refine ⟨_, rfl, ?_⟩
      all_goals simp [StepS, frP, -exists_and_left, hp, c6, hrl, hrt, roomB]
    | n + 9, hl => simp at hl
  simp [frP, hrl, hrt, roomB]
  repeat' (first 
   | (with_reducible first | refine awp_scope ?_ | refine awp_seq ?_ | refine awp_block ?_)
   | ((with_reducible first | refine awp_label ?_ | refine awp_skip ?_); try simp only [thenA, inBlockA, noGotoA])
   | (with_reducible refine awp_exit ?_; simp only [thenA, inBlockA, noGotoA, if_true, Nat.reduceEqDiff, if_false, ↓reduceIte])
   | (with_reducible refine awp_ret ?_; (try simp only [thenA, inBlockA, noGotoA]); (try simp [-List.reduceReplicate, Nat.add_one_le_iff, -getElem?_pos, -getElem?_neg, List.getElem?_cons_zero, List.getElem?_cons_succ, hrl]))
   | ((with_reducible first | refine awp_reg 20 hX [0, 4, 5, 11] ?_ | refine DEv_cut _ _ _ _ _ _ _ _ _ _ _ _ (by kernel_rfl) ?_ | change postOf _ _ _ _ _); simp [-List.reduceReplicate, Nat.add_one_le_iff, -getElem?_pos, -getElem?_neg, List.getElem?_cons_zero, List.getElem?_cons_succ, hrl])
   | (with_reducible refine awp_if_b rfl (fun hc => ?_) (fun hc => ?_) <;> (try simp [-getElem?_pos, -getElem?_neg] at hc) <;> (try (exfalso; omega)))
   | ((with_reducible first | refine GuardK_b (fun hc => ?_) (fun hc => ?_) | refine DGuard_b _ _ _ _ _ _ _ _ _ _ (fun hc => ?_) (fun hc => ?_)) <;> (try simp only [Bool.not_eq_true', Bool.not_eq_false', decide_eq_true_eq, decide_eq_false_iff_not] at hc) <;> (first | (exfalso; omega) | skip) <;> simp [-List.reduceReplicate, Nat.add_one_le_iff, -getElem?_pos, -getElem?_neg, List.getElem?_cons_zero, List.getElem?_cons_succ, hrl, hc])
   | (with_reducible refine And.intro (by omega) ?_)
   | fail)
set_option maxHeartbeats 4000000 in
theorem push_den (gb : Ob) (hgb : gb.cs.all (ltB 3) = true) (l : List Run) (g : Nat) (x : Run) (hl0 : l.length ≤ 1000000) : Den Try.prog 165 [.mp 0 0 0, .c (.ifc 97 true (runrC x))] [boxO l.length g, gb, rowO l g] (fun r ob' => r = .tup [] ∧ ob' = [boxO (l.length + 1) (g + 1), gb, rowO (l ++ [x]) (g + 1)]) := by
  refine Den.forget (by simp) rfl ?_ ?_
  · simp only [List.length_cons, List.length_nil, List.all_cons, List.all_nil, Bool.and_true, Bool.and_eq_true]
    exact ⟨rfl, hgb, up_all _ _⟩
  have hrl : ∀ r, (runrC r).length = 3 := fun _ => rfl
  have hrt : ∀ r, (runrC r).take 3 = runrC r := fun _ => rfl
  have hcl := rowC_len l
  have hrx : rowC (l ++ [x]) = rowC l ++ runrC x := by simp [rowC]
  have h3 : l.length * 3 = (rowC l).length := by omega
  have hroom : (l.length + 1) * 32 ≤ 140737488355328 := by omega
  have ht : (rowC l).take (rowC l).length = rowC l := List.take_length
  unfold boxO rowO
  rw [hrx]
  generalize rowC l = cs at *
  refine den_of Try.func165 rfl rfl (by simp [Try.ntmps165]) (fun X hX hO => ?_)
  rw [Try.ntmps165] at hX
  simp only [Try.results165]
  repeat' (first 
   | (with_reducible first | refine awp_scope ?_ | refine awp_seq ?_ | refine awp_block ?_)
   | ((with_reducible first | refine awp_label ?_ | refine awp_skip ?_); try simp only [thenA, inBlockA, noGotoA])
   | (with_reducible refine awp_exit ?_; simp only [thenA, inBlockA, noGotoA, if_true, Nat.reduceEqDiff, if_false, ↓reduceIte])
   | (with_reducible refine awp_ret ?_; (try simp only [thenA, inBlockA, noGotoA]); (try simp [-List.reduceReplicate, Nat.add_one_le_iff, -getElem?_pos, -getElem?_neg, List.getElem?_cons_zero, List.getElem?_cons_succ, hrl]))
   | ((with_reducible first | refine awp_reg 20 hX [0, 4, 5, 11] ?_ | refine DEv_cut _ _ _ _ _ _ _ _ _ _ _ _ (by kernel_rfl) ?_ | change postOf _ _ _ _ _); simp [-List.reduceReplicate, Nat.add_one_le_iff, -getElem?_pos, -getElem?_neg, List.getElem?_cons_zero, List.getElem?_cons_succ, hrl])
   | (with_reducible refine awp_if_b rfl (fun hc => ?_) (fun hc => ?_) <;> (try simp [-getElem?_pos, -getElem?_neg] at hc) <;> (try (exfalso; omega)))
   | ((with_reducible first | refine GuardK_b (fun hc => ?_) (fun hc => ?_) | refine DGuard_b _ _ _ _ _ _ _ _ _ _ (fun hc => ?_) (fun hc => ?_)) <;> (try simp only [Bool.not_eq_true', Bool.not_eq_false', decide_eq_true_eq, decide_eq_false_iff_not] at hc) <;> (first | (exfalso; omega) | skip) <;> simp [-List.reduceReplicate, Nat.add_one_le_iff, -getElem?_pos, -getElem?_neg, List.getElem?_cons_zero, List.getElem?_cons_succ, hrl, hc])
   | (with_reducible refine And.intro (by omega) ?_)
   | fail)
  refine awp_drawS (id := 2) 20 hX [0, 4, 5, 11] Tab.mixed (by kernel_rfl) [.mp 0 0 0, .mp 0 0 0, .mp 0 0 0, .ms 2 g 0 l.length, .agg (up (runrC x)), .c (.sl (runrC x) 1 true), .ms 2 (g + 1) 0 (l.length + 1), .mp 0 0 0, .junk] (fun p => [⟨94, 1, false, 0, if p 8 then [.ms 2 (g + 1) 0 (l.length + 1)] else [.ms 2 g 0 l.length], none⟩, gb, if p 6 then ⟨97, 3, false, g + 1, up (cs ++ runrC x), none⟩ else ⟨97, 3, false, g, up cs, none⟩, ⟨97, 3, false, 0, up (runrC x), none⟩]) (by simp [hrl, hrt, roomB, h3, ht, hroom]) (fun p q hpq => ?_) ?_ ?_
  · simp only [hpq 6 (by decide), hpq 8 (by decide)]
  · intro i o p hl hp hcl hno
    match i, hl with
    | 0, hl =>
      obtain rfl := Option.some.inj hl
      have c8 : p 8 = false := by cases h : p 8 with | false => rfl | true => exact absurd (List.contains_iff_mem.1 (by kernel_rfl)) (hno 8 _ rfl h)
      all_goals rcases Bool.eq_false_or_eq_true (p 6) with c6 | c6
      all_goals refine ⟨_, rfl, ?_⟩
      all_goals simp [StepS, frP, -exists_and_left, hp, c8, c6, hrl, hrt, roomB, h3, ht, hroom]
    | 1, hl =>
      obtain rfl := Option.some.inj hl
      have c6 : p 6 = false := by cases h : p 6 with | false => rfl | true => exact absurd (List.contains_iff_mem.1 (by kernel_rfl)) (hno 6 _ rfl h)
      have c8 : p 8 = false := by cases h : p 8 with | false => rfl | true => exact absurd (List.contains_iff_mem.1 (by kernel_rfl)) (hno 8 _ rfl h)
      all_goals refine ⟨_, rfl, ?_⟩
      all_goals simp [StepS, frP, -exists_and_left, hp, c6, c8, hrl, hrt, roomB, h3, ht, hroom]
    | 2, hl =>
      obtain rfl := Option.some.inj hl
      have c6 : p 6 = false := by cases h : p 6 with | false => rfl | true => exact absurd (List.contains_iff_mem.1 (by kernel_rfl)) (hno 6 _ rfl h)
      have c8 : p 8 = false := by cases h : p 8 with | false => rfl | true => exact absurd (List.contains_iff_mem.1 (by kernel_rfl)) (hno 8 _ rfl h)
      all_goals refine ⟨_, rfl, ?_⟩
      all_goals simp [StepS, frP, -exists_and_left, hp, c6, c8, hrl, hrt, roomB, h3, ht, hroom]
    | 3, hl =>
      obtain rfl := Option.some.inj hl
      have c6 : p 6 = false := by cases h : p 6 with | false => rfl | true => exact absurd (List.contains_iff_mem.1 (by kernel_rfl)) (hno 6 _ rfl h)
      have c8 : p 8 = false := by cases h : p 8 with | false => rfl | true => exact absurd (List.contains_iff_mem.1 (by kernel_rfl)) (hno 8 _ rfl h)
      all_goals refine ⟨_, rfl, ?_⟩
      all_goals simp [StepS, frP, -exists_and_left, hp, c6, c8, hrl, hrt, roomB, h3, ht, hroom]
    | 4, hl =>
      obtain rfl := Option.some.inj hl
      have c6 : p 6 = false := by cases h : p 6 with | false => rfl | true => exact absurd (List.contains_iff_mem.1 (by kernel_rfl)) (hno 6 _ rfl h)
      have c8 : p 8 = false := by cases h : p 8 with | false => rfl | true => exact absurd (List.contains_iff_mem.1 (by kernel_rfl)) (hno 8 _ rfl h)
      all_goals refine ⟨_, rfl, ?_⟩
      all_goals simp [StepS, frP, -exists_and_left, hp, c6, c8, hrl, hrt, roomB, h3, ht, hroom]
    | 5, hl =>
      obtain rfl := Option.some.inj hl
      have c6 : p 6 = false := by cases h : p 6 with | false => rfl | true => exact absurd (List.contains_iff_mem.1 (by kernel_rfl)) (hno 6 _ rfl h)
      have c8 : p 8 = false := by cases h : p 8 with | false => rfl | true => exact absurd (List.contains_iff_mem.1 (by kernel_rfl)) (hno 8 _ rfl h)
      all_goals refine ⟨_, rfl, ?_⟩
      all_goals simp [StepS, frP, -exists_and_left, hp, c6, c8, hrl, hrt, roomB, h3, ht, hroom]
    | 6, hl =>
      obtain rfl := Option.some.inj hl
      have c8 : p 8 = false := by cases h : p 8 with | false => rfl | true => exact absurd (List.contains_iff_mem.1 (by kernel_rfl)) (hno 8 _ rfl h)
      all_goals refine ⟨_, rfl, ?_⟩
      all_goals simp [StepS, frP, -exists_and_left, hp, c8, hrl, hrt, roomB, h3, ht, hroom]
    | 7, hl =>
      obtain rfl := Option.some.inj hl
      have c6 : p 6 = true := hcl 6 (List.contains_iff_mem.1 (by kernel_rfl))
      have c8 : p 8 = false := by cases h : p 8 with | false => rfl | true => exact absurd (List.contains_iff_mem.1 (by kernel_rfl)) (hno 8 _ rfl h)
      all_goals refine ⟨_, rfl, ?_⟩
      all_goals simp [StepS, frP, -exists_and_left, hp, c6, c8, hrl, hrt, roomB, h3, ht, hroom]
    | 8, hl =>
      obtain rfl := Option.some.inj hl
      have c6 : p 6 = true := hcl 6 (List.contains_iff_mem.1 (by kernel_rfl))
      all_goals refine ⟨_, rfl, ?_⟩
      all_goals simp [StepS, frP, -exists_and_left, hp, c6, hrl, hrt, roomB, h3, ht, hroom]
    | n + 9, hl => simp at hl
  simp [frP, hrl, hrt, roomB, h3, ht, hroom]
  repeat' (first 
   | (with_reducible first | refine awp_scope ?_ | refine awp_seq ?_ | refine awp_block ?_)
   | ((with_reducible first | refine awp_label ?_ | refine awp_skip ?_); try simp only [thenA, inBlockA, noGotoA])
   | (with_reducible refine awp_exit ?_; simp only [thenA, inBlockA, noGotoA, if_true, Nat.reduceEqDiff, if_false, ↓reduceIte])
   | (with_reducible refine awp_ret ?_; (try simp only [thenA, inBlockA, noGotoA]); (try simp [-List.reduceReplicate, Nat.add_one_le_iff, -getElem?_pos, -getElem?_neg, List.getElem?_cons_zero, List.getElem?_cons_succ, hrl]))
   | ((with_reducible first | refine awp_reg 20 hX [0, 4, 5, 11] ?_ | refine DEv_cut _ _ _ _ _ _ _ _ _ _ _ _ (by kernel_rfl) ?_ | change postOf _ _ _ _ _); simp [-List.reduceReplicate, Nat.add_one_le_iff, -getElem?_pos, -getElem?_neg, List.getElem?_cons_zero, List.getElem?_cons_succ, hrl])
   | (with_reducible refine awp_if_b rfl (fun hc => ?_) (fun hc => ?_) <;> (try simp [-getElem?_pos, -getElem?_neg] at hc) <;> (try (exfalso; omega)))
   | ((with_reducible first | refine GuardK_b (fun hc => ?_) (fun hc => ?_) | refine DGuard_b _ _ _ _ _ _ _ _ _ _ (fun hc => ?_) (fun hc => ?_)) <;> (try simp only [Bool.not_eq_true', Bool.not_eq_false', decide_eq_true_eq, decide_eq_false_iff_not] at hc) <;> (first | (exfalso; omega) | skip) <;> simp [-List.reduceReplicate, Nat.add_one_le_iff, -getElem?_pos, -getElem?_neg, List.getElem?_cons_zero, List.getElem?_cons_succ, hrl, hc])
   | (with_reducible refine And.intro (by omega) ?_)
   | fail)
set_option maxHeartbeats 4000000 in
theorem pop_den (gb : Ob) (hgb : gb.cs.all (ltB 3) = true) (l : List Run) (g n : Nat) (hn : n + 1 ≤ l.length) (hl0 : l.length ≤ 1000000) : Den Try.prog 164 [.mp 0 0 0] [boxO (n + 1) g, gb, rowO l g] (fun r ob' => r = .c (.ifc 97 true (runrC (at' l n))) ∧ ob' = [boxP n g, gb, rowO l g]) := by
  refine Den.forget (by simp) rfl ?_ ?_
  · simp only [List.length_cons, List.length_nil, List.all_cons, List.all_nil, Bool.and_true, Bool.and_eq_true]
    exact ⟨by unfold boxP; split <;> rfl, hgb, up_all _ _⟩
  have hrl : ∀ r, (runrC r).length = 3 := fun _ => rfl
  have hrt : ∀ r, (runrC r).take 3 = runrC r := fun _ => rfl
  have a1 := rowC_at l n (by omega)
  have hcl := rowC_len l
  have c1 : n * 3 + 3 ≤ (rowC l).length := by omega
  have z0 : zeroT Try.prog 97 = some (up (runrC default)) := by kernel_rfl
  have hwn := wrap_in (n : Int) (by omega)
  unfold boxO boxP rowO
  generalize rowC l = cs at *
  generalize at' l n = x at *
  refine den_of Try.func164 rfl rfl (by simp [Try.ntmps164]) (fun X hX hO => ?_)
  rw [Try.ntmps164] at hX
  simp only [Try.results164]
  rcases Nat.eq_zero_or_pos n with h0 | h0
  · subst h0
    have hw0 := wrap_in 0 (by omega)
    simp at a1 c1
    repeat' (first 
     | (with_reducible first | refine awp_scope ?_ | refine awp_seq ?_ | refine awp_block ?_)
     | ((with_reducible first | refine awp_label ?_ | refine awp_skip ?_); try simp only [thenA, inBlockA, noGotoA])
     | (with_reducible refine awp_exit ?_; simp only [thenA, inBlockA, noGotoA, if_true, Nat.reduceEqDiff, if_false, ↓reduceIte])
     | (with_reducible refine awp_ret ?_; (try simp only [thenA, inBlockA, noGotoA]); (try simp [-List.reduceReplicate, Nat.add_one_le_iff, -getElem?_pos, -getElem?_neg, List.getElem?_cons_zero, List.getElem?_cons_succ, iC, hrl, hrt, a1, c1, z0, hw0, -Tab.zero97]))
     | ((with_reducible first | refine awp_reg 25 hX [0, 2, 3, 4] ?_ | change postOf _ _ _ _ _); simp [-List.reduceReplicate, Nat.add_one_le_iff, -getElem?_pos, -getElem?_neg, List.getElem?_cons_zero, List.getElem?_cons_succ, iC, hrl, hrt, a1, c1, z0, hw0, -Tab.zero97])
     | (with_reducible refine awp_if_b rfl (fun hc => ?_) (fun hc => ?_) <;> (try simp [-getElem?_pos, -getElem?_neg] at hc) <;> (try (exfalso; omega)))
     | ((with_reducible first | refine GuardK_b (fun hc => ?_) (fun hc => ?_)) <;> (try simp only [Bool.not_eq_true', Bool.not_eq_false', decide_eq_true_eq, decide_eq_false_iff_not] at hc) <;> (first | (exfalso; omega) | skip) <;> simp [-List.reduceReplicate, Nat.add_one_le_iff, -getElem?_pos, -getElem?_neg, List.getElem?_cons_zero, List.getElem?_cons_succ, iC, hrl, hrt, a1, c1, z0, hw0, -Tab.zero97, hc])
     | (with_reducible refine And.intro (by omega) ?_)
     | fail)
  · have h1 : ¬ (0 : Int) = (n : Int) := by omega
    have h2 : ¬ n = 0 := by omega
    repeat' (first 
     | (with_reducible first | refine awp_scope ?_ | refine awp_seq ?_ | refine awp_block ?_)
     | ((with_reducible first | refine awp_label ?_ | refine awp_skip ?_); try simp only [thenA, inBlockA, noGotoA])
     | (with_reducible refine awp_exit ?_; simp only [thenA, inBlockA, noGotoA, if_true, Nat.reduceEqDiff, if_false, ↓reduceIte])
     | (with_reducible refine awp_ret ?_; (try simp only [thenA, inBlockA, noGotoA]); (try simp [-List.reduceReplicate, Nat.add_one_le_iff, -getElem?_pos, -getElem?_neg, List.getElem?_cons_zero, List.getElem?_cons_succ, iC, hrl, hrt, a1, c1, z0, hwn, h1, h2, -Tab.zero97]))
     | ((with_reducible first | refine awp_reg 25 hX [0, 2, 3, 4] ?_ | change postOf _ _ _ _ _); simp [-List.reduceReplicate, Nat.add_one_le_iff, -getElem?_pos, -getElem?_neg, List.getElem?_cons_zero, List.getElem?_cons_succ, iC, hrl, hrt, a1, c1, z0, hwn, h1, h2, -Tab.zero97])
     | (with_reducible refine awp_if_b rfl (fun hc => ?_) (fun hc => ?_) <;> (try simp [-getElem?_pos, -getElem?_neg] at hc) <;> (try (exfalso; omega)))
     | ((with_reducible first | refine GuardK_b (fun hc => ?_) (fun hc => ?_)) <;> (try simp only [Bool.not_eq_true', Bool.not_eq_false', decide_eq_true_eq, decide_eq_false_iff_not] at hc) <;> (first | (exfalso; omega) | skip) <;> simp [-List.reduceReplicate, Nat.add_one_le_iff, -getElem?_pos, -getElem?_neg, List.getElem?_cons_zero, List.getElem?_cons_succ, iC, hrl, hrt, a1, c1, z0, hwn, h1, h2, -Tab.zero97, hc])
     | (with_reducible refine And.intro (by omega) ?_)
     | fail)
end Go.Av
