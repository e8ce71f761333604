import Derived.Test.YtahcfdbjookojaaAvT31
set_option linter.unusedVariables false
set_option linter.unusedSimpArgs false
set_option maxRecDepth 100000
set_option maxHeartbeats 4000000
namespace Go.Av
open Go Go.Proofs Go.Proofs.Ytahcfdbjookojaa Go.RowKit
/-! ### tag: texts apart -/
theorem putN_inj (n : Nat) : ∀ (a b : Nat), a < 256 ^ n → b < 256 ^ n → putN a n = putN b n → a = b := by
  induction n with
  | zero => intro a b ha hb _; simp at ha hb; omega
  | succ n ih =>
    intro a b ha hb h
    simp only [putN] at h
    obtain ⟨h1, h2⟩ := List.append_inj h (by rw [putN_len, putN_len])
    have hp : 256 ^ (n + 1) = 256 * 256 ^ n := by rw [Nat.pow_succ, Nat.mul_comm]
    have h3 := ih (a / 256) (b / 256) (by apply Nat.div_lt_of_lt_mul; omega) (by apply Nat.div_lt_of_lt_mul; omega) h1
    have h4 : UInt8.ofNat a = UInt8.ofNat b := by simpa using h2
    have h5 : a % 256 = b % 256 := by
      have := congrArg UInt8.toNat h4
      simpa using this
    omega
theorem bs_inj (a b : List UInt8) : bsS a = bsS b ↔ a = b := ⟨fun h => by have := congrArg (fun x : ByteArray => x.data.toList) h; simpa [bsS] using this, fun h => by rw [h]⟩
theorem data_inj (a b : ByteArray) : a.data.toList = b.data.toList ↔ a = b := ⟨ba_ext, fun h => by rw [h]⟩
theorem node_inj (a b c d : List UInt8) (ha : a.length = 32) (hc : c.length = 32) : nodeT a b = nodeT c d ↔ a = c ∧ b = d := by
  simp only [nodeT, List.cons.injEq, true_and]
  exact ⟨fun h => List.append_inj h (by rw [ha, hc]), fun h => by rw [h.1, h.2]⟩
theorem root_inj (n m : Nat) (a c : List UInt8) (hn : n < 18446744073709551616) (hm : m < 18446744073709551616) : rootT n a = rootT m c ↔ n = m ∧ a = c := by
  simp only [rootT, List.cons.injEq, true_and]
  constructor
  · intro h
    obtain ⟨h1, h2⟩ := List.append_inj h (by rw [putN_len, putN_len])
    exact ⟨putN_inj 8 n m (by simpa using hn) (by simpa using hm) h1, h2⟩
  · intro h; rw [h.1, h.2]
def textAt (s : ByteArray) (a b : List UInt8) (n : Nat) : List (List UInt8) := [leafT s, nodeT a b, rootT n a, headT s]
def sameAt (s t : ByteArray) (a b c d : List UInt8) (n m : Nat) : List Bool := [decide (s = t), decide (a = c) && decide (b = d), decide (n = m) && decide (a = c), decide (s = t)]
theorem texts_apart (s t : ByteArray) (a b c d : List UInt8) (n m : Nat) (ha : a.length = 32) (hc : c.length = 32) (hn : n < 18446744073709551616) (hm : m < 18446744073709551616) (i k : Nat) (hi : i < 4) (hk : k < 4) :
    ∃ (x y : ByteArray) (z : Bool), ((textAt s a b n).map fun l => C.v (.string (bsS l)))[i]? = some (.v (.string x)) ∧ ((textAt t c d m).map fun l => C.v (.string (bsS l)))[k]? = some (.v (.string y)) ∧
      ((sameAt s t a b c d n m).map bC)[i]? = some (bC z) ∧ decide (x = y) = (decide (i = k) && z) := by
  have h1 : leafT s = leafT t ↔ s = t := by simp only [leafT, List.cons.injEq, true_and]; exact data_inj s t
  have h2 := node_inj a b c d ha hc
  have h3 := root_inj n m a c hn hm
  have h4 : headT s = headT t ↔ s = t := by simp only [headT, List.cons.injEq, true_and]; exact data_inj s t
  have q1 : ∀ (l l' : List UInt8), (l = l' ↔ l.head? = l'.head? ∧ l.tail = l'.tail) := fun l l' => by cases l <;> cases l' <;> simp
  match i, k, hi, hk with
  | 0, 0, _, _ => exact ⟨_, _, _, rfl, rfl, rfl, by simp [bs_inj, h1]⟩
  | 1, 1, _, _ => exact ⟨_, _, _, rfl, rfl, rfl, by simp [bs_inj, h2, Bool.decide_and]⟩
  | 2, 2, _, _ => exact ⟨_, _, _, rfl, rfl, rfl, by simp [bs_inj, h3, Bool.decide_and]⟩
  | 3, 3, _, _ => exact ⟨_, _, _, rfl, rfl, rfl, by simp [bs_inj, h4]⟩
  | 0, 1, _, _ => exact ⟨_, _, _, rfl, rfl, rfl, by simp [bs_inj, leafT, nodeT]⟩
  | 0, 2, _, _ => exact ⟨_, _, _, rfl, rfl, rfl, by simp [bs_inj, leafT, rootT]⟩
  | 0, 3, _, _ => exact ⟨_, _, _, rfl, rfl, rfl, by simp [bs_inj, leafT, headT]⟩
  | 1, 0, _, _ => exact ⟨_, _, _, rfl, rfl, rfl, by simp [bs_inj, leafT, nodeT]⟩
  | 1, 2, _, _ => exact ⟨_, _, _, rfl, rfl, rfl, by simp [bs_inj, nodeT, rootT]⟩
  | 1, 3, _, _ => exact ⟨_, _, _, rfl, rfl, rfl, by simp [bs_inj, nodeT, headT]⟩
  | 2, 0, _, _ => exact ⟨_, _, _, rfl, rfl, rfl, by simp [bs_inj, rootT, leafT]⟩
  | 2, 1, _, _ => exact ⟨_, _, _, rfl, rfl, rfl, by simp [bs_inj, rootT, nodeT]⟩
  | 2, 3, _, _ => exact ⟨_, _, _, rfl, rfl, rfl, by simp [bs_inj, rootT, headT]⟩
  | 3, 0, _, _ => exact ⟨_, _, _, rfl, rfl, rfl, by simp [bs_inj, headT, leafT]⟩
  | 3, 1, _, _ => exact ⟨_, _, _, rfl, rfl, rfl, by simp [bs_inj, headT, nodeT]⟩
  | 3, 2, _, _ => exact ⟨_, _, _, rfl, rfl, rfl, by simp [bs_inj, headT, rootT]⟩
theorem set4 {A : Type} (z a b c d : A) : ((((List.replicate 4 z).set 0 a).set 1 b).set 2 c).set 3 d = [a, b, c, d] := rfl
theorem toList_inj (x y : ByteArray) : x.toList = y.toList ↔ x = y := by rw [toList_data, toList_data]; exact data_inj x y
theorem take_at (p a q : List UInt8) (n : Nat) (hp : p.length = n) (ha : a.length = 32) : ((p.map bC8 ++ (a.map bC8 ++ q.map bC8)).drop n).take 32 = a.map bC8 := by
  rw [List.drop_append_of_le_length (by simp [hp]), List.drop_of_length_le (by simp [hp]), List.nil_append, List.take_append_of_le_length (by simp [ha]), List.take_of_length_le (by simp [ha])]
theorem tagApart_den (s t : ByteArray) (a b c d : List UInt8) (n m : Nat) (hs : s.size ≤ 140737488351232) (ht : t.size ≤ 140737488351232) (ha : a.length = 32) (hb : b.length = 32) (hc : c.length = 32) (hd : d.length = 32) (hn : n < 18446744073709551616) (hm : m < 18446744073709551616) (ob : List Ob) :
    Den Try.prog 3 [.agg (up [.v (.string s), .v (.string t)]), .agg (up (a.map bC8 ++ (b.map bC8 ++ (c.map bC8 ++ d.map bC8)))), .agg (up [u64C n, u64C m])] ob (fun r ob' => r = .c (bC true) ∧ ob' = ob) := by
  refine Den.frame (by simp [ltBs, ltB, ltBs_up]) rfl ?_ ob
  have apart := texts_apart s t a b c d n m ha hc hn hm
  have hl : (a.map bC8 ++ (b.map bC8 ++ (c.map bC8 ++ d.map bC8))).length = 128 := by simp [ha, hb, hc, hd]
  have k0 : (a.map bC8 ++ (b.map bC8 ++ (c.map bC8 ++ d.map bC8))).take 32 = a.map bC8 := by rw [List.take_append_of_le_length (by simp [ha]), List.take_of_length_le (by simp [ha])]
  have k1 : ((a.map bC8 ++ (b.map bC8 ++ (c.map bC8 ++ d.map bC8))).drop 32).take 32 = b.map bC8 := by
    have := take_at a b (c ++ d) 32 ha hb
    simpa only [List.map_append] using this
  have k2 : ((a.map bC8 ++ (b.map bC8 ++ (c.map bC8 ++ d.map bC8))).drop 64).take 32 = c.map bC8 := by
    have := take_at (a ++ b) c d 64 (by simp [ha, hb]) hc
    simpa only [List.map_append, List.append_assoc] using this
  have k3 : ((a.map bC8 ++ (b.map bC8 ++ (c.map bC8 ++ d.map bC8))).drop 96).take 32 = d.map bC8 := by
    have := take_at (a ++ b ++ c) d [] 96 (by simp [ha, hb, hc]) hd
    simpa only [List.map_append, List.append_assoc, List.map_nil, List.append_nil] using this
  have k4 : (a.map bC8 ++ (b.map bC8 ++ (c.map bC8 ++ d.map bC8))).take 128 = a.map bC8 ++ (b.map bC8 ++ (c.map bC8 ++ d.map bC8)) := List.take_of_length_le (by rw [hl]; exact Nat.le_refl _)
  have d1 := leafText_den s (by omega)
  have d2 := nodeText_den a b ha hb
  have d3 := rootText_den n a hn ha
  have d4 := headerText_den s (by omega)
  have r1 := leafText_den t (by omega)
  have r2 := nodeText_den c d hc hd
  have r3 := rootText_den m c hm hc
  have r4 := headerText_den t (by omega)
  have e1 := eq_hash a c ha hc
  have e2 := eq_hash b d hb hd
  have hA : ((textAt s a b n).map fun l => C.v (.string (bsS l))) = [.v (.string (bsS (leafT s))), .v (.string (bsS (nodeT a b))), .v (.string (bsS (rootT n a))), .v (.string (bsS (headT s)))] := rfl
  have hB : ((textAt t c d m).map fun l => C.v (.string (bsS l))) = [.v (.string (bsS (leafT t))), .v (.string (bsS (nodeT c d))), .v (.string (bsS (rootT m c))), .v (.string (bsS (headT t)))] := rfl
  have hC : (sameAt s t a b c d n m).map bC = [.v (.bool (decide (s = t))), .v (.bool (decide (a = c) && decide (b = d))), .v (.bool (decide (n = m) && decide (a = c))), .v (.bool (decide (s = t)))] := rfl
  rw [hA, hB, hC] at apart
  by_cases hac : a = c
  · subst hac
    simp only [decide_true, Bool.true_and, Bool.and_true] at apart e1
    by_cases hnm : n = m
    · subst hnm
      simp only [decide_true] at apart
      generalize bsS (leafT s) = x1 at *
      generalize bsS (nodeT a b) = x2 at *
      generalize bsS (rootT n a) = x3 at *
      generalize bsS (headT s) = x4 at *
      generalize bsS (leafT t) = y1 at *
      generalize bsS (nodeT a d) = y2 at *
      generalize bsS (headT t) = y4 at *
      generalize a.map bC8 ++ (b.map bC8 ++ (a.map bC8 ++ d.map bC8)) = abcd at *
      refine den_of Try.func3 rfl rfl (by simp [Try.ntmps3]) (fun X hX hO => ?_)
      rw [Try.ntmps3] at hX
      simp only [Try.results3]
      repeat' (first 
        | with_reducible refine awp_scope ?_
        | with_reducible refine awp_seq ?_
        | with_reducible refine awp_block ?_
        | (with_reducible refine awp_label ?_; try simp only [thenA, inBlockA, noGotoA])
        | (with_reducible refine awp_skip ?_; try simp only [thenA, inBlockA, noGotoA])
        | (with_reducible refine awp_exit ?_; simp only [thenA, inBlockA, noGotoA, if_true, Nat.reduceEqDiff, if_false, ↓reduceIte])
        | (with_reducible refine awp_ret ?_; (try simp only [thenA, inBlockA, noGotoA]); (try simp [-List.reduceReplicate, Nat.add_one_le_iff, -getElem?_pos, -getElem?_neg, List.getElem?_cons_zero, List.getElem?_cons_succ, hl, k0, k1, k2, k3, k4, hashM, e1, e2, bC, u64C, set4, toList_inj]))
        | (with_reducible refine awp_reg 109 hX [3, 4, 5, 6, 7, 8, 9, 10, 11, 82, 86, 107] ?_; simp [-List.reduceReplicate, Nat.add_one_le_iff, -getElem?_pos, -getElem?_neg, List.getElem?_cons_zero, List.getElem?_cons_succ, hl, k0, k1, k2, k3, k4, hashM, e1, e2, bC, u64C, set4, toList_inj])
        | (with_reducible refine awp_drw 109 hX [3, 4, 5, 6, 7, 8, 9, 10, 11, 82, 86, 107] Tab.mixed (by kernel_rfl) ?_; simp [-List.reduceReplicate, Nat.add_one_le_iff, -getElem?_pos, -getElem?_neg, List.getElem?_cons_zero, List.getElem?_cons_succ, hl, k0, k1, k2, k3, k4, hashM, e1, e2, bC, u64C, set4, toList_inj])
        | (refine (d1 _).det ?_; try simp [-List.reduceReplicate, Nat.add_one_le_iff, -getElem?_pos, -getElem?_neg, List.getElem?_cons_zero, List.getElem?_cons_succ, hl, k0, k1, k2, k3, k4, hashM, e1, e2, bC, u64C, set4, toList_inj])
        | (refine ⟨_, _, d1 _, fun _ => rfl, ?_⟩; try simp [-List.reduceReplicate, Nat.add_one_le_iff, -getElem?_pos, -getElem?_neg, List.getElem?_cons_zero, List.getElem?_cons_succ, hl, k0, k1, k2, k3, k4, hashM, e1, e2, bC, u64C, set4, toList_inj])
        | (refine (d2 _).det ?_; try simp [-List.reduceReplicate, Nat.add_one_le_iff, -getElem?_pos, -getElem?_neg, List.getElem?_cons_zero, List.getElem?_cons_succ, hl, k0, k1, k2, k3, k4, hashM, e1, e2, bC, u64C, set4, toList_inj])
        | (refine ⟨_, _, d2 _, fun _ => rfl, ?_⟩; try simp [-List.reduceReplicate, Nat.add_one_le_iff, -getElem?_pos, -getElem?_neg, List.getElem?_cons_zero, List.getElem?_cons_succ, hl, k0, k1, k2, k3, k4, hashM, e1, e2, bC, u64C, set4, toList_inj])
        | (refine (d3 _).det ?_; try simp [-List.reduceReplicate, Nat.add_one_le_iff, -getElem?_pos, -getElem?_neg, List.getElem?_cons_zero, List.getElem?_cons_succ, hl, k0, k1, k2, k3, k4, hashM, e1, e2, bC, u64C, set4, toList_inj])
        | (refine ⟨_, _, d3 _, fun _ => rfl, ?_⟩; try simp [-List.reduceReplicate, Nat.add_one_le_iff, -getElem?_pos, -getElem?_neg, List.getElem?_cons_zero, List.getElem?_cons_succ, hl, k0, k1, k2, k3, k4, hashM, e1, e2, bC, u64C, set4, toList_inj])
        | (refine (d4 _).det ?_; try simp [-List.reduceReplicate, Nat.add_one_le_iff, -getElem?_pos, -getElem?_neg, List.getElem?_cons_zero, List.getElem?_cons_succ, hl, k0, k1, k2, k3, k4, hashM, e1, e2, bC, u64C, set4, toList_inj])
        | (refine ⟨_, _, d4 _, fun _ => rfl, ?_⟩; try simp [-List.reduceReplicate, Nat.add_one_le_iff, -getElem?_pos, -getElem?_neg, List.getElem?_cons_zero, List.getElem?_cons_succ, hl, k0, k1, k2, k3, k4, hashM, e1, e2, bC, u64C, set4, toList_inj])
        | (refine (r1 _).det ?_; try simp [-List.reduceReplicate, Nat.add_one_le_iff, -getElem?_pos, -getElem?_neg, List.getElem?_cons_zero, List.getElem?_cons_succ, hl, k0, k1, k2, k3, k4, hashM, e1, e2, bC, u64C, set4, toList_inj])
        | (refine ⟨_, _, r1 _, fun _ => rfl, ?_⟩; try simp [-List.reduceReplicate, Nat.add_one_le_iff, -getElem?_pos, -getElem?_neg, List.getElem?_cons_zero, List.getElem?_cons_succ, hl, k0, k1, k2, k3, k4, hashM, e1, e2, bC, u64C, set4, toList_inj])
        | (refine (r2 _).det ?_; try simp [-List.reduceReplicate, Nat.add_one_le_iff, -getElem?_pos, -getElem?_neg, List.getElem?_cons_zero, List.getElem?_cons_succ, hl, k0, k1, k2, k3, k4, hashM, e1, e2, bC, u64C, set4, toList_inj])
        | (refine ⟨_, _, r2 _, fun _ => rfl, ?_⟩; try simp [-List.reduceReplicate, Nat.add_one_le_iff, -getElem?_pos, -getElem?_neg, List.getElem?_cons_zero, List.getElem?_cons_succ, hl, k0, k1, k2, k3, k4, hashM, e1, e2, bC, u64C, set4, toList_inj])
        | (refine (r3 _).det ?_; try simp [-List.reduceReplicate, Nat.add_one_le_iff, -getElem?_pos, -getElem?_neg, List.getElem?_cons_zero, List.getElem?_cons_succ, hl, k0, k1, k2, k3, k4, hashM, e1, e2, bC, u64C, set4, toList_inj])
        | (refine ⟨_, _, r3 _, fun _ => rfl, ?_⟩; try simp [-List.reduceReplicate, Nat.add_one_le_iff, -getElem?_pos, -getElem?_neg, List.getElem?_cons_zero, List.getElem?_cons_succ, hl, k0, k1, k2, k3, k4, hashM, e1, e2, bC, u64C, set4, toList_inj])
        | (refine (r4 _).det ?_; try simp [-List.reduceReplicate, Nat.add_one_le_iff, -getElem?_pos, -getElem?_neg, List.getElem?_cons_zero, List.getElem?_cons_succ, hl, k0, k1, k2, k3, k4, hashM, e1, e2, bC, u64C, set4, toList_inj])
        | (refine ⟨_, _, r4 _, fun _ => rfl, ?_⟩; try simp [-List.reduceReplicate, Nat.add_one_le_iff, -getElem?_pos, -getElem?_neg, List.getElem?_cons_zero, List.getElem?_cons_succ, hl, k0, k1, k2, k3, k4, hashM, e1, e2, bC, u64C, set4, toList_inj])
        | (with_reducible refine awp_if_b rfl (fun hc => ?_) (fun hc => ?_) <;> (try simp [-getElem?_pos, -getElem?_neg] at hc) <;> (try (exfalso; omega)))
        | (with_reducible refine GuardK_b (fun hc => ?_) (fun hc => ?_) <;> (try simp only [Bool.not_eq_true', Bool.not_eq_false', decide_eq_true_eq, decide_eq_false_iff_not] at hc) <;> (first | (exfalso; omega) | skip) <;> simp [-List.reduceReplicate, Nat.add_one_le_iff, -getElem?_pos, -getElem?_neg, List.getElem?_cons_zero, List.getElem?_cons_succ, hl, k0, k1, k2, k3, k4, hashM, e1, e2, bC, u64C, set4, toList_inj, hc])
        | (with_reducible refine DGuard_b _ _ _ _ _ _ _ _ _ _ (fun hc => ?_) (fun hc => ?_) <;> (try simp only [Bool.not_eq_true', Bool.not_eq_false', decide_eq_true_eq, decide_eq_false_iff_not] at hc) <;> (first | (exfalso; omega) | skip) <;> simp [-List.reduceReplicate, Nat.add_one_le_iff, -getElem?_pos, -getElem?_neg, List.getElem?_cons_zero, List.getElem?_cons_succ, hl, k0, k1, k2, k3, k4, hashM, e1, e2, bC, u64C, set4, toList_inj, hc])
        | (with_reducible refine DEv_cut _ _ _ _ _ _ _ _ _ _ _ _ (by kernel_rfl) ?_; simp [-List.reduceReplicate, Nat.add_one_le_iff, -getElem?_pos, -getElem?_neg, List.getElem?_cons_zero, List.getElem?_cons_succ, hl, k0, k1, k2, k3, k4, hashM, e1, e2, bC, u64C, set4, toList_inj])
        | ((with_reducible refine hother _ _ rfl ?_); simp only [inBlockA, thenA, noGotoA, Nat.reduceEqDiff, if_false, if_true, ↓reduceIte])
        | ((with_reducible refine hother2 _ _ rfl ?_); simp only [inBlockA, thenA, noGotoA, Nat.reduceEqDiff, if_false, if_true, ↓reduceIte])
        | ((with_reducible refine hother3 _ _ rfl ?_); simp only [inBlockA, thenA, noGotoA, Nat.reduceEqDiff, if_false, if_true, ↓reduceIte])
        | (with_reducible refine And.intro (by omega) ?_)
        | (with_reducible change postOf _ _ _ _ _; simp [-List.reduceReplicate, Nat.add_one_le_iff, -getElem?_pos, -getElem?_neg, List.getElem?_cons_zero, List.getElem?_cons_succ, hl, k0, k1, k2, k3, k4, hashM, e1, e2, bC, u64C, set4, toList_inj])
        | fail)
      refine awp_forU [7, 8, 9, 10] (fun i (_u : Unit) => [(10, .c (iC i))]) (fun i (_u : Unit) => [⟨22, 1, false, 0, up [.v (.string s), .v (.string t)], none⟩, ⟨25, 32, false, 0, up abcd, none⟩, ⟨27, 1, false, 0, up [u64C n, u64C n], none⟩]) (fun i (_u : Unit) => True) (4) (()) (by first | trivial | (simp; done) | omega | (intros; simp at *; done)) (by simp [-List.reduceReplicate, keep, iC, u64C]) (by simp [-List.reduceReplicate, iC, u64C]) ?_
      rintro i _u Q1 hi hH next hother
      conv => arg 5; arg 1; simp only [List.cons_append, List.nil_append, keep, get, Nat.reduceEqDiff, if_true, if_false, ↓reduceIte]
      have hwi := wrap_in ((i : Int) + 1) (by omega)
      by_cases hlt : i < 4
      · repeat' (first 
          | with_reducible refine awp_scope ?_
          | with_reducible refine awp_seq ?_
          | with_reducible refine awp_block ?_
          | (with_reducible refine awp_label ?_; try simp only [thenA, inBlockA, noGotoA])
          | (with_reducible refine awp_skip ?_; try simp only [thenA, inBlockA, noGotoA])
          | (with_reducible refine awp_exit ?_; simp only [thenA, inBlockA, noGotoA, if_true, Nat.reduceEqDiff, if_false, ↓reduceIte])
          | (with_reducible refine awp_ret ?_; (try simp only [thenA, inBlockA, noGotoA]); (try simp [-List.reduceReplicate, Nat.add_one_le_iff, -getElem?_pos, -getElem?_neg, List.getElem?_cons_zero, List.getElem?_cons_succ, iC, hlt]))
          | (with_reducible refine awp_reg 109 hX [3, 4, 5, 6, 7, 8, 9, 10, 11, 82, 86, 107] ?_; simp [-List.reduceReplicate, Nat.add_one_le_iff, -getElem?_pos, -getElem?_neg, List.getElem?_cons_zero, List.getElem?_cons_succ, iC, hlt])
          | (with_reducible refine awp_drw 109 hX [3, 4, 5, 6, 7, 8, 9, 10, 11, 82, 86, 107] Tab.mixed (by kernel_rfl) ?_; simp [-List.reduceReplicate, Nat.add_one_le_iff, -getElem?_pos, -getElem?_neg, List.getElem?_cons_zero, List.getElem?_cons_succ, iC, hlt])
          | (with_reducible refine awp_if_b rfl (fun hc => ?_) (fun hc => ?_) <;> (try simp [-getElem?_pos, -getElem?_neg] at hc) <;> (try (exfalso; omega)))
          | (with_reducible refine GuardK_b (fun hc => ?_) (fun hc => ?_) <;> (try simp only [Bool.not_eq_true', Bool.not_eq_false', decide_eq_true_eq, decide_eq_false_iff_not] at hc) <;> (first | (exfalso; omega) | skip) <;> simp [-List.reduceReplicate, Nat.add_one_le_iff, -getElem?_pos, -getElem?_neg, List.getElem?_cons_zero, List.getElem?_cons_succ, iC, hlt, hc])
          | (with_reducible refine DGuard_b _ _ _ _ _ _ _ _ _ _ (fun hc => ?_) (fun hc => ?_) <;> (try simp only [Bool.not_eq_true', Bool.not_eq_false', decide_eq_true_eq, decide_eq_false_iff_not] at hc) <;> (first | (exfalso; omega) | skip) <;> simp [-List.reduceReplicate, Nat.add_one_le_iff, -getElem?_pos, -getElem?_neg, List.getElem?_cons_zero, List.getElem?_cons_succ, iC, hlt, hc])
          | (with_reducible refine DEv_cut _ _ _ _ _ _ _ _ _ _ _ _ (by kernel_rfl) ?_; simp [-List.reduceReplicate, Nat.add_one_le_iff, -getElem?_pos, -getElem?_neg, List.getElem?_cons_zero, List.getElem?_cons_succ, iC, hlt])
          | ((with_reducible refine hother _ _ rfl ?_); simp only [inBlockA, thenA, noGotoA, Nat.reduceEqDiff, if_false, if_true, ↓reduceIte])
          | ((with_reducible refine hother2 _ _ rfl ?_); simp only [inBlockA, thenA, noGotoA, Nat.reduceEqDiff, if_false, if_true, ↓reduceIte])
          | ((with_reducible refine hother3 _ _ rfl ?_); simp only [inBlockA, thenA, noGotoA, Nat.reduceEqDiff, if_false, if_true, ↓reduceIte])
          | (with_reducible refine And.intro (by omega) ?_)
          | (with_reducible change postOf _ _ _ _ _; simp [-List.reduceReplicate, Nat.add_one_le_iff, -getElem?_pos, -getElem?_neg, List.getElem?_cons_zero, List.getElem?_cons_succ, iC, hlt])
          | fail)
        have next0 := next; have hother2 := hother; clear next hother
        refine awp_forU [7, 8, 9, 10, 11] (fun k (_u : Unit) => [(11, .c (iC k))]) (fun k (_u : Unit) => [⟨22, 1, false, 0, up [.v (.string s), .v (.string t)], none⟩, ⟨25, 32, false, 0, up abcd, none⟩, ⟨27, 1, false, 0, up [u64C n, u64C n], none⟩]) (fun k (_u : Unit) => True) (4) (()) (by first | trivial | (simp; done) | omega | (intros; simp at *; done)) (by simp [-List.reduceReplicate, keep, iC]) (by simp [-List.reduceReplicate, iC]) ?_
        rintro k _u Q1 hi hH next hother
        conv => arg 5; arg 1; simp only [List.cons_append, List.nil_append, keep, get, Nat.reduceEqDiff, if_true, if_false, ↓reduceIte]
        have hwk := wrap_in ((k : Int) + 1) (by omega)
        by_cases hlk : k < 4
        · obtain ⟨x, y, z, g1, g2, g3, g4⟩ := apart i k hlt hlk
          simp only [bC] at g3
          by_cases hik : i = k
          · subst hik
            simp only [decide_true, Bool.true_and] at g4
            repeat' (first 
              | with_reducible refine awp_scope ?_
              | with_reducible refine awp_seq ?_
              | with_reducible refine awp_block ?_
              | (with_reducible refine awp_label ?_; try simp only [thenA, inBlockA, noGotoA])
              | (with_reducible refine awp_skip ?_; try simp only [thenA, inBlockA, noGotoA])
              | (with_reducible refine awp_exit ?_; simp only [thenA, inBlockA, noGotoA, if_true, Nat.reduceEqDiff, if_false, ↓reduceIte])
              | (with_reducible refine awp_ret ?_; (try simp only [thenA, inBlockA, noGotoA]); (try simp [-List.reduceReplicate, Nat.add_one_le_iff, -getElem?_pos, -getElem?_neg, List.getElem?_cons_zero, List.getElem?_cons_succ, iC, hlt, hwk, g1, g2, g3, g4, toList_inj]))
              | (with_reducible refine awp_reg 109 hX [3, 4, 5, 6, 7, 8, 9, 10, 11, 82, 86, 107] ?_; simp [-List.reduceReplicate, Nat.add_one_le_iff, -getElem?_pos, -getElem?_neg, List.getElem?_cons_zero, List.getElem?_cons_succ, iC, hlt, hwk, g1, g2, g3, g4, toList_inj])
              | (with_reducible refine awp_drw 109 hX [3, 4, 5, 6, 7, 8, 9, 10, 11, 82, 86, 107] Tab.mixed (by kernel_rfl) ?_; simp [-List.reduceReplicate, Nat.add_one_le_iff, -getElem?_pos, -getElem?_neg, List.getElem?_cons_zero, List.getElem?_cons_succ, iC, hlt, hwk, g1, g2, g3, g4, toList_inj])
              | (with_reducible refine awp_if_b rfl (fun hc => ?_) (fun hc => ?_) <;> (try simp [-getElem?_pos, -getElem?_neg] at hc) <;> (try (exfalso; omega)))
              | (with_reducible refine GuardK_b (fun hc => ?_) (fun hc => ?_) <;> (try simp only [Bool.not_eq_true', Bool.not_eq_false', decide_eq_true_eq, decide_eq_false_iff_not] at hc) <;> (first | (exfalso; omega) | skip) <;> simp [-List.reduceReplicate, Nat.add_one_le_iff, -getElem?_pos, -getElem?_neg, List.getElem?_cons_zero, List.getElem?_cons_succ, iC, hlt, hwk, g1, g2, g3, g4, toList_inj, hc])
              | (with_reducible refine DGuard_b _ _ _ _ _ _ _ _ _ _ (fun hc => ?_) (fun hc => ?_) <;> (try simp only [Bool.not_eq_true', Bool.not_eq_false', decide_eq_true_eq, decide_eq_false_iff_not] at hc) <;> (first | (exfalso; omega) | skip) <;> simp [-List.reduceReplicate, Nat.add_one_le_iff, -getElem?_pos, -getElem?_neg, List.getElem?_cons_zero, List.getElem?_cons_succ, iC, hlt, hwk, g1, g2, g3, g4, toList_inj, hc])
              | (with_reducible refine DEv_cut _ _ _ _ _ _ _ _ _ _ _ _ (by kernel_rfl) ?_; simp [-List.reduceReplicate, Nat.add_one_le_iff, -getElem?_pos, -getElem?_neg, List.getElem?_cons_zero, List.getElem?_cons_succ, iC, hlt, hwk, g1, g2, g3, g4, toList_inj])
              | ((with_reducible refine hother _ _ rfl ?_); simp only [inBlockA, thenA, noGotoA, Nat.reduceEqDiff, if_false, if_true, ↓reduceIte])
              | ((with_reducible refine hother2 _ _ rfl ?_); simp only [inBlockA, thenA, noGotoA, Nat.reduceEqDiff, if_false, if_true, ↓reduceIte])
              | ((with_reducible refine hother3 _ _ rfl ?_); simp only [inBlockA, thenA, noGotoA, Nat.reduceEqDiff, if_false, if_true, ↓reduceIte])
              | (with_reducible refine And.intro (by omega) ?_)
              | (with_reducible change postOf _ _ _ _ _; simp [-List.reduceReplicate, Nat.add_one_le_iff, -getElem?_pos, -getElem?_neg, List.getElem?_cons_zero, List.getElem?_cons_succ, iC, hlt, hwk, g1, g2, g3, g4, toList_inj])
              | fail)
            refine next _ _ (()) (by omega) (by first | trivial | omega | assumption) (by simp [-List.reduceReplicate, keep, iC]) (by simp [-List.reduceReplicate, iC])
          · have g5 : ¬ x = y := by simpa [hik] using g4
            repeat' (first 
              | with_reducible refine awp_scope ?_
              | with_reducible refine awp_seq ?_
              | with_reducible refine awp_block ?_
              | (with_reducible refine awp_label ?_; try simp only [thenA, inBlockA, noGotoA])
              | (with_reducible refine awp_skip ?_; try simp only [thenA, inBlockA, noGotoA])
              | (with_reducible refine awp_exit ?_; simp only [thenA, inBlockA, noGotoA, if_true, Nat.reduceEqDiff, if_false, ↓reduceIte])
              | (with_reducible refine awp_ret ?_; (try simp only [thenA, inBlockA, noGotoA]); (try simp [-List.reduceReplicate, Nat.add_one_le_iff, -getElem?_pos, -getElem?_neg, List.getElem?_cons_zero, List.getElem?_cons_succ, iC, hlt, hlk, hwk, g1, g2, g3, g5, hik, toList_inj]))
              | (with_reducible refine awp_reg 109 hX [3, 4, 5, 6, 7, 8, 9, 10, 11, 82, 86, 107] ?_; simp [-List.reduceReplicate, Nat.add_one_le_iff, -getElem?_pos, -getElem?_neg, List.getElem?_cons_zero, List.getElem?_cons_succ, iC, hlt, hlk, hwk, g1, g2, g3, g5, hik, toList_inj])
              | (with_reducible refine awp_drw 109 hX [3, 4, 5, 6, 7, 8, 9, 10, 11, 82, 86, 107] Tab.mixed (by kernel_rfl) ?_; simp [-List.reduceReplicate, Nat.add_one_le_iff, -getElem?_pos, -getElem?_neg, List.getElem?_cons_zero, List.getElem?_cons_succ, iC, hlt, hlk, hwk, g1, g2, g3, g5, hik, toList_inj])
              | (with_reducible refine awp_if_b rfl (fun hc => ?_) (fun hc => ?_) <;> (try simp [-getElem?_pos, -getElem?_neg] at hc) <;> (try (exfalso; omega)))
              | (with_reducible refine GuardK_b (fun hc => ?_) (fun hc => ?_) <;> (try simp only [Bool.not_eq_true', Bool.not_eq_false', decide_eq_true_eq, decide_eq_false_iff_not] at hc) <;> (first | (exfalso; omega) | skip) <;> simp [-List.reduceReplicate, Nat.add_one_le_iff, -getElem?_pos, -getElem?_neg, List.getElem?_cons_zero, List.getElem?_cons_succ, iC, hlt, hlk, hwk, g1, g2, g3, g5, hik, toList_inj, hc])
              | (with_reducible refine DGuard_b _ _ _ _ _ _ _ _ _ _ (fun hc => ?_) (fun hc => ?_) <;> (try simp only [Bool.not_eq_true', Bool.not_eq_false', decide_eq_true_eq, decide_eq_false_iff_not] at hc) <;> (first | (exfalso; omega) | skip) <;> simp [-List.reduceReplicate, Nat.add_one_le_iff, -getElem?_pos, -getElem?_neg, List.getElem?_cons_zero, List.getElem?_cons_succ, iC, hlt, hlk, hwk, g1, g2, g3, g5, hik, toList_inj, hc])
              | (with_reducible refine DEv_cut _ _ _ _ _ _ _ _ _ _ _ _ (by kernel_rfl) ?_; simp [-List.reduceReplicate, Nat.add_one_le_iff, -getElem?_pos, -getElem?_neg, List.getElem?_cons_zero, List.getElem?_cons_succ, iC, hlt, hlk, hwk, g1, g2, g3, g5, hik, toList_inj])
              | ((with_reducible refine hother _ _ rfl ?_); simp only [inBlockA, thenA, noGotoA, Nat.reduceEqDiff, if_false, if_true, ↓reduceIte])
              | ((with_reducible refine hother2 _ _ rfl ?_); simp only [inBlockA, thenA, noGotoA, Nat.reduceEqDiff, if_false, if_true, ↓reduceIte])
              | ((with_reducible refine hother3 _ _ rfl ?_); simp only [inBlockA, thenA, noGotoA, Nat.reduceEqDiff, if_false, if_true, ↓reduceIte])
              | (with_reducible refine And.intro (by omega) ?_)
              | (with_reducible change postOf _ _ _ _ _; simp [-List.reduceReplicate, Nat.add_one_le_iff, -getElem?_pos, -getElem?_neg, List.getElem?_cons_zero, List.getElem?_cons_succ, iC, hlt, hlk, hwk, g1, g2, g3, g5, hik, toList_inj])
              | fail)
            refine next _ _ (()) (by omega) (by first | trivial | omega | assumption) (by simp [-List.reduceReplicate, keep, iC]) (by simp [-List.reduceReplicate, iC])
        · have hk : k = 4 := by omega
          subst hk
          repeat' (first 
            | with_reducible refine awp_scope ?_
            | with_reducible refine awp_seq ?_
            | with_reducible refine awp_block ?_
            | (with_reducible refine awp_label ?_; try simp only [thenA, inBlockA, noGotoA])
            | (with_reducible refine awp_skip ?_; try simp only [thenA, inBlockA, noGotoA])
            | (with_reducible refine awp_exit ?_; simp only [thenA, inBlockA, noGotoA, if_true, Nat.reduceEqDiff, if_false, ↓reduceIte])
            | (with_reducible refine awp_ret ?_; (try simp only [thenA, inBlockA, noGotoA]); (try simp [-List.reduceReplicate, Nat.add_one_le_iff, -getElem?_pos, -getElem?_neg, List.getElem?_cons_zero, List.getElem?_cons_succ, iC, hwi]))
            | (with_reducible refine awp_reg 109 hX [3, 4, 5, 6, 7, 8, 9, 10, 11, 82, 86, 107] ?_; simp [-List.reduceReplicate, Nat.add_one_le_iff, -getElem?_pos, -getElem?_neg, List.getElem?_cons_zero, List.getElem?_cons_succ, iC, hwi])
            | (with_reducible refine awp_drw 109 hX [3, 4, 5, 6, 7, 8, 9, 10, 11, 82, 86, 107] Tab.mixed (by kernel_rfl) ?_; simp [-List.reduceReplicate, Nat.add_one_le_iff, -getElem?_pos, -getElem?_neg, List.getElem?_cons_zero, List.getElem?_cons_succ, iC, hwi])
            | (with_reducible refine awp_if_b rfl (fun hc => ?_) (fun hc => ?_) <;> (try simp [-getElem?_pos, -getElem?_neg] at hc) <;> (try (exfalso; omega)))
            | (with_reducible refine GuardK_b (fun hc => ?_) (fun hc => ?_) <;> (try simp only [Bool.not_eq_true', Bool.not_eq_false', decide_eq_true_eq, decide_eq_false_iff_not] at hc) <;> (first | (exfalso; omega) | skip) <;> simp [-List.reduceReplicate, Nat.add_one_le_iff, -getElem?_pos, -getElem?_neg, List.getElem?_cons_zero, List.getElem?_cons_succ, iC, hwi, hc])
            | (with_reducible refine DGuard_b _ _ _ _ _ _ _ _ _ _ (fun hc => ?_) (fun hc => ?_) <;> (try simp only [Bool.not_eq_true', Bool.not_eq_false', decide_eq_true_eq, decide_eq_false_iff_not] at hc) <;> (first | (exfalso; omega) | skip) <;> simp [-List.reduceReplicate, Nat.add_one_le_iff, -getElem?_pos, -getElem?_neg, List.getElem?_cons_zero, List.getElem?_cons_succ, iC, hwi, hc])
            | (with_reducible refine DEv_cut _ _ _ _ _ _ _ _ _ _ _ _ (by kernel_rfl) ?_; simp [-List.reduceReplicate, Nat.add_one_le_iff, -getElem?_pos, -getElem?_neg, List.getElem?_cons_zero, List.getElem?_cons_succ, iC, hwi])
            | ((with_reducible refine hother _ _ rfl ?_); simp only [inBlockA, thenA, noGotoA, Nat.reduceEqDiff, if_false, if_true, ↓reduceIte])
            | ((with_reducible refine hother2 _ _ rfl ?_); simp only [inBlockA, thenA, noGotoA, Nat.reduceEqDiff, if_false, if_true, ↓reduceIte])
            | ((with_reducible refine hother3 _ _ rfl ?_); simp only [inBlockA, thenA, noGotoA, Nat.reduceEqDiff, if_false, if_true, ↓reduceIte])
            | (with_reducible refine And.intro (by omega) ?_)
            | (with_reducible change postOf _ _ _ _ _; simp [-List.reduceReplicate, Nat.add_one_le_iff, -getElem?_pos, -getElem?_neg, List.getElem?_cons_zero, List.getElem?_cons_succ, iC, hwi])
            | fail)
          refine next0 _ _ (()) (by omega) (by first | trivial | omega | assumption) (by simp [-List.reduceReplicate, keep, iC]) (by simp [-List.reduceReplicate, iC])
      · have hi4 : i = 4 := by omega
        subst hi4
        repeat' (first 
          | with_reducible refine awp_scope ?_
          | with_reducible refine awp_seq ?_
          | with_reducible refine awp_block ?_
          | (with_reducible refine awp_label ?_; try simp only [thenA, inBlockA, noGotoA])
          | (with_reducible refine awp_skip ?_; try simp only [thenA, inBlockA, noGotoA])
          | (with_reducible refine awp_exit ?_; simp only [thenA, inBlockA, noGotoA, if_true, Nat.reduceEqDiff, if_false, ↓reduceIte])
          | (with_reducible refine awp_ret ?_; (try simp only [thenA, inBlockA, noGotoA]); (try simp [-List.reduceReplicate, Nat.add_one_le_iff, -getElem?_pos, -getElem?_neg, List.getElem?_cons_zero, List.getElem?_cons_succ, iC, bC]))
          | (with_reducible refine awp_reg 109 hX [3, 4, 5, 6, 7, 8, 9, 10, 11, 82, 86, 107] ?_; simp [-List.reduceReplicate, Nat.add_one_le_iff, -getElem?_pos, -getElem?_neg, List.getElem?_cons_zero, List.getElem?_cons_succ, iC, bC])
          | (with_reducible refine awp_drw 109 hX [3, 4, 5, 6, 7, 8, 9, 10, 11, 82, 86, 107] Tab.mixed (by kernel_rfl) ?_; simp [-List.reduceReplicate, Nat.add_one_le_iff, -getElem?_pos, -getElem?_neg, List.getElem?_cons_zero, List.getElem?_cons_succ, iC, bC])
          | ((with_reducible refine Den.at_ (f := 18) ?_); refine (awake03_den _).det ?_; try simp [-List.reduceReplicate, Nat.add_one_le_iff, -getElem?_pos, -getElem?_neg, List.getElem?_cons_zero, List.getElem?_cons_succ, iC, bC])
          | ((with_reducible refine drawn_at (f := 18) ?_); refine ⟨_, _, awake03_den _, fun _ => rfl, ?_⟩; try simp [-List.reduceReplicate, Nat.add_one_le_iff, -getElem?_pos, -getElem?_neg, List.getElem?_cons_zero, List.getElem?_cons_succ, iC, bC])
          | (with_reducible refine awp_if_b rfl (fun hc => ?_) (fun hc => ?_) <;> (try simp [-getElem?_pos, -getElem?_neg] at hc) <;> (try (exfalso; omega)))
          | (with_reducible refine GuardK_b (fun hc => ?_) (fun hc => ?_) <;> (try simp only [Bool.not_eq_true', Bool.not_eq_false', decide_eq_true_eq, decide_eq_false_iff_not] at hc) <;> (first | (exfalso; omega) | skip) <;> simp [-List.reduceReplicate, Nat.add_one_le_iff, -getElem?_pos, -getElem?_neg, List.getElem?_cons_zero, List.getElem?_cons_succ, iC, bC, hc])
          | (with_reducible refine DGuard_b _ _ _ _ _ _ _ _ _ _ (fun hc => ?_) (fun hc => ?_) <;> (try simp only [Bool.not_eq_true', Bool.not_eq_false', decide_eq_true_eq, decide_eq_false_iff_not] at hc) <;> (first | (exfalso; omega) | skip) <;> simp [-List.reduceReplicate, Nat.add_one_le_iff, -getElem?_pos, -getElem?_neg, List.getElem?_cons_zero, List.getElem?_cons_succ, iC, bC, hc])
          | (with_reducible refine DEv_cut _ _ _ _ _ _ _ _ _ _ _ _ (by kernel_rfl) ?_; simp [-List.reduceReplicate, Nat.add_one_le_iff, -getElem?_pos, -getElem?_neg, List.getElem?_cons_zero, List.getElem?_cons_succ, iC, bC])
          | ((with_reducible refine hother _ _ rfl ?_); simp only [inBlockA, thenA, noGotoA, Nat.reduceEqDiff, if_false, if_true, ↓reduceIte])
          | ((with_reducible refine hother2 _ _ rfl ?_); simp only [inBlockA, thenA, noGotoA, Nat.reduceEqDiff, if_false, if_true, ↓reduceIte])
          | ((with_reducible refine hother3 _ _ rfl ?_); simp only [inBlockA, thenA, noGotoA, Nat.reduceEqDiff, if_false, if_true, ↓reduceIte])
          | (with_reducible refine And.intro (by omega) ?_)
          | (with_reducible change postOf _ _ _ _ _; simp [-List.reduceReplicate, Nat.add_one_le_iff, -getElem?_pos, -getElem?_neg, List.getElem?_cons_zero, List.getElem?_cons_succ, iC, bC])
          | fail)
    · have hnm' := hnm
      simp only [hnm, decide_false] at apart
      generalize bsS (leafT s) = x1 at *
      generalize bsS (nodeT a b) = x2 at *
      generalize bsS (rootT n a) = x3 at *
      generalize bsS (headT s) = x4 at *
      generalize bsS (leafT t) = y1 at *
      generalize bsS (nodeT a d) = y2 at *
      generalize bsS (rootT m a) = y3 at *
      generalize bsS (headT t) = y4 at *
      generalize a.map bC8 ++ (b.map bC8 ++ (a.map bC8 ++ d.map bC8)) = abcd at *
      refine den_of Try.func3 rfl rfl (by simp [Try.ntmps3]) (fun X hX hO => ?_)
      rw [Try.ntmps3] at hX
      simp only [Try.results3]
      repeat' (first 
        | with_reducible refine awp_scope ?_
        | with_reducible refine awp_seq ?_
        | with_reducible refine awp_block ?_
        | (with_reducible refine awp_label ?_; try simp only [thenA, inBlockA, noGotoA])
        | (with_reducible refine awp_skip ?_; try simp only [thenA, inBlockA, noGotoA])
        | (with_reducible refine awp_exit ?_; simp only [thenA, inBlockA, noGotoA, if_true, Nat.reduceEqDiff, if_false, ↓reduceIte])
        | (with_reducible refine awp_ret ?_; (try simp only [thenA, inBlockA, noGotoA]); (try simp [-List.reduceReplicate, Nat.add_one_le_iff, -getElem?_pos, -getElem?_neg, List.getElem?_cons_zero, List.getElem?_cons_succ, hl, k0, k1, k2, k3, k4, hashM, e1, e2, bC, u64C, set4, toList_inj, hnm]))
        | (with_reducible refine awp_reg 109 hX [3, 4, 5, 6, 7, 8, 9, 10, 11, 82, 86, 107] ?_; simp [-List.reduceReplicate, Nat.add_one_le_iff, -getElem?_pos, -getElem?_neg, List.getElem?_cons_zero, List.getElem?_cons_succ, hl, k0, k1, k2, k3, k4, hashM, e1, e2, bC, u64C, set4, toList_inj, hnm])
        | (with_reducible refine awp_drw 109 hX [3, 4, 5, 6, 7, 8, 9, 10, 11, 82, 86, 107] Tab.mixed (by kernel_rfl) ?_; simp [-List.reduceReplicate, Nat.add_one_le_iff, -getElem?_pos, -getElem?_neg, List.getElem?_cons_zero, List.getElem?_cons_succ, hl, k0, k1, k2, k3, k4, hashM, e1, e2, bC, u64C, set4, toList_inj, hnm])
        | (refine (d1 _).det ?_; try simp [-List.reduceReplicate, Nat.add_one_le_iff, -getElem?_pos, -getElem?_neg, List.getElem?_cons_zero, List.getElem?_cons_succ, hl, k0, k1, k2, k3, k4, hashM, e1, e2, bC, u64C, set4, toList_inj, hnm])
        | (refine ⟨_, _, d1 _, fun _ => rfl, ?_⟩; try simp [-List.reduceReplicate, Nat.add_one_le_iff, -getElem?_pos, -getElem?_neg, List.getElem?_cons_zero, List.getElem?_cons_succ, hl, k0, k1, k2, k3, k4, hashM, e1, e2, bC, u64C, set4, toList_inj, hnm])
        | (refine (d2 _).det ?_; try simp [-List.reduceReplicate, Nat.add_one_le_iff, -getElem?_pos, -getElem?_neg, List.getElem?_cons_zero, List.getElem?_cons_succ, hl, k0, k1, k2, k3, k4, hashM, e1, e2, bC, u64C, set4, toList_inj, hnm])
        | (refine ⟨_, _, d2 _, fun _ => rfl, ?_⟩; try simp [-List.reduceReplicate, Nat.add_one_le_iff, -getElem?_pos, -getElem?_neg, List.getElem?_cons_zero, List.getElem?_cons_succ, hl, k0, k1, k2, k3, k4, hashM, e1, e2, bC, u64C, set4, toList_inj, hnm])
        | (refine (d3 _).det ?_; try simp [-List.reduceReplicate, Nat.add_one_le_iff, -getElem?_pos, -getElem?_neg, List.getElem?_cons_zero, List.getElem?_cons_succ, hl, k0, k1, k2, k3, k4, hashM, e1, e2, bC, u64C, set4, toList_inj, hnm])
        | (refine ⟨_, _, d3 _, fun _ => rfl, ?_⟩; try simp [-List.reduceReplicate, Nat.add_one_le_iff, -getElem?_pos, -getElem?_neg, List.getElem?_cons_zero, List.getElem?_cons_succ, hl, k0, k1, k2, k3, k4, hashM, e1, e2, bC, u64C, set4, toList_inj, hnm])
        | (refine (d4 _).det ?_; try simp [-List.reduceReplicate, Nat.add_one_le_iff, -getElem?_pos, -getElem?_neg, List.getElem?_cons_zero, List.getElem?_cons_succ, hl, k0, k1, k2, k3, k4, hashM, e1, e2, bC, u64C, set4, toList_inj, hnm])
        | (refine ⟨_, _, d4 _, fun _ => rfl, ?_⟩; try simp [-List.reduceReplicate, Nat.add_one_le_iff, -getElem?_pos, -getElem?_neg, List.getElem?_cons_zero, List.getElem?_cons_succ, hl, k0, k1, k2, k3, k4, hashM, e1, e2, bC, u64C, set4, toList_inj, hnm])
        | (refine (r1 _).det ?_; try simp [-List.reduceReplicate, Nat.add_one_le_iff, -getElem?_pos, -getElem?_neg, List.getElem?_cons_zero, List.getElem?_cons_succ, hl, k0, k1, k2, k3, k4, hashM, e1, e2, bC, u64C, set4, toList_inj, hnm])
        | (refine ⟨_, _, r1 _, fun _ => rfl, ?_⟩; try simp [-List.reduceReplicate, Nat.add_one_le_iff, -getElem?_pos, -getElem?_neg, List.getElem?_cons_zero, List.getElem?_cons_succ, hl, k0, k1, k2, k3, k4, hashM, e1, e2, bC, u64C, set4, toList_inj, hnm])
        | (refine (r2 _).det ?_; try simp [-List.reduceReplicate, Nat.add_one_le_iff, -getElem?_pos, -getElem?_neg, List.getElem?_cons_zero, List.getElem?_cons_succ, hl, k0, k1, k2, k3, k4, hashM, e1, e2, bC, u64C, set4, toList_inj, hnm])
        | (refine ⟨_, _, r2 _, fun _ => rfl, ?_⟩; try simp [-List.reduceReplicate, Nat.add_one_le_iff, -getElem?_pos, -getElem?_neg, List.getElem?_cons_zero, List.getElem?_cons_succ, hl, k0, k1, k2, k3, k4, hashM, e1, e2, bC, u64C, set4, toList_inj, hnm])
        | (refine (r3 _).det ?_; try simp [-List.reduceReplicate, Nat.add_one_le_iff, -getElem?_pos, -getElem?_neg, List.getElem?_cons_zero, List.getElem?_cons_succ, hl, k0, k1, k2, k3, k4, hashM, e1, e2, bC, u64C, set4, toList_inj, hnm])
        | (refine ⟨_, _, r3 _, fun _ => rfl, ?_⟩; try simp [-List.reduceReplicate, Nat.add_one_le_iff, -getElem?_pos, -getElem?_neg, List.getElem?_cons_zero, List.getElem?_cons_succ, hl, k0, k1, k2, k3, k4, hashM, e1, e2, bC, u64C, set4, toList_inj, hnm])
        | (refine (r4 _).det ?_; try simp [-List.reduceReplicate, Nat.add_one_le_iff, -getElem?_pos, -getElem?_neg, List.getElem?_cons_zero, List.getElem?_cons_succ, hl, k0, k1, k2, k3, k4, hashM, e1, e2, bC, u64C, set4, toList_inj, hnm])
        | (refine ⟨_, _, r4 _, fun _ => rfl, ?_⟩; try simp [-List.reduceReplicate, Nat.add_one_le_iff, -getElem?_pos, -getElem?_neg, List.getElem?_cons_zero, List.getElem?_cons_succ, hl, k0, k1, k2, k3, k4, hashM, e1, e2, bC, u64C, set4, toList_inj, hnm])
        | (with_reducible refine awp_if_b rfl (fun hc => ?_) (fun hc => ?_) <;> (try simp [-getElem?_pos, -getElem?_neg] at hc) <;> (try (exfalso; omega)))
        | (with_reducible refine GuardK_b (fun hc => ?_) (fun hc => ?_) <;> (try simp only [Bool.not_eq_true', Bool.not_eq_false', decide_eq_true_eq, decide_eq_false_iff_not] at hc) <;> (first | (exfalso; omega) | skip) <;> simp [-List.reduceReplicate, Nat.add_one_le_iff, -getElem?_pos, -getElem?_neg, List.getElem?_cons_zero, List.getElem?_cons_succ, hl, k0, k1, k2, k3, k4, hashM, e1, e2, bC, u64C, set4, toList_inj, hnm, hc])
        | (with_reducible refine DGuard_b _ _ _ _ _ _ _ _ _ _ (fun hc => ?_) (fun hc => ?_) <;> (try simp only [Bool.not_eq_true', Bool.not_eq_false', decide_eq_true_eq, decide_eq_false_iff_not] at hc) <;> (first | (exfalso; omega) | skip) <;> simp [-List.reduceReplicate, Nat.add_one_le_iff, -getElem?_pos, -getElem?_neg, List.getElem?_cons_zero, List.getElem?_cons_succ, hl, k0, k1, k2, k3, k4, hashM, e1, e2, bC, u64C, set4, toList_inj, hnm, hc])
        | (with_reducible refine DEv_cut _ _ _ _ _ _ _ _ _ _ _ _ (by kernel_rfl) ?_; simp [-List.reduceReplicate, Nat.add_one_le_iff, -getElem?_pos, -getElem?_neg, List.getElem?_cons_zero, List.getElem?_cons_succ, hl, k0, k1, k2, k3, k4, hashM, e1, e2, bC, u64C, set4, toList_inj, hnm])
        | ((with_reducible refine hother _ _ rfl ?_); simp only [inBlockA, thenA, noGotoA, Nat.reduceEqDiff, if_false, if_true, ↓reduceIte])
        | ((with_reducible refine hother2 _ _ rfl ?_); simp only [inBlockA, thenA, noGotoA, Nat.reduceEqDiff, if_false, if_true, ↓reduceIte])
        | ((with_reducible refine hother3 _ _ rfl ?_); simp only [inBlockA, thenA, noGotoA, Nat.reduceEqDiff, if_false, if_true, ↓reduceIte])
        | (with_reducible refine And.intro (by omega) ?_)
        | (with_reducible change postOf _ _ _ _ _; simp [-List.reduceReplicate, Nat.add_one_le_iff, -getElem?_pos, -getElem?_neg, List.getElem?_cons_zero, List.getElem?_cons_succ, hl, k0, k1, k2, k3, k4, hashM, e1, e2, bC, u64C, set4, toList_inj, hnm])
        | fail)
      refine awp_forU [7, 8, 9, 10] (fun i (_u : Unit) => [(10, .c (iC i))]) (fun i (_u : Unit) => [⟨22, 1, false, 0, up [.v (.string s), .v (.string t)], none⟩, ⟨25, 32, false, 0, up abcd, none⟩, ⟨27, 1, false, 0, up [u64C n, u64C m], none⟩]) (fun i (_u : Unit) => True) (4) (()) (by first | trivial | (simp; done) | omega | (intros; simp at *; done)) (by simp [-List.reduceReplicate, keep, iC, u64C]) (by simp [-List.reduceReplicate, iC, u64C]) ?_
      rintro i _u Q1 hi hH next hother
      conv => arg 5; arg 1; simp only [List.cons_append, List.nil_append, keep, get, Nat.reduceEqDiff, if_true, if_false, ↓reduceIte]
      have hwi := wrap_in ((i : Int) + 1) (by omega)
      by_cases hlt : i < 4
      · repeat' (first 
          | with_reducible refine awp_scope ?_
          | with_reducible refine awp_seq ?_
          | with_reducible refine awp_block ?_
          | (with_reducible refine awp_label ?_; try simp only [thenA, inBlockA, noGotoA])
          | (with_reducible refine awp_skip ?_; try simp only [thenA, inBlockA, noGotoA])
          | (with_reducible refine awp_exit ?_; simp only [thenA, inBlockA, noGotoA, if_true, Nat.reduceEqDiff, if_false, ↓reduceIte])
          | (with_reducible refine awp_ret ?_; (try simp only [thenA, inBlockA, noGotoA]); (try simp [-List.reduceReplicate, Nat.add_one_le_iff, -getElem?_pos, -getElem?_neg, List.getElem?_cons_zero, List.getElem?_cons_succ, iC, hlt]))
          | (with_reducible refine awp_reg 109 hX [3, 4, 5, 6, 7, 8, 9, 10, 11, 82, 86, 107] ?_; simp [-List.reduceReplicate, Nat.add_one_le_iff, -getElem?_pos, -getElem?_neg, List.getElem?_cons_zero, List.getElem?_cons_succ, iC, hlt])
          | (with_reducible refine awp_drw 109 hX [3, 4, 5, 6, 7, 8, 9, 10, 11, 82, 86, 107] Tab.mixed (by kernel_rfl) ?_; simp [-List.reduceReplicate, Nat.add_one_le_iff, -getElem?_pos, -getElem?_neg, List.getElem?_cons_zero, List.getElem?_cons_succ, iC, hlt])
          | (with_reducible refine awp_if_b rfl (fun hc => ?_) (fun hc => ?_) <;> (try simp [-getElem?_pos, -getElem?_neg] at hc) <;> (try (exfalso; omega)))
          | (with_reducible refine GuardK_b (fun hc => ?_) (fun hc => ?_) <;> (try simp only [Bool.not_eq_true', Bool.not_eq_false', decide_eq_true_eq, decide_eq_false_iff_not] at hc) <;> (first | (exfalso; omega) | skip) <;> simp [-List.reduceReplicate, Nat.add_one_le_iff, -getElem?_pos, -getElem?_neg, List.getElem?_cons_zero, List.getElem?_cons_succ, iC, hlt, hc])
          | (with_reducible refine DGuard_b _ _ _ _ _ _ _ _ _ _ (fun hc => ?_) (fun hc => ?_) <;> (try simp only [Bool.not_eq_true', Bool.not_eq_false', decide_eq_true_eq, decide_eq_false_iff_not] at hc) <;> (first | (exfalso; omega) | skip) <;> simp [-List.reduceReplicate, Nat.add_one_le_iff, -getElem?_pos, -getElem?_neg, List.getElem?_cons_zero, List.getElem?_cons_succ, iC, hlt, hc])
          | (with_reducible refine DEv_cut _ _ _ _ _ _ _ _ _ _ _ _ (by kernel_rfl) ?_; simp [-List.reduceReplicate, Nat.add_one_le_iff, -getElem?_pos, -getElem?_neg, List.getElem?_cons_zero, List.getElem?_cons_succ, iC, hlt])
          | ((with_reducible refine hother _ _ rfl ?_); simp only [inBlockA, thenA, noGotoA, Nat.reduceEqDiff, if_false, if_true, ↓reduceIte])
          | ((with_reducible refine hother2 _ _ rfl ?_); simp only [inBlockA, thenA, noGotoA, Nat.reduceEqDiff, if_false, if_true, ↓reduceIte])
          | ((with_reducible refine hother3 _ _ rfl ?_); simp only [inBlockA, thenA, noGotoA, Nat.reduceEqDiff, if_false, if_true, ↓reduceIte])
          | (with_reducible refine And.intro (by omega) ?_)
          | (with_reducible change postOf _ _ _ _ _; simp [-List.reduceReplicate, Nat.add_one_le_iff, -getElem?_pos, -getElem?_neg, List.getElem?_cons_zero, List.getElem?_cons_succ, iC, hlt])
          | fail)
        have next0 := next; have hother2 := hother; clear next hother
        refine awp_forU [7, 8, 9, 10, 11] (fun k (_u : Unit) => [(11, .c (iC k))]) (fun k (_u : Unit) => [⟨22, 1, false, 0, up [.v (.string s), .v (.string t)], none⟩, ⟨25, 32, false, 0, up abcd, none⟩, ⟨27, 1, false, 0, up [u64C n, u64C m], none⟩]) (fun k (_u : Unit) => True) (4) (()) (by first | trivial | (simp; done) | omega | (intros; simp at *; done)) (by simp [-List.reduceReplicate, keep, iC]) (by simp [-List.reduceReplicate, iC]) ?_
        rintro k _u Q1 hi hH next hother
        conv => arg 5; arg 1; simp only [List.cons_append, List.nil_append, keep, get, Nat.reduceEqDiff, if_true, if_false, ↓reduceIte]
        have hwk := wrap_in ((k : Int) + 1) (by omega)
        by_cases hlk : k < 4
        · obtain ⟨x, y, z, g1, g2, g3, g4⟩ := apart i k hlt hlk
          simp only [bC] at g3
          by_cases hik : i = k
          · subst hik
            simp only [decide_true, Bool.true_and] at g4
            repeat' (first 
              | with_reducible refine awp_scope ?_
              | with_reducible refine awp_seq ?_
              | with_reducible refine awp_block ?_
              | (with_reducible refine awp_label ?_; try simp only [thenA, inBlockA, noGotoA])
              | (with_reducible refine awp_skip ?_; try simp only [thenA, inBlockA, noGotoA])
              | (with_reducible refine awp_exit ?_; simp only [thenA, inBlockA, noGotoA, if_true, Nat.reduceEqDiff, if_false, ↓reduceIte])
              | (with_reducible refine awp_ret ?_; (try simp only [thenA, inBlockA, noGotoA]); (try simp [-List.reduceReplicate, Nat.add_one_le_iff, -getElem?_pos, -getElem?_neg, List.getElem?_cons_zero, List.getElem?_cons_succ, iC, hlt, hwk, g1, g2, g3, g4, toList_inj]))
              | (with_reducible refine awp_reg 109 hX [3, 4, 5, 6, 7, 8, 9, 10, 11, 82, 86, 107] ?_; simp [-List.reduceReplicate, Nat.add_one_le_iff, -getElem?_pos, -getElem?_neg, List.getElem?_cons_zero, List.getElem?_cons_succ, iC, hlt, hwk, g1, g2, g3, g4, toList_inj])
              | (with_reducible refine awp_drw 109 hX [3, 4, 5, 6, 7, 8, 9, 10, 11, 82, 86, 107] Tab.mixed (by kernel_rfl) ?_; simp [-List.reduceReplicate, Nat.add_one_le_iff, -getElem?_pos, -getElem?_neg, List.getElem?_cons_zero, List.getElem?_cons_succ, iC, hlt, hwk, g1, g2, g3, g4, toList_inj])
              | (with_reducible refine awp_if_b rfl (fun hc => ?_) (fun hc => ?_) <;> (try simp [-getElem?_pos, -getElem?_neg] at hc) <;> (try (exfalso; omega)))
              | (with_reducible refine GuardK_b (fun hc => ?_) (fun hc => ?_) <;> (try simp only [Bool.not_eq_true', Bool.not_eq_false', decide_eq_true_eq, decide_eq_false_iff_not] at hc) <;> (first | (exfalso; omega) | skip) <;> simp [-List.reduceReplicate, Nat.add_one_le_iff, -getElem?_pos, -getElem?_neg, List.getElem?_cons_zero, List.getElem?_cons_succ, iC, hlt, hwk, g1, g2, g3, g4, toList_inj, hc])
              | (with_reducible refine DGuard_b _ _ _ _ _ _ _ _ _ _ (fun hc => ?_) (fun hc => ?_) <;> (try simp only [Bool.not_eq_true', Bool.not_eq_false', decide_eq_true_eq, decide_eq_false_iff_not] at hc) <;> (first | (exfalso; omega) | skip) <;> simp [-List.reduceReplicate, Nat.add_one_le_iff, -getElem?_pos, -getElem?_neg, List.getElem?_cons_zero, List.getElem?_cons_succ, iC, hlt, hwk, g1, g2, g3, g4, toList_inj, hc])
              | (with_reducible refine DEv_cut _ _ _ _ _ _ _ _ _ _ _ _ (by kernel_rfl) ?_; simp [-List.reduceReplicate, Nat.add_one_le_iff, -getElem?_pos, -getElem?_neg, List.getElem?_cons_zero, List.getElem?_cons_succ, iC, hlt, hwk, g1, g2, g3, g4, toList_inj])
              | ((with_reducible refine hother _ _ rfl ?_); simp only [inBlockA, thenA, noGotoA, Nat.reduceEqDiff, if_false, if_true, ↓reduceIte])
              | ((with_reducible refine hother2 _ _ rfl ?_); simp only [inBlockA, thenA, noGotoA, Nat.reduceEqDiff, if_false, if_true, ↓reduceIte])
              | ((with_reducible refine hother3 _ _ rfl ?_); simp only [inBlockA, thenA, noGotoA, Nat.reduceEqDiff, if_false, if_true, ↓reduceIte])
              | (with_reducible refine And.intro (by omega) ?_)
              | (with_reducible change postOf _ _ _ _ _; simp [-List.reduceReplicate, Nat.add_one_le_iff, -getElem?_pos, -getElem?_neg, List.getElem?_cons_zero, List.getElem?_cons_succ, iC, hlt, hwk, g1, g2, g3, g4, toList_inj])
              | fail)
            refine next _ _ (()) (by omega) (by first | trivial | omega | assumption) (by simp [-List.reduceReplicate, keep, iC]) (by simp [-List.reduceReplicate, iC])
          · have g5 : ¬ x = y := by simpa [hik] using g4
            repeat' (first 
              | with_reducible refine awp_scope ?_
              | with_reducible refine awp_seq ?_
              | with_reducible refine awp_block ?_
              | (with_reducible refine awp_label ?_; try simp only [thenA, inBlockA, noGotoA])
              | (with_reducible refine awp_skip ?_; try simp only [thenA, inBlockA, noGotoA])
              | (with_reducible refine awp_exit ?_; simp only [thenA, inBlockA, noGotoA, if_true, Nat.reduceEqDiff, if_false, ↓reduceIte])
              | (with_reducible refine awp_ret ?_; (try simp only [thenA, inBlockA, noGotoA]); (try simp [-List.reduceReplicate, Nat.add_one_le_iff, -getElem?_pos, -getElem?_neg, List.getElem?_cons_zero, List.getElem?_cons_succ, iC, hlt, hlk, hwk, g1, g2, g3, g5, hik, toList_inj]))
              | (with_reducible refine awp_reg 109 hX [3, 4, 5, 6, 7, 8, 9, 10, 11, 82, 86, 107] ?_; simp [-List.reduceReplicate, Nat.add_one_le_iff, -getElem?_pos, -getElem?_neg, List.getElem?_cons_zero, List.getElem?_cons_succ, iC, hlt, hlk, hwk, g1, g2, g3, g5, hik, toList_inj])
              | (with_reducible refine awp_drw 109 hX [3, 4, 5, 6, 7, 8, 9, 10, 11, 82, 86, 107] Tab.mixed (by kernel_rfl) ?_; simp [-List.reduceReplicate, Nat.add_one_le_iff, -getElem?_pos, -getElem?_neg, List.getElem?_cons_zero, List.getElem?_cons_succ, iC, hlt, hlk, hwk, g1, g2, g3, g5, hik, toList_inj])
              | (with_reducible refine awp_if_b rfl (fun hc => ?_) (fun hc => ?_) <;> (try simp [-getElem?_pos, -getElem?_neg] at hc) <;> (try (exfalso; omega)))
              | (with_reducible refine GuardK_b (fun hc => ?_) (fun hc => ?_) <;> (try simp only [Bool.not_eq_true', Bool.not_eq_false', decide_eq_true_eq, decide_eq_false_iff_not] at hc) <;> (first | (exfalso; omega) | skip) <;> simp [-List.reduceReplicate, Nat.add_one_le_iff, -getElem?_pos, -getElem?_neg, List.getElem?_cons_zero, List.getElem?_cons_succ, iC, hlt, hlk, hwk, g1, g2, g3, g5, hik, toList_inj, hc])
              | (with_reducible refine DGuard_b _ _ _ _ _ _ _ _ _ _ (fun hc => ?_) (fun hc => ?_) <;> (try simp only [Bool.not_eq_true', Bool.not_eq_false', decide_eq_true_eq, decide_eq_false_iff_not] at hc) <;> (first | (exfalso; omega) | skip) <;> simp [-List.reduceReplicate, Nat.add_one_le_iff, -getElem?_pos, -getElem?_neg, List.getElem?_cons_zero, List.getElem?_cons_succ, iC, hlt, hlk, hwk, g1, g2, g3, g5, hik, toList_inj, hc])
              | (with_reducible refine DEv_cut _ _ _ _ _ _ _ _ _ _ _ _ (by kernel_rfl) ?_; simp [-List.reduceReplicate, Nat.add_one_le_iff, -getElem?_pos, -getElem?_neg, List.getElem?_cons_zero, List.getElem?_cons_succ, iC, hlt, hlk, hwk, g1, g2, g3, g5, hik, toList_inj])
              | ((with_reducible refine hother _ _ rfl ?_); simp only [inBlockA, thenA, noGotoA, Nat.reduceEqDiff, if_false, if_true, ↓reduceIte])
              | ((with_reducible refine hother2 _ _ rfl ?_); simp only [inBlockA, thenA, noGotoA, Nat.reduceEqDiff, if_false, if_true, ↓reduceIte])
              | ((with_reducible refine hother3 _ _ rfl ?_); simp only [inBlockA, thenA, noGotoA, Nat.reduceEqDiff, if_false, if_true, ↓reduceIte])
              | (with_reducible refine And.intro (by omega) ?_)
              | (with_reducible change postOf _ _ _ _ _; simp [-List.reduceReplicate, Nat.add_one_le_iff, -getElem?_pos, -getElem?_neg, List.getElem?_cons_zero, List.getElem?_cons_succ, iC, hlt, hlk, hwk, g1, g2, g3, g5, hik, toList_inj])
              | fail)
            refine next _ _ (()) (by omega) (by first | trivial | omega | assumption) (by simp [-List.reduceReplicate, keep, iC]) (by simp [-List.reduceReplicate, iC])
        · have hk : k = 4 := by omega
          subst hk
          repeat' (first 
            | with_reducible refine awp_scope ?_
            | with_reducible refine awp_seq ?_
            | with_reducible refine awp_block ?_
            | (with_reducible refine awp_label ?_; try simp only [thenA, inBlockA, noGotoA])
            | (with_reducible refine awp_skip ?_; try simp only [thenA, inBlockA, noGotoA])
            | (with_reducible refine awp_exit ?_; simp only [thenA, inBlockA, noGotoA, if_true, Nat.reduceEqDiff, if_false, ↓reduceIte])
            | (with_reducible refine awp_ret ?_; (try simp only [thenA, inBlockA, noGotoA]); (try simp [-List.reduceReplicate, Nat.add_one_le_iff, -getElem?_pos, -getElem?_neg, List.getElem?_cons_zero, List.getElem?_cons_succ, iC, hwi]))
            | (with_reducible refine awp_reg 109 hX [3, 4, 5, 6, 7, 8, 9, 10, 11, 82, 86, 107] ?_; simp [-List.reduceReplicate, Nat.add_one_le_iff, -getElem?_pos, -getElem?_neg, List.getElem?_cons_zero, List.getElem?_cons_succ, iC, hwi])
            | (with_reducible refine awp_drw 109 hX [3, 4, 5, 6, 7, 8, 9, 10, 11, 82, 86, 107] Tab.mixed (by kernel_rfl) ?_; simp [-List.reduceReplicate, Nat.add_one_le_iff, -getElem?_pos, -getElem?_neg, List.getElem?_cons_zero, List.getElem?_cons_succ, iC, hwi])
            | (with_reducible refine awp_if_b rfl (fun hc => ?_) (fun hc => ?_) <;> (try simp [-getElem?_pos, -getElem?_neg] at hc) <;> (try (exfalso; omega)))
            | (with_reducible refine GuardK_b (fun hc => ?_) (fun hc => ?_) <;> (try simp only [Bool.not_eq_true', Bool.not_eq_false', decide_eq_true_eq, decide_eq_false_iff_not] at hc) <;> (first | (exfalso; omega) | skip) <;> simp [-List.reduceReplicate, Nat.add_one_le_iff, -getElem?_pos, -getElem?_neg, List.getElem?_cons_zero, List.getElem?_cons_succ, iC, hwi, hc])
            | (with_reducible refine DGuard_b _ _ _ _ _ _ _ _ _ _ (fun hc => ?_) (fun hc => ?_) <;> (try simp only [Bool.not_eq_true', Bool.not_eq_false', decide_eq_true_eq, decide_eq_false_iff_not] at hc) <;> (first | (exfalso; omega) | skip) <;> simp [-List.reduceReplicate, Nat.add_one_le_iff, -getElem?_pos, -getElem?_neg, List.getElem?_cons_zero, List.getElem?_cons_succ, iC, hwi, hc])
            | (with_reducible refine DEv_cut _ _ _ _ _ _ _ _ _ _ _ _ (by kernel_rfl) ?_; simp [-List.reduceReplicate, Nat.add_one_le_iff, -getElem?_pos, -getElem?_neg, List.getElem?_cons_zero, List.getElem?_cons_succ, iC, hwi])
            | ((with_reducible refine hother _ _ rfl ?_); simp only [inBlockA, thenA, noGotoA, Nat.reduceEqDiff, if_false, if_true, ↓reduceIte])
            | ((with_reducible refine hother2 _ _ rfl ?_); simp only [inBlockA, thenA, noGotoA, Nat.reduceEqDiff, if_false, if_true, ↓reduceIte])
            | ((with_reducible refine hother3 _ _ rfl ?_); simp only [inBlockA, thenA, noGotoA, Nat.reduceEqDiff, if_false, if_true, ↓reduceIte])
            | (with_reducible refine And.intro (by omega) ?_)
            | (with_reducible change postOf _ _ _ _ _; simp [-List.reduceReplicate, Nat.add_one_le_iff, -getElem?_pos, -getElem?_neg, List.getElem?_cons_zero, List.getElem?_cons_succ, iC, hwi])
            | fail)
          refine next0 _ _ (()) (by omega) (by first | trivial | omega | assumption) (by simp [-List.reduceReplicate, keep, iC]) (by simp [-List.reduceReplicate, iC])
      · have hi4 : i = 4 := by omega
        subst hi4
        repeat' (first 
          | with_reducible refine awp_scope ?_
          | with_reducible refine awp_seq ?_
          | with_reducible refine awp_block ?_
          | (with_reducible refine awp_label ?_; try simp only [thenA, inBlockA, noGotoA])
          | (with_reducible refine awp_skip ?_; try simp only [thenA, inBlockA, noGotoA])
          | (with_reducible refine awp_exit ?_; simp only [thenA, inBlockA, noGotoA, if_true, Nat.reduceEqDiff, if_false, ↓reduceIte])
          | (with_reducible refine awp_ret ?_; (try simp only [thenA, inBlockA, noGotoA]); (try simp [-List.reduceReplicate, Nat.add_one_le_iff, -getElem?_pos, -getElem?_neg, List.getElem?_cons_zero, List.getElem?_cons_succ, iC, bC]))
          | (with_reducible refine awp_reg 109 hX [3, 4, 5, 6, 7, 8, 9, 10, 11, 82, 86, 107] ?_; simp [-List.reduceReplicate, Nat.add_one_le_iff, -getElem?_pos, -getElem?_neg, List.getElem?_cons_zero, List.getElem?_cons_succ, iC, bC])
          | (with_reducible refine awp_drw 109 hX [3, 4, 5, 6, 7, 8, 9, 10, 11, 82, 86, 107] Tab.mixed (by kernel_rfl) ?_; simp [-List.reduceReplicate, Nat.add_one_le_iff, -getElem?_pos, -getElem?_neg, List.getElem?_cons_zero, List.getElem?_cons_succ, iC, bC])
          | ((with_reducible refine Den.at_ (f := 18) ?_); refine (awake03_den _).det ?_; try simp [-List.reduceReplicate, Nat.add_one_le_iff, -getElem?_pos, -getElem?_neg, List.getElem?_cons_zero, List.getElem?_cons_succ, iC, bC])
          | ((with_reducible refine drawn_at (f := 18) ?_); refine ⟨_, _, awake03_den _, fun _ => rfl, ?_⟩; try simp [-List.reduceReplicate, Nat.add_one_le_iff, -getElem?_pos, -getElem?_neg, List.getElem?_cons_zero, List.getElem?_cons_succ, iC, bC])
          | (with_reducible refine awp_if_b rfl (fun hc => ?_) (fun hc => ?_) <;> (try simp [-getElem?_pos, -getElem?_neg] at hc) <;> (try (exfalso; omega)))
          | (with_reducible refine GuardK_b (fun hc => ?_) (fun hc => ?_) <;> (try simp only [Bool.not_eq_true', Bool.not_eq_false', decide_eq_true_eq, decide_eq_false_iff_not] at hc) <;> (first | (exfalso; omega) | skip) <;> simp [-List.reduceReplicate, Nat.add_one_le_iff, -getElem?_pos, -getElem?_neg, List.getElem?_cons_zero, List.getElem?_cons_succ, iC, bC, hc])
          | (with_reducible refine DGuard_b _ _ _ _ _ _ _ _ _ _ (fun hc => ?_) (fun hc => ?_) <;> (try simp only [Bool.not_eq_true', Bool.not_eq_false', decide_eq_true_eq, decide_eq_false_iff_not] at hc) <;> (first | (exfalso; omega) | skip) <;> simp [-List.reduceReplicate, Nat.add_one_le_iff, -getElem?_pos, -getElem?_neg, List.getElem?_cons_zero, List.getElem?_cons_succ, iC, bC, hc])
          | (with_reducible refine DEv_cut _ _ _ _ _ _ _ _ _ _ _ _ (by kernel_rfl) ?_; simp [-List.reduceReplicate, Nat.add_one_le_iff, -getElem?_pos, -getElem?_neg, List.getElem?_cons_zero, List.getElem?_cons_succ, iC, bC])
          | ((with_reducible refine hother _ _ rfl ?_); simp only [inBlockA, thenA, noGotoA, Nat.reduceEqDiff, if_false, if_true, ↓reduceIte])
          | ((with_reducible refine hother2 _ _ rfl ?_); simp only [inBlockA, thenA, noGotoA, Nat.reduceEqDiff, if_false, if_true, ↓reduceIte])
          | ((with_reducible refine hother3 _ _ rfl ?_); simp only [inBlockA, thenA, noGotoA, Nat.reduceEqDiff, if_false, if_true, ↓reduceIte])
          | (with_reducible refine And.intro (by omega) ?_)
          | (with_reducible change postOf _ _ _ _ _; simp [-List.reduceReplicate, Nat.add_one_le_iff, -getElem?_pos, -getElem?_neg, List.getElem?_cons_zero, List.getElem?_cons_succ, iC, bC])
          | fail)
  · have hac' := hac
    simp only [decide_true, Bool.true_and, Bool.and_true, hac, decide_false, Bool.false_and, Bool.and_false] at apart e1
    by_cases hnm : n = m
    · subst hnm
      generalize bsS (leafT s) = x1 at *
      generalize bsS (nodeT a b) = x2 at *
      generalize bsS (rootT n a) = x3 at *
      generalize bsS (headT s) = x4 at *
      generalize bsS (leafT t) = y1 at *
      generalize bsS (nodeT c d) = y2 at *
      generalize bsS (rootT n c) = y3 at *
      generalize bsS (headT t) = y4 at *
      generalize a.map bC8 ++ (b.map bC8 ++ (c.map bC8 ++ d.map bC8)) = abcd at *
      refine den_of Try.func3 rfl rfl (by simp [Try.ntmps3]) (fun X hX hO => ?_)
      rw [Try.ntmps3] at hX
      simp only [Try.results3]
      repeat' (first 
        | with_reducible refine awp_scope ?_
        | with_reducible refine awp_seq ?_
        | with_reducible refine awp_block ?_
        | (with_reducible refine awp_label ?_; try simp only [thenA, inBlockA, noGotoA])
        | (with_reducible refine awp_skip ?_; try simp only [thenA, inBlockA, noGotoA])
        | (with_reducible refine awp_exit ?_; simp only [thenA, inBlockA, noGotoA, if_true, Nat.reduceEqDiff, if_false, ↓reduceIte])
        | (with_reducible refine awp_ret ?_; (try simp only [thenA, inBlockA, noGotoA]); (try simp [-List.reduceReplicate, Nat.add_one_le_iff, -getElem?_pos, -getElem?_neg, List.getElem?_cons_zero, List.getElem?_cons_succ, hl, k0, k1, k2, k3, k4, hashM, e1, e2, bC, u64C, set4, toList_inj, hac]))
        | (with_reducible refine awp_reg 109 hX [3, 4, 5, 6, 7, 8, 9, 10, 11, 82, 86, 107] ?_; simp [-List.reduceReplicate, Nat.add_one_le_iff, -getElem?_pos, -getElem?_neg, List.getElem?_cons_zero, List.getElem?_cons_succ, hl, k0, k1, k2, k3, k4, hashM, e1, e2, bC, u64C, set4, toList_inj, hac])
        | (with_reducible refine awp_drw 109 hX [3, 4, 5, 6, 7, 8, 9, 10, 11, 82, 86, 107] Tab.mixed (by kernel_rfl) ?_; simp [-List.reduceReplicate, Nat.add_one_le_iff, -getElem?_pos, -getElem?_neg, List.getElem?_cons_zero, List.getElem?_cons_succ, hl, k0, k1, k2, k3, k4, hashM, e1, e2, bC, u64C, set4, toList_inj, hac])
        | (refine (d1 _).det ?_; try simp [-List.reduceReplicate, Nat.add_one_le_iff, -getElem?_pos, -getElem?_neg, List.getElem?_cons_zero, List.getElem?_cons_succ, hl, k0, k1, k2, k3, k4, hashM, e1, e2, bC, u64C, set4, toList_inj, hac])
        | (refine ⟨_, _, d1 _, fun _ => rfl, ?_⟩; try simp [-List.reduceReplicate, Nat.add_one_le_iff, -getElem?_pos, -getElem?_neg, List.getElem?_cons_zero, List.getElem?_cons_succ, hl, k0, k1, k2, k3, k4, hashM, e1, e2, bC, u64C, set4, toList_inj, hac])
        | (refine (d2 _).det ?_; try simp [-List.reduceReplicate, Nat.add_one_le_iff, -getElem?_pos, -getElem?_neg, List.getElem?_cons_zero, List.getElem?_cons_succ, hl, k0, k1, k2, k3, k4, hashM, e1, e2, bC, u64C, set4, toList_inj, hac])
        | (refine ⟨_, _, d2 _, fun _ => rfl, ?_⟩; try simp [-List.reduceReplicate, Nat.add_one_le_iff, -getElem?_pos, -getElem?_neg, List.getElem?_cons_zero, List.getElem?_cons_succ, hl, k0, k1, k2, k3, k4, hashM, e1, e2, bC, u64C, set4, toList_inj, hac])
        | (refine (d3 _).det ?_; try simp [-List.reduceReplicate, Nat.add_one_le_iff, -getElem?_pos, -getElem?_neg, List.getElem?_cons_zero, List.getElem?_cons_succ, hl, k0, k1, k2, k3, k4, hashM, e1, e2, bC, u64C, set4, toList_inj, hac])
        | (refine ⟨_, _, d3 _, fun _ => rfl, ?_⟩; try simp [-List.reduceReplicate, Nat.add_one_le_iff, -getElem?_pos, -getElem?_neg, List.getElem?_cons_zero, List.getElem?_cons_succ, hl, k0, k1, k2, k3, k4, hashM, e1, e2, bC, u64C, set4, toList_inj, hac])
        | (refine (d4 _).det ?_; try simp [-List.reduceReplicate, Nat.add_one_le_iff, -getElem?_pos, -getElem?_neg, List.getElem?_cons_zero, List.getElem?_cons_succ, hl, k0, k1, k2, k3, k4, hashM, e1, e2, bC, u64C, set4, toList_inj, hac])
        | (refine ⟨_, _, d4 _, fun _ => rfl, ?_⟩; try simp [-List.reduceReplicate, Nat.add_one_le_iff, -getElem?_pos, -getElem?_neg, List.getElem?_cons_zero, List.getElem?_cons_succ, hl, k0, k1, k2, k3, k4, hashM, e1, e2, bC, u64C, set4, toList_inj, hac])
        | (refine (r1 _).det ?_; try simp [-List.reduceReplicate, Nat.add_one_le_iff, -getElem?_pos, -getElem?_neg, List.getElem?_cons_zero, List.getElem?_cons_succ, hl, k0, k1, k2, k3, k4, hashM, e1, e2, bC, u64C, set4, toList_inj, hac])
        | (refine ⟨_, _, r1 _, fun _ => rfl, ?_⟩; try simp [-List.reduceReplicate, Nat.add_one_le_iff, -getElem?_pos, -getElem?_neg, List.getElem?_cons_zero, List.getElem?_cons_succ, hl, k0, k1, k2, k3, k4, hashM, e1, e2, bC, u64C, set4, toList_inj, hac])
        | (refine (r2 _).det ?_; try simp [-List.reduceReplicate, Nat.add_one_le_iff, -getElem?_pos, -getElem?_neg, List.getElem?_cons_zero, List.getElem?_cons_succ, hl, k0, k1, k2, k3, k4, hashM, e1, e2, bC, u64C, set4, toList_inj, hac])
        | (refine ⟨_, _, r2 _, fun _ => rfl, ?_⟩; try simp [-List.reduceReplicate, Nat.add_one_le_iff, -getElem?_pos, -getElem?_neg, List.getElem?_cons_zero, List.getElem?_cons_succ, hl, k0, k1, k2, k3, k4, hashM, e1, e2, bC, u64C, set4, toList_inj, hac])
        | (refine (r3 _).det ?_; try simp [-List.reduceReplicate, Nat.add_one_le_iff, -getElem?_pos, -getElem?_neg, List.getElem?_cons_zero, List.getElem?_cons_succ, hl, k0, k1, k2, k3, k4, hashM, e1, e2, bC, u64C, set4, toList_inj, hac])
        | (refine ⟨_, _, r3 _, fun _ => rfl, ?_⟩; try simp [-List.reduceReplicate, Nat.add_one_le_iff, -getElem?_pos, -getElem?_neg, List.getElem?_cons_zero, List.getElem?_cons_succ, hl, k0, k1, k2, k3, k4, hashM, e1, e2, bC, u64C, set4, toList_inj, hac])
        | (refine (r4 _).det ?_; try simp [-List.reduceReplicate, Nat.add_one_le_iff, -getElem?_pos, -getElem?_neg, List.getElem?_cons_zero, List.getElem?_cons_succ, hl, k0, k1, k2, k3, k4, hashM, e1, e2, bC, u64C, set4, toList_inj, hac])
        | (refine ⟨_, _, r4 _, fun _ => rfl, ?_⟩; try simp [-List.reduceReplicate, Nat.add_one_le_iff, -getElem?_pos, -getElem?_neg, List.getElem?_cons_zero, List.getElem?_cons_succ, hl, k0, k1, k2, k3, k4, hashM, e1, e2, bC, u64C, set4, toList_inj, hac])
        | (with_reducible refine awp_if_b rfl (fun hc => ?_) (fun hc => ?_) <;> (try simp [-getElem?_pos, -getElem?_neg] at hc) <;> (try (exfalso; omega)))
        | (with_reducible refine GuardK_b (fun hc => ?_) (fun hc => ?_) <;> (try simp only [Bool.not_eq_true', Bool.not_eq_false', decide_eq_true_eq, decide_eq_false_iff_not] at hc) <;> (first | (exfalso; omega) | skip) <;> simp [-List.reduceReplicate, Nat.add_one_le_iff, -getElem?_pos, -getElem?_neg, List.getElem?_cons_zero, List.getElem?_cons_succ, hl, k0, k1, k2, k3, k4, hashM, e1, e2, bC, u64C, set4, toList_inj, hac, hc])
        | (with_reducible refine DGuard_b _ _ _ _ _ _ _ _ _ _ (fun hc => ?_) (fun hc => ?_) <;> (try simp only [Bool.not_eq_true', Bool.not_eq_false', decide_eq_true_eq, decide_eq_false_iff_not] at hc) <;> (first | (exfalso; omega) | skip) <;> simp [-List.reduceReplicate, Nat.add_one_le_iff, -getElem?_pos, -getElem?_neg, List.getElem?_cons_zero, List.getElem?_cons_succ, hl, k0, k1, k2, k3, k4, hashM, e1, e2, bC, u64C, set4, toList_inj, hac, hc])
        | (with_reducible refine DEv_cut _ _ _ _ _ _ _ _ _ _ _ _ (by kernel_rfl) ?_; simp [-List.reduceReplicate, Nat.add_one_le_iff, -getElem?_pos, -getElem?_neg, List.getElem?_cons_zero, List.getElem?_cons_succ, hl, k0, k1, k2, k3, k4, hashM, e1, e2, bC, u64C, set4, toList_inj, hac])
        | ((with_reducible refine hother _ _ rfl ?_); simp only [inBlockA, thenA, noGotoA, Nat.reduceEqDiff, if_false, if_true, ↓reduceIte])
        | ((with_reducible refine hother2 _ _ rfl ?_); simp only [inBlockA, thenA, noGotoA, Nat.reduceEqDiff, if_false, if_true, ↓reduceIte])
        | ((with_reducible refine hother3 _ _ rfl ?_); simp only [inBlockA, thenA, noGotoA, Nat.reduceEqDiff, if_false, if_true, ↓reduceIte])
        | (with_reducible refine And.intro (by omega) ?_)
        | (with_reducible change postOf _ _ _ _ _; simp [-List.reduceReplicate, Nat.add_one_le_iff, -getElem?_pos, -getElem?_neg, List.getElem?_cons_zero, List.getElem?_cons_succ, hl, k0, k1, k2, k3, k4, hashM, e1, e2, bC, u64C, set4, toList_inj, hac])
        | fail)
      refine awp_forU [7, 8, 9, 10] (fun i (_u : Unit) => [(10, .c (iC i))]) (fun i (_u : Unit) => [⟨22, 1, false, 0, up [.v (.string s), .v (.string t)], none⟩, ⟨25, 32, false, 0, up abcd, none⟩, ⟨27, 1, false, 0, up [u64C n, u64C n], none⟩]) (fun i (_u : Unit) => True) (4) (()) (by first | trivial | (simp; done) | omega | (intros; simp at *; done)) (by simp [-List.reduceReplicate, keep, iC, u64C]) (by simp [-List.reduceReplicate, iC, u64C]) ?_
      rintro i _u Q1 hi hH next hother
      conv => arg 5; arg 1; simp only [List.cons_append, List.nil_append, keep, get, Nat.reduceEqDiff, if_true, if_false, ↓reduceIte]
      have hwi := wrap_in ((i : Int) + 1) (by omega)
      by_cases hlt : i < 4
      · repeat' (first 
          | with_reducible refine awp_scope ?_
          | with_reducible refine awp_seq ?_
          | with_reducible refine awp_block ?_
          | (with_reducible refine awp_label ?_; try simp only [thenA, inBlockA, noGotoA])
          | (with_reducible refine awp_skip ?_; try simp only [thenA, inBlockA, noGotoA])
          | (with_reducible refine awp_exit ?_; simp only [thenA, inBlockA, noGotoA, if_true, Nat.reduceEqDiff, if_false, ↓reduceIte])
          | (with_reducible refine awp_ret ?_; (try simp only [thenA, inBlockA, noGotoA]); (try simp [-List.reduceReplicate, Nat.add_one_le_iff, -getElem?_pos, -getElem?_neg, List.getElem?_cons_zero, List.getElem?_cons_succ, iC, hlt]))
          | (with_reducible refine awp_reg 109 hX [3, 4, 5, 6, 7, 8, 9, 10, 11, 82, 86, 107] ?_; simp [-List.reduceReplicate, Nat.add_one_le_iff, -getElem?_pos, -getElem?_neg, List.getElem?_cons_zero, List.getElem?_cons_succ, iC, hlt])
          | (with_reducible refine awp_drw 109 hX [3, 4, 5, 6, 7, 8, 9, 10, 11, 82, 86, 107] Tab.mixed (by kernel_rfl) ?_; simp [-List.reduceReplicate, Nat.add_one_le_iff, -getElem?_pos, -getElem?_neg, List.getElem?_cons_zero, List.getElem?_cons_succ, iC, hlt])
          | (with_reducible refine awp_if_b rfl (fun hc => ?_) (fun hc => ?_) <;> (try simp [-getElem?_pos, -getElem?_neg] at hc) <;> (try (exfalso; omega)))
          | (with_reducible refine GuardK_b (fun hc => ?_) (fun hc => ?_) <;> (try simp only [Bool.not_eq_true', Bool.not_eq_false', decide_eq_true_eq, decide_eq_false_iff_not] at hc) <;> (first | (exfalso; omega) | skip) <;> simp [-List.reduceReplicate, Nat.add_one_le_iff, -getElem?_pos, -getElem?_neg, List.getElem?_cons_zero, List.getElem?_cons_succ, iC, hlt, hc])
          | (with_reducible refine DGuard_b _ _ _ _ _ _ _ _ _ _ (fun hc => ?_) (fun hc => ?_) <;> (try simp only [Bool.not_eq_true', Bool.not_eq_false', decide_eq_true_eq, decide_eq_false_iff_not] at hc) <;> (first | (exfalso; omega) | skip) <;> simp [-List.reduceReplicate, Nat.add_one_le_iff, -getElem?_pos, -getElem?_neg, List.getElem?_cons_zero, List.getElem?_cons_succ, iC, hlt, hc])
          | (with_reducible refine DEv_cut _ _ _ _ _ _ _ _ _ _ _ _ (by kernel_rfl) ?_; simp [-List.reduceReplicate, Nat.add_one_le_iff, -getElem?_pos, -getElem?_neg, List.getElem?_cons_zero, List.getElem?_cons_succ, iC, hlt])
          | ((with_reducible refine hother _ _ rfl ?_); simp only [inBlockA, thenA, noGotoA, Nat.reduceEqDiff, if_false, if_true, ↓reduceIte])
          | ((with_reducible refine hother2 _ _ rfl ?_); simp only [inBlockA, thenA, noGotoA, Nat.reduceEqDiff, if_false, if_true, ↓reduceIte])
          | ((with_reducible refine hother3 _ _ rfl ?_); simp only [inBlockA, thenA, noGotoA, Nat.reduceEqDiff, if_false, if_true, ↓reduceIte])
          | (with_reducible refine And.intro (by omega) ?_)
          | (with_reducible change postOf _ _ _ _ _; simp [-List.reduceReplicate, Nat.add_one_le_iff, -getElem?_pos, -getElem?_neg, List.getElem?_cons_zero, List.getElem?_cons_succ, iC, hlt])
          | fail)
        have next0 := next; have hother2 := hother; clear next hother
        refine awp_forU [7, 8, 9, 10, 11] (fun k (_u : Unit) => [(11, .c (iC k))]) (fun k (_u : Unit) => [⟨22, 1, false, 0, up [.v (.string s), .v (.string t)], none⟩, ⟨25, 32, false, 0, up abcd, none⟩, ⟨27, 1, false, 0, up [u64C n, u64C n], none⟩]) (fun k (_u : Unit) => True) (4) (()) (by first | trivial | (simp; done) | omega | (intros; simp at *; done)) (by simp [-List.reduceReplicate, keep, iC]) (by simp [-List.reduceReplicate, iC]) ?_
        rintro k _u Q1 hi hH next hother
        conv => arg 5; arg 1; simp only [List.cons_append, List.nil_append, keep, get, Nat.reduceEqDiff, if_true, if_false, ↓reduceIte]
        have hwk := wrap_in ((k : Int) + 1) (by omega)
        by_cases hlk : k < 4
        · obtain ⟨x, y, z, g1, g2, g3, g4⟩ := apart i k hlt hlk
          simp only [bC] at g3
          by_cases hik : i = k
          · subst hik
            simp only [decide_true, Bool.true_and] at g4
            repeat' (first 
              | with_reducible refine awp_scope ?_
              | with_reducible refine awp_seq ?_
              | with_reducible refine awp_block ?_
              | (with_reducible refine awp_label ?_; try simp only [thenA, inBlockA, noGotoA])
              | (with_reducible refine awp_skip ?_; try simp only [thenA, inBlockA, noGotoA])
              | (with_reducible refine awp_exit ?_; simp only [thenA, inBlockA, noGotoA, if_true, Nat.reduceEqDiff, if_false, ↓reduceIte])
              | (with_reducible refine awp_ret ?_; (try simp only [thenA, inBlockA, noGotoA]); (try simp [-List.reduceReplicate, Nat.add_one_le_iff, -getElem?_pos, -getElem?_neg, List.getElem?_cons_zero, List.getElem?_cons_succ, iC, hlt, hwk, g1, g2, g3, g4, toList_inj]))
              | (with_reducible refine awp_reg 109 hX [3, 4, 5, 6, 7, 8, 9, 10, 11, 82, 86, 107] ?_; simp [-List.reduceReplicate, Nat.add_one_le_iff, -getElem?_pos, -getElem?_neg, List.getElem?_cons_zero, List.getElem?_cons_succ, iC, hlt, hwk, g1, g2, g3, g4, toList_inj])
              | (with_reducible refine awp_drw 109 hX [3, 4, 5, 6, 7, 8, 9, 10, 11, 82, 86, 107] Tab.mixed (by kernel_rfl) ?_; simp [-List.reduceReplicate, Nat.add_one_le_iff, -getElem?_pos, -getElem?_neg, List.getElem?_cons_zero, List.getElem?_cons_succ, iC, hlt, hwk, g1, g2, g3, g4, toList_inj])
              | (with_reducible refine awp_if_b rfl (fun hc => ?_) (fun hc => ?_) <;> (try simp [-getElem?_pos, -getElem?_neg] at hc) <;> (try (exfalso; omega)))
              | (with_reducible refine GuardK_b (fun hc => ?_) (fun hc => ?_) <;> (try simp only [Bool.not_eq_true', Bool.not_eq_false', decide_eq_true_eq, decide_eq_false_iff_not] at hc) <;> (first | (exfalso; omega) | skip) <;> simp [-List.reduceReplicate, Nat.add_one_le_iff, -getElem?_pos, -getElem?_neg, List.getElem?_cons_zero, List.getElem?_cons_succ, iC, hlt, hwk, g1, g2, g3, g4, toList_inj, hc])
              | (with_reducible refine DGuard_b _ _ _ _ _ _ _ _ _ _ (fun hc => ?_) (fun hc => ?_) <;> (try simp only [Bool.not_eq_true', Bool.not_eq_false', decide_eq_true_eq, decide_eq_false_iff_not] at hc) <;> (first | (exfalso; omega) | skip) <;> simp [-List.reduceReplicate, Nat.add_one_le_iff, -getElem?_pos, -getElem?_neg, List.getElem?_cons_zero, List.getElem?_cons_succ, iC, hlt, hwk, g1, g2, g3, g4, toList_inj, hc])
              | (with_reducible refine DEv_cut _ _ _ _ _ _ _ _ _ _ _ _ (by kernel_rfl) ?_; simp [-List.reduceReplicate, Nat.add_one_le_iff, -getElem?_pos, -getElem?_neg, List.getElem?_cons_zero, List.getElem?_cons_succ, iC, hlt, hwk, g1, g2, g3, g4, toList_inj])
              | ((with_reducible refine hother _ _ rfl ?_); simp only [inBlockA, thenA, noGotoA, Nat.reduceEqDiff, if_false, if_true, ↓reduceIte])
              | ((with_reducible refine hother2 _ _ rfl ?_); simp only [inBlockA, thenA, noGotoA, Nat.reduceEqDiff, if_false, if_true, ↓reduceIte])
              | ((with_reducible refine hother3 _ _ rfl ?_); simp only [inBlockA, thenA, noGotoA, Nat.reduceEqDiff, if_false, if_true, ↓reduceIte])
              | (with_reducible refine And.intro (by omega) ?_)
              | (with_reducible change postOf _ _ _ _ _; simp [-List.reduceReplicate, Nat.add_one_le_iff, -getElem?_pos, -getElem?_neg, List.getElem?_cons_zero, List.getElem?_cons_succ, iC, hlt, hwk, g1, g2, g3, g4, toList_inj])
              | fail)
            refine next _ _ (()) (by omega) (by first | trivial | omega | assumption) (by simp [-List.reduceReplicate, keep, iC]) (by simp [-List.reduceReplicate, iC])
          · have g5 : ¬ x = y := by simpa [hik] using g4
            repeat' (first 
              | with_reducible refine awp_scope ?_
              | with_reducible refine awp_seq ?_
              | with_reducible refine awp_block ?_
              | (with_reducible refine awp_label ?_; try simp only [thenA, inBlockA, noGotoA])
              | (with_reducible refine awp_skip ?_; try simp only [thenA, inBlockA, noGotoA])
              | (with_reducible refine awp_exit ?_; simp only [thenA, inBlockA, noGotoA, if_true, Nat.reduceEqDiff, if_false, ↓reduceIte])
              | (with_reducible refine awp_ret ?_; (try simp only [thenA, inBlockA, noGotoA]); (try simp [-List.reduceReplicate, Nat.add_one_le_iff, -getElem?_pos, -getElem?_neg, List.getElem?_cons_zero, List.getElem?_cons_succ, iC, hlt, hlk, hwk, g1, g2, g3, g5, hik, toList_inj]))
              | (with_reducible refine awp_reg 109 hX [3, 4, 5, 6, 7, 8, 9, 10, 11, 82, 86, 107] ?_; simp [-List.reduceReplicate, Nat.add_one_le_iff, -getElem?_pos, -getElem?_neg, List.getElem?_cons_zero, List.getElem?_cons_succ, iC, hlt, hlk, hwk, g1, g2, g3, g5, hik, toList_inj])
              | (with_reducible refine awp_drw 109 hX [3, 4, 5, 6, 7, 8, 9, 10, 11, 82, 86, 107] Tab.mixed (by kernel_rfl) ?_; simp [-List.reduceReplicate, Nat.add_one_le_iff, -getElem?_pos, -getElem?_neg, List.getElem?_cons_zero, List.getElem?_cons_succ, iC, hlt, hlk, hwk, g1, g2, g3, g5, hik, toList_inj])
              | (with_reducible refine awp_if_b rfl (fun hc => ?_) (fun hc => ?_) <;> (try simp [-getElem?_pos, -getElem?_neg] at hc) <;> (try (exfalso; omega)))
              | (with_reducible refine GuardK_b (fun hc => ?_) (fun hc => ?_) <;> (try simp only [Bool.not_eq_true', Bool.not_eq_false', decide_eq_true_eq, decide_eq_false_iff_not] at hc) <;> (first | (exfalso; omega) | skip) <;> simp [-List.reduceReplicate, Nat.add_one_le_iff, -getElem?_pos, -getElem?_neg, List.getElem?_cons_zero, List.getElem?_cons_succ, iC, hlt, hlk, hwk, g1, g2, g3, g5, hik, toList_inj, hc])
              | (with_reducible refine DGuard_b _ _ _ _ _ _ _ _ _ _ (fun hc => ?_) (fun hc => ?_) <;> (try simp only [Bool.not_eq_true', Bool.not_eq_false', decide_eq_true_eq, decide_eq_false_iff_not] at hc) <;> (first | (exfalso; omega) | skip) <;> simp [-List.reduceReplicate, Nat.add_one_le_iff, -getElem?_pos, -getElem?_neg, List.getElem?_cons_zero, List.getElem?_cons_succ, iC, hlt, hlk, hwk, g1, g2, g3, g5, hik, toList_inj, hc])
              | (with_reducible refine DEv_cut _ _ _ _ _ _ _ _ _ _ _ _ (by kernel_rfl) ?_; simp [-List.reduceReplicate, Nat.add_one_le_iff, -getElem?_pos, -getElem?_neg, List.getElem?_cons_zero, List.getElem?_cons_succ, iC, hlt, hlk, hwk, g1, g2, g3, g5, hik, toList_inj])
              | ((with_reducible refine hother _ _ rfl ?_); simp only [inBlockA, thenA, noGotoA, Nat.reduceEqDiff, if_false, if_true, ↓reduceIte])
              | ((with_reducible refine hother2 _ _ rfl ?_); simp only [inBlockA, thenA, noGotoA, Nat.reduceEqDiff, if_false, if_true, ↓reduceIte])
              | ((with_reducible refine hother3 _ _ rfl ?_); simp only [inBlockA, thenA, noGotoA, Nat.reduceEqDiff, if_false, if_true, ↓reduceIte])
              | (with_reducible refine And.intro (by omega) ?_)
              | (with_reducible change postOf _ _ _ _ _; simp [-List.reduceReplicate, Nat.add_one_le_iff, -getElem?_pos, -getElem?_neg, List.getElem?_cons_zero, List.getElem?_cons_succ, iC, hlt, hlk, hwk, g1, g2, g3, g5, hik, toList_inj])
              | fail)
            refine next _ _ (()) (by omega) (by first | trivial | omega | assumption) (by simp [-List.reduceReplicate, keep, iC]) (by simp [-List.reduceReplicate, iC])
        · have hk : k = 4 := by omega
          subst hk
          repeat' (first 
            | with_reducible refine awp_scope ?_
            | with_reducible refine awp_seq ?_
            | with_reducible refine awp_block ?_
            | (with_reducible refine awp_label ?_; try simp only [thenA, inBlockA, noGotoA])
            | (with_reducible refine awp_skip ?_; try simp only [thenA, inBlockA, noGotoA])
            | (with_reducible refine awp_exit ?_; simp only [thenA, inBlockA, noGotoA, if_true, Nat.reduceEqDiff, if_false, ↓reduceIte])
            | (with_reducible refine awp_ret ?_; (try simp only [thenA, inBlockA, noGotoA]); (try simp [-List.reduceReplicate, Nat.add_one_le_iff, -getElem?_pos, -getElem?_neg, List.getElem?_cons_zero, List.getElem?_cons_succ, iC, hwi]))
            | (with_reducible refine awp_reg 109 hX [3, 4, 5, 6, 7, 8, 9, 10, 11, 82, 86, 107] ?_; simp [-List.reduceReplicate, Nat.add_one_le_iff, -getElem?_pos, -getElem?_neg, List.getElem?_cons_zero, List.getElem?_cons_succ, iC, hwi])
            | (with_reducible refine awp_drw 109 hX [3, 4, 5, 6, 7, 8, 9, 10, 11, 82, 86, 107] Tab.mixed (by kernel_rfl) ?_; simp [-List.reduceReplicate, Nat.add_one_le_iff, -getElem?_pos, -getElem?_neg, List.getElem?_cons_zero, List.getElem?_cons_succ, iC, hwi])
            | (with_reducible refine awp_if_b rfl (fun hc => ?_) (fun hc => ?_) <;> (try simp [-getElem?_pos, -getElem?_neg] at hc) <;> (try (exfalso; omega)))
            | (with_reducible refine GuardK_b (fun hc => ?_) (fun hc => ?_) <;> (try simp only [Bool.not_eq_true', Bool.not_eq_false', decide_eq_true_eq, decide_eq_false_iff_not] at hc) <;> (first | (exfalso; omega) | skip) <;> simp [-List.reduceReplicate, Nat.add_one_le_iff, -getElem?_pos, -getElem?_neg, List.getElem?_cons_zero, List.getElem?_cons_succ, iC, hwi, hc])
            | (with_reducible refine DGuard_b _ _ _ _ _ _ _ _ _ _ (fun hc => ?_) (fun hc => ?_) <;> (try simp only [Bool.not_eq_true', Bool.not_eq_false', decide_eq_true_eq, decide_eq_false_iff_not] at hc) <;> (first | (exfalso; omega) | skip) <;> simp [-List.reduceReplicate, Nat.add_one_le_iff, -getElem?_pos, -getElem?_neg, List.getElem?_cons_zero, List.getElem?_cons_succ, iC, hwi, hc])
            | (with_reducible refine DEv_cut _ _ _ _ _ _ _ _ _ _ _ _ (by kernel_rfl) ?_; simp [-List.reduceReplicate, Nat.add_one_le_iff, -getElem?_pos, -getElem?_neg, List.getElem?_cons_zero, List.getElem?_cons_succ, iC, hwi])
            | ((with_reducible refine hother _ _ rfl ?_); simp only [inBlockA, thenA, noGotoA, Nat.reduceEqDiff, if_false, if_true, ↓reduceIte])
            | ((with_reducible refine hother2 _ _ rfl ?_); simp only [inBlockA, thenA, noGotoA, Nat.reduceEqDiff, if_false, if_true, ↓reduceIte])
            | ((with_reducible refine hother3 _ _ rfl ?_); simp only [inBlockA, thenA, noGotoA, Nat.reduceEqDiff, if_false, if_true, ↓reduceIte])
            | (with_reducible refine And.intro (by omega) ?_)
            | (with_reducible change postOf _ _ _ _ _; simp [-List.reduceReplicate, Nat.add_one_le_iff, -getElem?_pos, -getElem?_neg, List.getElem?_cons_zero, List.getElem?_cons_succ, iC, hwi])
            | fail)
          refine next0 _ _ (()) (by omega) (by first | trivial | omega | assumption) (by simp [-List.reduceReplicate, keep, iC]) (by simp [-List.reduceReplicate, iC])
      · have hi4 : i = 4 := by omega
        subst hi4
        repeat' (first 
          | with_reducible refine awp_scope ?_
          | with_reducible refine awp_seq ?_
          | with_reducible refine awp_block ?_
          | (with_reducible refine awp_label ?_; try simp only [thenA, inBlockA, noGotoA])
          | (with_reducible refine awp_skip ?_; try simp only [thenA, inBlockA, noGotoA])
          | (with_reducible refine awp_exit ?_; simp only [thenA, inBlockA, noGotoA, if_true, Nat.reduceEqDiff, if_false, ↓reduceIte])
          | (with_reducible refine awp_ret ?_; (try simp only [thenA, inBlockA, noGotoA]); (try simp [-List.reduceReplicate, Nat.add_one_le_iff, -getElem?_pos, -getElem?_neg, List.getElem?_cons_zero, List.getElem?_cons_succ, iC, bC]))
          | (with_reducible refine awp_reg 109 hX [3, 4, 5, 6, 7, 8, 9, 10, 11, 82, 86, 107] ?_; simp [-List.reduceReplicate, Nat.add_one_le_iff, -getElem?_pos, -getElem?_neg, List.getElem?_cons_zero, List.getElem?_cons_succ, iC, bC])
          | (with_reducible refine awp_drw 109 hX [3, 4, 5, 6, 7, 8, 9, 10, 11, 82, 86, 107] Tab.mixed (by kernel_rfl) ?_; simp [-List.reduceReplicate, Nat.add_one_le_iff, -getElem?_pos, -getElem?_neg, List.getElem?_cons_zero, List.getElem?_cons_succ, iC, bC])
          | ((with_reducible refine Den.at_ (f := 18) ?_); refine (awake03_den _).det ?_; try simp [-List.reduceReplicate, Nat.add_one_le_iff, -getElem?_pos, -getElem?_neg, List.getElem?_cons_zero, List.getElem?_cons_succ, iC, bC])
          | ((with_reducible refine drawn_at (f := 18) ?_); refine ⟨_, _, awake03_den _, fun _ => rfl, ?_⟩; try simp [-List.reduceReplicate, Nat.add_one_le_iff, -getElem?_pos, -getElem?_neg, List.getElem?_cons_zero, List.getElem?_cons_succ, iC, bC])
          | (with_reducible refine awp_if_b rfl (fun hc => ?_) (fun hc => ?_) <;> (try simp [-getElem?_pos, -getElem?_neg] at hc) <;> (try (exfalso; omega)))
          | (with_reducible refine GuardK_b (fun hc => ?_) (fun hc => ?_) <;> (try simp only [Bool.not_eq_true', Bool.not_eq_false', decide_eq_true_eq, decide_eq_false_iff_not] at hc) <;> (first | (exfalso; omega) | skip) <;> simp [-List.reduceReplicate, Nat.add_one_le_iff, -getElem?_pos, -getElem?_neg, List.getElem?_cons_zero, List.getElem?_cons_succ, iC, bC, hc])
          | (with_reducible refine DGuard_b _ _ _ _ _ _ _ _ _ _ (fun hc => ?_) (fun hc => ?_) <;> (try simp only [Bool.not_eq_true', Bool.not_eq_false', decide_eq_true_eq, decide_eq_false_iff_not] at hc) <;> (first | (exfalso; omega) | skip) <;> simp [-List.reduceReplicate, Nat.add_one_le_iff, -getElem?_pos, -getElem?_neg, List.getElem?_cons_zero, List.getElem?_cons_succ, iC, bC, hc])
          | (with_reducible refine DEv_cut _ _ _ _ _ _ _ _ _ _ _ _ (by kernel_rfl) ?_; simp [-List.reduceReplicate, Nat.add_one_le_iff, -getElem?_pos, -getElem?_neg, List.getElem?_cons_zero, List.getElem?_cons_succ, iC, bC])
          | ((with_reducible refine hother _ _ rfl ?_); simp only [inBlockA, thenA, noGotoA, Nat.reduceEqDiff, if_false, if_true, ↓reduceIte])
          | ((with_reducible refine hother2 _ _ rfl ?_); simp only [inBlockA, thenA, noGotoA, Nat.reduceEqDiff, if_false, if_true, ↓reduceIte])
          | ((with_reducible refine hother3 _ _ rfl ?_); simp only [inBlockA, thenA, noGotoA, Nat.reduceEqDiff, if_false, if_true, ↓reduceIte])
          | (with_reducible refine And.intro (by omega) ?_)
          | (with_reducible change postOf _ _ _ _ _; simp [-List.reduceReplicate, Nat.add_one_le_iff, -getElem?_pos, -getElem?_neg, List.getElem?_cons_zero, List.getElem?_cons_succ, iC, bC])
          | fail)
    · have hnm' := hnm
      generalize bsS (leafT s) = x1 at *
      generalize bsS (nodeT a b) = x2 at *
      generalize bsS (rootT n a) = x3 at *
      generalize bsS (headT s) = x4 at *
      generalize bsS (leafT t) = y1 at *
      generalize bsS (nodeT c d) = y2 at *
      generalize bsS (rootT m c) = y3 at *
      generalize bsS (headT t) = y4 at *
      generalize a.map bC8 ++ (b.map bC8 ++ (c.map bC8 ++ d.map bC8)) = abcd at *
      refine den_of Try.func3 rfl rfl (by simp [Try.ntmps3]) (fun X hX hO => ?_)
      rw [Try.ntmps3] at hX
      simp only [Try.results3]
      repeat' (first 
        | with_reducible refine awp_scope ?_
        | with_reducible refine awp_seq ?_
        | with_reducible refine awp_block ?_
        | (with_reducible refine awp_label ?_; try simp only [thenA, inBlockA, noGotoA])
        | (with_reducible refine awp_skip ?_; try simp only [thenA, inBlockA, noGotoA])
        | (with_reducible refine awp_exit ?_; simp only [thenA, inBlockA, noGotoA, if_true, Nat.reduceEqDiff, if_false, ↓reduceIte])
        | (with_reducible refine awp_ret ?_; (try simp only [thenA, inBlockA, noGotoA]); (try simp [-List.reduceReplicate, Nat.add_one_le_iff, -getElem?_pos, -getElem?_neg, List.getElem?_cons_zero, List.getElem?_cons_succ, hl, k0, k1, k2, k3, k4, hashM, e1, e2, bC, u64C, set4, toList_inj, hac, hnm]))
        | (with_reducible refine awp_reg 109 hX [3, 4, 5, 6, 7, 8, 9, 10, 11, 82, 86, 107] ?_; simp [-List.reduceReplicate, Nat.add_one_le_iff, -getElem?_pos, -getElem?_neg, List.getElem?_cons_zero, List.getElem?_cons_succ, hl, k0, k1, k2, k3, k4, hashM, e1, e2, bC, u64C, set4, toList_inj, hac, hnm])
        | (with_reducible refine awp_drw 109 hX [3, 4, 5, 6, 7, 8, 9, 10, 11, 82, 86, 107] Tab.mixed (by kernel_rfl) ?_; simp [-List.reduceReplicate, Nat.add_one_le_iff, -getElem?_pos, -getElem?_neg, List.getElem?_cons_zero, List.getElem?_cons_succ, hl, k0, k1, k2, k3, k4, hashM, e1, e2, bC, u64C, set4, toList_inj, hac, hnm])
        | (refine (d1 _).det ?_; try simp [-List.reduceReplicate, Nat.add_one_le_iff, -getElem?_pos, -getElem?_neg, List.getElem?_cons_zero, List.getElem?_cons_succ, hl, k0, k1, k2, k3, k4, hashM, e1, e2, bC, u64C, set4, toList_inj, hac, hnm])
        | (refine ⟨_, _, d1 _, fun _ => rfl, ?_⟩; try simp [-List.reduceReplicate, Nat.add_one_le_iff, -getElem?_pos, -getElem?_neg, List.getElem?_cons_zero, List.getElem?_cons_succ, hl, k0, k1, k2, k3, k4, hashM, e1, e2, bC, u64C, set4, toList_inj, hac, hnm])
        | (refine (d2 _).det ?_; try simp [-List.reduceReplicate, Nat.add_one_le_iff, -getElem?_pos, -getElem?_neg, List.getElem?_cons_zero, List.getElem?_cons_succ, hl, k0, k1, k2, k3, k4, hashM, e1, e2, bC, u64C, set4, toList_inj, hac, hnm])
        | (refine ⟨_, _, d2 _, fun _ => rfl, ?_⟩; try simp [-List.reduceReplicate, Nat.add_one_le_iff, -getElem?_pos, -getElem?_neg, List.getElem?_cons_zero, List.getElem?_cons_succ, hl, k0, k1, k2, k3, k4, hashM, e1, e2, bC, u64C, set4, toList_inj, hac, hnm])
        | (refine (d3 _).det ?_; try simp [-List.reduceReplicate, Nat.add_one_le_iff, -getElem?_pos, -getElem?_neg, List.getElem?_cons_zero, List.getElem?_cons_succ, hl, k0, k1, k2, k3, k4, hashM, e1, e2, bC, u64C, set4, toList_inj, hac, hnm])
        | (refine ⟨_, _, d3 _, fun _ => rfl, ?_⟩; try simp [-List.reduceReplicate, Nat.add_one_le_iff, -getElem?_pos, -getElem?_neg, List.getElem?_cons_zero, List.getElem?_cons_succ, hl, k0, k1, k2, k3, k4, hashM, e1, e2, bC, u64C, set4, toList_inj, hac, hnm])
        | (refine (d4 _).det ?_; try simp [-List.reduceReplicate, Nat.add_one_le_iff, -getElem?_pos, -getElem?_neg, List.getElem?_cons_zero, List.getElem?_cons_succ, hl, k0, k1, k2, k3, k4, hashM, e1, e2, bC, u64C, set4, toList_inj, hac, hnm])
        | (refine ⟨_, _, d4 _, fun _ => rfl, ?_⟩; try simp [-List.reduceReplicate, Nat.add_one_le_iff, -getElem?_pos, -getElem?_neg, List.getElem?_cons_zero, List.getElem?_cons_succ, hl, k0, k1, k2, k3, k4, hashM, e1, e2, bC, u64C, set4, toList_inj, hac, hnm])
        | (refine (r1 _).det ?_; try simp [-List.reduceReplicate, Nat.add_one_le_iff, -getElem?_pos, -getElem?_neg, List.getElem?_cons_zero, List.getElem?_cons_succ, hl, k0, k1, k2, k3, k4, hashM, e1, e2, bC, u64C, set4, toList_inj, hac, hnm])
        | (refine ⟨_, _, r1 _, fun _ => rfl, ?_⟩; try simp [-List.reduceReplicate, Nat.add_one_le_iff, -getElem?_pos, -getElem?_neg, List.getElem?_cons_zero, List.getElem?_cons_succ, hl, k0, k1, k2, k3, k4, hashM, e1, e2, bC, u64C, set4, toList_inj, hac, hnm])
        | (refine (r2 _).det ?_; try simp [-List.reduceReplicate, Nat.add_one_le_iff, -getElem?_pos, -getElem?_neg, List.getElem?_cons_zero, List.getElem?_cons_succ, hl, k0, k1, k2, k3, k4, hashM, e1, e2, bC, u64C, set4, toList_inj, hac, hnm])
        | (refine ⟨_, _, r2 _, fun _ => rfl, ?_⟩; try simp [-List.reduceReplicate, Nat.add_one_le_iff, -getElem?_pos, -getElem?_neg, List.getElem?_cons_zero, List.getElem?_cons_succ, hl, k0, k1, k2, k3, k4, hashM, e1, e2, bC, u64C, set4, toList_inj, hac, hnm])
        | (refine (r3 _).det ?_; try simp [-List.reduceReplicate, Nat.add_one_le_iff, -getElem?_pos, -getElem?_neg, List.getElem?_cons_zero, List.getElem?_cons_succ, hl, k0, k1, k2, k3, k4, hashM, e1, e2, bC, u64C, set4, toList_inj, hac, hnm])
        | (refine ⟨_, _, r3 _, fun _ => rfl, ?_⟩; try simp [-List.reduceReplicate, Nat.add_one_le_iff, -getElem?_pos, -getElem?_neg, List.getElem?_cons_zero, List.getElem?_cons_succ, hl, k0, k1, k2, k3, k4, hashM, e1, e2, bC, u64C, set4, toList_inj, hac, hnm])
        | (refine (r4 _).det ?_; try simp [-List.reduceReplicate, Nat.add_one_le_iff, -getElem?_pos, -getElem?_neg, List.getElem?_cons_zero, List.getElem?_cons_succ, hl, k0, k1, k2, k3, k4, hashM, e1, e2, bC, u64C, set4, toList_inj, hac, hnm])
        | (refine ⟨_, _, r4 _, fun _ => rfl, ?_⟩; try simp [-List.reduceReplicate, Nat.add_one_le_iff, -getElem?_pos, -getElem?_neg, List.getElem?_cons_zero, List.getElem?_cons_succ, hl, k0, k1, k2, k3, k4, hashM, e1, e2, bC, u64C, set4, toList_inj, hac, hnm])
        | (with_reducible refine awp_if_b rfl (fun hc => ?_) (fun hc => ?_) <;> (try simp [-getElem?_pos, -getElem?_neg] at hc) <;> (try (exfalso; omega)))
        | (with_reducible refine GuardK_b (fun hc => ?_) (fun hc => ?_) <;> (try simp only [Bool.not_eq_true', Bool.not_eq_false', decide_eq_true_eq, decide_eq_false_iff_not] at hc) <;> (first | (exfalso; omega) | skip) <;> simp [-List.reduceReplicate, Nat.add_one_le_iff, -getElem?_pos, -getElem?_neg, List.getElem?_cons_zero, List.getElem?_cons_succ, hl, k0, k1, k2, k3, k4, hashM, e1, e2, bC, u64C, set4, toList_inj, hac, hnm, hc])
        | (with_reducible refine DGuard_b _ _ _ _ _ _ _ _ _ _ (fun hc => ?_) (fun hc => ?_) <;> (try simp only [Bool.not_eq_true', Bool.not_eq_false', decide_eq_true_eq, decide_eq_false_iff_not] at hc) <;> (first | (exfalso; omega) | skip) <;> simp [-List.reduceReplicate, Nat.add_one_le_iff, -getElem?_pos, -getElem?_neg, List.getElem?_cons_zero, List.getElem?_cons_succ, hl, k0, k1, k2, k3, k4, hashM, e1, e2, bC, u64C, set4, toList_inj, hac, hnm, hc])
        | (with_reducible refine DEv_cut _ _ _ _ _ _ _ _ _ _ _ _ (by kernel_rfl) ?_; simp [-List.reduceReplicate, Nat.add_one_le_iff, -getElem?_pos, -getElem?_neg, List.getElem?_cons_zero, List.getElem?_cons_succ, hl, k0, k1, k2, k3, k4, hashM, e1, e2, bC, u64C, set4, toList_inj, hac, hnm])
        | ((with_reducible refine hother _ _ rfl ?_); simp only [inBlockA, thenA, noGotoA, Nat.reduceEqDiff, if_false, if_true, ↓reduceIte])
        | ((with_reducible refine hother2 _ _ rfl ?_); simp only [inBlockA, thenA, noGotoA, Nat.reduceEqDiff, if_false, if_true, ↓reduceIte])
        | ((with_reducible refine hother3 _ _ rfl ?_); simp only [inBlockA, thenA, noGotoA, Nat.reduceEqDiff, if_false, if_true, ↓reduceIte])
        | (with_reducible refine And.intro (by omega) ?_)
        | (with_reducible change postOf _ _ _ _ _; simp [-List.reduceReplicate, Nat.add_one_le_iff, -getElem?_pos, -getElem?_neg, List.getElem?_cons_zero, List.getElem?_cons_succ, hl, k0, k1, k2, k3, k4, hashM, e1, e2, bC, u64C, set4, toList_inj, hac, hnm])
        | fail)
      refine awp_forU [7, 8, 9, 10] (fun i (_u : Unit) => [(10, .c (iC i))]) (fun i (_u : Unit) => [⟨22, 1, false, 0, up [.v (.string s), .v (.string t)], none⟩, ⟨25, 32, false, 0, up abcd, none⟩, ⟨27, 1, false, 0, up [u64C n, u64C m], none⟩]) (fun i (_u : Unit) => True) (4) (()) (by first | trivial | (simp; done) | omega | (intros; simp at *; done)) (by simp [-List.reduceReplicate, keep, iC, u64C]) (by simp [-List.reduceReplicate, iC, u64C]) ?_
      rintro i _u Q1 hi hH next hother
      conv => arg 5; arg 1; simp only [List.cons_append, List.nil_append, keep, get, Nat.reduceEqDiff, if_true, if_false, ↓reduceIte]
      have hwi := wrap_in ((i : Int) + 1) (by omega)
      by_cases hlt : i < 4
      · repeat' (first 
          | with_reducible refine awp_scope ?_
          | with_reducible refine awp_seq ?_
          | with_reducible refine awp_block ?_
          | (with_reducible refine awp_label ?_; try simp only [thenA, inBlockA, noGotoA])
          | (with_reducible refine awp_skip ?_; try simp only [thenA, inBlockA, noGotoA])
          | (with_reducible refine awp_exit ?_; simp only [thenA, inBlockA, noGotoA, if_true, Nat.reduceEqDiff, if_false, ↓reduceIte])
          | (with_reducible refine awp_ret ?_; (try simp only [thenA, inBlockA, noGotoA]); (try simp [-List.reduceReplicate, Nat.add_one_le_iff, -getElem?_pos, -getElem?_neg, List.getElem?_cons_zero, List.getElem?_cons_succ, iC, hlt]))
          | (with_reducible refine awp_reg 109 hX [3, 4, 5, 6, 7, 8, 9, 10, 11, 82, 86, 107] ?_; simp [-List.reduceReplicate, Nat.add_one_le_iff, -getElem?_pos, -getElem?_neg, List.getElem?_cons_zero, List.getElem?_cons_succ, iC, hlt])
          | (with_reducible refine awp_drw 109 hX [3, 4, 5, 6, 7, 8, 9, 10, 11, 82, 86, 107] Tab.mixed (by kernel_rfl) ?_; simp [-List.reduceReplicate, Nat.add_one_le_iff, -getElem?_pos, -getElem?_neg, List.getElem?_cons_zero, List.getElem?_cons_succ, iC, hlt])
          | (with_reducible refine awp_if_b rfl (fun hc => ?_) (fun hc => ?_) <;> (try simp [-getElem?_pos, -getElem?_neg] at hc) <;> (try (exfalso; omega)))
          | (with_reducible refine GuardK_b (fun hc => ?_) (fun hc => ?_) <;> (try simp only [Bool.not_eq_true', Bool.not_eq_false', decide_eq_true_eq, decide_eq_false_iff_not] at hc) <;> (first | (exfalso; omega) | skip) <;> simp [-List.reduceReplicate, Nat.add_one_le_iff, -getElem?_pos, -getElem?_neg, List.getElem?_cons_zero, List.getElem?_cons_succ, iC, hlt, hc])
          | (with_reducible refine DGuard_b _ _ _ _ _ _ _ _ _ _ (fun hc => ?_) (fun hc => ?_) <;> (try simp only [Bool.not_eq_true', Bool.not_eq_false', decide_eq_true_eq, decide_eq_false_iff_not] at hc) <;> (first | (exfalso; omega) | skip) <;> simp [-List.reduceReplicate, Nat.add_one_le_iff, -getElem?_pos, -getElem?_neg, List.getElem?_cons_zero, List.getElem?_cons_succ, iC, hlt, hc])
          | (with_reducible refine DEv_cut _ _ _ _ _ _ _ _ _ _ _ _ (by kernel_rfl) ?_; simp [-List.reduceReplicate, Nat.add_one_le_iff, -getElem?_pos, -getElem?_neg, List.getElem?_cons_zero, List.getElem?_cons_succ, iC, hlt])
          | ((with_reducible refine hother _ _ rfl ?_); simp only [inBlockA, thenA, noGotoA, Nat.reduceEqDiff, if_false, if_true, ↓reduceIte])
          | ((with_reducible refine hother2 _ _ rfl ?_); simp only [inBlockA, thenA, noGotoA, Nat.reduceEqDiff, if_false, if_true, ↓reduceIte])
          | ((with_reducible refine hother3 _ _ rfl ?_); simp only [inBlockA, thenA, noGotoA, Nat.reduceEqDiff, if_false, if_true, ↓reduceIte])
          | (with_reducible refine And.intro (by omega) ?_)
          | (with_reducible change postOf _ _ _ _ _; simp [-List.reduceReplicate, Nat.add_one_le_iff, -getElem?_pos, -getElem?_neg, List.getElem?_cons_zero, List.getElem?_cons_succ, iC, hlt])
          | fail)
        have next0 := next; have hother2 := hother; clear next hother
        refine awp_forU [7, 8, 9, 10, 11] (fun k (_u : Unit) => [(11, .c (iC k))]) (fun k (_u : Unit) => [⟨22, 1, false, 0, up [.v (.string s), .v (.string t)], none⟩, ⟨25, 32, false, 0, up abcd, none⟩, ⟨27, 1, false, 0, up [u64C n, u64C m], none⟩]) (fun k (_u : Unit) => True) (4) (()) (by first | trivial | (simp; done) | omega | (intros; simp at *; done)) (by simp [-List.reduceReplicate, keep, iC]) (by simp [-List.reduceReplicate, iC]) ?_
        rintro k _u Q1 hi hH next hother
        conv => arg 5; arg 1; simp only [List.cons_append, List.nil_append, keep, get, Nat.reduceEqDiff, if_true, if_false, ↓reduceIte]
        have hwk := wrap_in ((k : Int) + 1) (by omega)
        by_cases hlk : k < 4
        · obtain ⟨x, y, z, g1, g2, g3, g4⟩ := apart i k hlt hlk
          simp only [bC] at g3
          by_cases hik : i = k
          · subst hik
            simp only [decide_true, Bool.true_and] at g4
            repeat' (first 
              | with_reducible refine awp_scope ?_
              | with_reducible refine awp_seq ?_
              | with_reducible refine awp_block ?_
              | (with_reducible refine awp_label ?_; try simp only [thenA, inBlockA, noGotoA])
              | (with_reducible refine awp_skip ?_; try simp only [thenA, inBlockA, noGotoA])
              | (with_reducible refine awp_exit ?_; simp only [thenA, inBlockA, noGotoA, if_true, Nat.reduceEqDiff, if_false, ↓reduceIte])
              | (with_reducible refine awp_ret ?_; (try simp only [thenA, inBlockA, noGotoA]); (try simp [-List.reduceReplicate, Nat.add_one_le_iff, -getElem?_pos, -getElem?_neg, List.getElem?_cons_zero, List.getElem?_cons_succ, iC, hlt, hwk, g1, g2, g3, g4, toList_inj]))
              | (with_reducible refine awp_reg 109 hX [3, 4, 5, 6, 7, 8, 9, 10, 11, 82, 86, 107] ?_; simp [-List.reduceReplicate, Nat.add_one_le_iff, -getElem?_pos, -getElem?_neg, List.getElem?_cons_zero, List.getElem?_cons_succ, iC, hlt, hwk, g1, g2, g3, g4, toList_inj])
              | (with_reducible refine awp_drw 109 hX [3, 4, 5, 6, 7, 8, 9, 10, 11, 82, 86, 107] Tab.mixed (by kernel_rfl) ?_; simp [-List.reduceReplicate, Nat.add_one_le_iff, -getElem?_pos, -getElem?_neg, List.getElem?_cons_zero, List.getElem?_cons_succ, iC, hlt, hwk, g1, g2, g3, g4, toList_inj])
              | (with_reducible refine awp_if_b rfl (fun hc => ?_) (fun hc => ?_) <;> (try simp [-getElem?_pos, -getElem?_neg] at hc) <;> (try (exfalso; omega)))
              | (with_reducible refine GuardK_b (fun hc => ?_) (fun hc => ?_) <;> (try simp only [Bool.not_eq_true', Bool.not_eq_false', decide_eq_true_eq, decide_eq_false_iff_not] at hc) <;> (first | (exfalso; omega) | skip) <;> simp [-List.reduceReplicate, Nat.add_one_le_iff, -getElem?_pos, -getElem?_neg, List.getElem?_cons_zero, List.getElem?_cons_succ, iC, hlt, hwk, g1, g2, g3, g4, toList_inj, hc])
              | (with_reducible refine DGuard_b _ _ _ _ _ _ _ _ _ _ (fun hc => ?_) (fun hc => ?_) <;> (try simp only [Bool.not_eq_true', Bool.not_eq_false', decide_eq_true_eq, decide_eq_false_iff_not] at hc) <;> (first | (exfalso; omega) | skip) <;> simp [-List.reduceReplicate, Nat.add_one_le_iff, -getElem?_pos, -getElem?_neg, List.getElem?_cons_zero, List.getElem?_cons_succ, iC, hlt, hwk, g1, g2, g3, g4, toList_inj, hc])
              | (with_reducible refine DEv_cut _ _ _ _ _ _ _ _ _ _ _ _ (by kernel_rfl) ?_; simp [-List.reduceReplicate, Nat.add_one_le_iff, -getElem?_pos, -getElem?_neg, List.getElem?_cons_zero, List.getElem?_cons_succ, iC, hlt, hwk, g1, g2, g3, g4, toList_inj])
              | ((with_reducible refine hother _ _ rfl ?_); simp only [inBlockA, thenA, noGotoA, Nat.reduceEqDiff, if_false, if_true, ↓reduceIte])
              | ((with_reducible refine hother2 _ _ rfl ?_); simp only [inBlockA, thenA, noGotoA, Nat.reduceEqDiff, if_false, if_true, ↓reduceIte])
              | ((with_reducible refine hother3 _ _ rfl ?_); simp only [inBlockA, thenA, noGotoA, Nat.reduceEqDiff, if_false, if_true, ↓reduceIte])
              | (with_reducible refine And.intro (by omega) ?_)
              | (with_reducible change postOf _ _ _ _ _; simp [-List.reduceReplicate, Nat.add_one_le_iff, -getElem?_pos, -getElem?_neg, List.getElem?_cons_zero, List.getElem?_cons_succ, iC, hlt, hwk, g1, g2, g3, g4, toList_inj])
              | fail)
            refine next _ _ (()) (by omega) (by first | trivial | omega | assumption) (by simp [-List.reduceReplicate, keep, iC]) (by simp [-List.reduceReplicate, iC])
          · have g5 : ¬ x = y := by simpa [hik] using g4
            repeat' (first 
              | with_reducible refine awp_scope ?_
              | with_reducible refine awp_seq ?_
              | with_reducible refine awp_block ?_
              | (with_reducible refine awp_label ?_; try simp only [thenA, inBlockA, noGotoA])
              | (with_reducible refine awp_skip ?_; try simp only [thenA, inBlockA, noGotoA])
              | (with_reducible refine awp_exit ?_; simp only [thenA, inBlockA, noGotoA, if_true, Nat.reduceEqDiff, if_false, ↓reduceIte])
              | (with_reducible refine awp_ret ?_; (try simp only [thenA, inBlockA, noGotoA]); (try simp [-List.reduceReplicate, Nat.add_one_le_iff, -getElem?_pos, -getElem?_neg, List.getElem?_cons_zero, List.getElem?_cons_succ, iC, hlt, hlk, hwk, g1, g2, g3, g5, hik, toList_inj]))
              | (with_reducible refine awp_reg 109 hX [3, 4, 5, 6, 7, 8, 9, 10, 11, 82, 86, 107] ?_; simp [-List.reduceReplicate, Nat.add_one_le_iff, -getElem?_pos, -getElem?_neg, List.getElem?_cons_zero, List.getElem?_cons_succ, iC, hlt, hlk, hwk, g1, g2, g3, g5, hik, toList_inj])
              | (with_reducible refine awp_drw 109 hX [3, 4, 5, 6, 7, 8, 9, 10, 11, 82, 86, 107] Tab.mixed (by kernel_rfl) ?_; simp [-List.reduceReplicate, Nat.add_one_le_iff, -getElem?_pos, -getElem?_neg, List.getElem?_cons_zero, List.getElem?_cons_succ, iC, hlt, hlk, hwk, g1, g2, g3, g5, hik, toList_inj])
              | (with_reducible refine awp_if_b rfl (fun hc => ?_) (fun hc => ?_) <;> (try simp [-getElem?_pos, -getElem?_neg] at hc) <;> (try (exfalso; omega)))
              | (with_reducible refine GuardK_b (fun hc => ?_) (fun hc => ?_) <;> (try simp only [Bool.not_eq_true', Bool.not_eq_false', decide_eq_true_eq, decide_eq_false_iff_not] at hc) <;> (first | (exfalso; omega) | skip) <;> simp [-List.reduceReplicate, Nat.add_one_le_iff, -getElem?_pos, -getElem?_neg, List.getElem?_cons_zero, List.getElem?_cons_succ, iC, hlt, hlk, hwk, g1, g2, g3, g5, hik, toList_inj, hc])
              | (with_reducible refine DGuard_b _ _ _ _ _ _ _ _ _ _ (fun hc => ?_) (fun hc => ?_) <;> (try simp only [Bool.not_eq_true', Bool.not_eq_false', decide_eq_true_eq, decide_eq_false_iff_not] at hc) <;> (first | (exfalso; omega) | skip) <;> simp [-List.reduceReplicate, Nat.add_one_le_iff, -getElem?_pos, -getElem?_neg, List.getElem?_cons_zero, List.getElem?_cons_succ, iC, hlt, hlk, hwk, g1, g2, g3, g5, hik, toList_inj, hc])
              | (with_reducible refine DEv_cut _ _ _ _ _ _ _ _ _ _ _ _ (by kernel_rfl) ?_; simp [-List.reduceReplicate, Nat.add_one_le_iff, -getElem?_pos, -getElem?_neg, List.getElem?_cons_zero, List.getElem?_cons_succ, iC, hlt, hlk, hwk, g1, g2, g3, g5, hik, toList_inj])
              | ((with_reducible refine hother _ _ rfl ?_); simp only [inBlockA, thenA, noGotoA, Nat.reduceEqDiff, if_false, if_true, ↓reduceIte])
              | ((with_reducible refine hother2 _ _ rfl ?_); simp only [inBlockA, thenA, noGotoA, Nat.reduceEqDiff, if_false, if_true, ↓reduceIte])
              | ((with_reducible refine hother3 _ _ rfl ?_); simp only [inBlockA, thenA, noGotoA, Nat.reduceEqDiff, if_false, if_true, ↓reduceIte])
              | (with_reducible refine And.intro (by omega) ?_)
              | (with_reducible change postOf _ _ _ _ _; simp [-List.reduceReplicate, Nat.add_one_le_iff, -getElem?_pos, -getElem?_neg, List.getElem?_cons_zero, List.getElem?_cons_succ, iC, hlt, hlk, hwk, g1, g2, g3, g5, hik, toList_inj])
              | fail)
            refine next _ _ (()) (by omega) (by first | trivial | omega | assumption) (by simp [-List.reduceReplicate, keep, iC]) (by simp [-List.reduceReplicate, iC])
        · have hk : k = 4 := by omega
          subst hk
          repeat' (first 
            | with_reducible refine awp_scope ?_
            | with_reducible refine awp_seq ?_
            | with_reducible refine awp_block ?_
            | (with_reducible refine awp_label ?_; try simp only [thenA, inBlockA, noGotoA])
            | (with_reducible refine awp_skip ?_; try simp only [thenA, inBlockA, noGotoA])
            | (with_reducible refine awp_exit ?_; simp only [thenA, inBlockA, noGotoA, if_true, Nat.reduceEqDiff, if_false, ↓reduceIte])
            | (with_reducible refine awp_ret ?_; (try simp only [thenA, inBlockA, noGotoA]); (try simp [-List.reduceReplicate, Nat.add_one_le_iff, -getElem?_pos, -getElem?_neg, List.getElem?_cons_zero, List.getElem?_cons_succ, iC, hwi]))
            | (with_reducible refine awp_reg 109 hX [3, 4, 5, 6, 7, 8, 9, 10, 11, 82, 86, 107] ?_; simp [-List.reduceReplicate, Nat.add_one_le_iff, -getElem?_pos, -getElem?_neg, List.getElem?_cons_zero, List.getElem?_cons_succ, iC, hwi])
            | (with_reducible refine awp_drw 109 hX [3, 4, 5, 6, 7, 8, 9, 10, 11, 82, 86, 107] Tab.mixed (by kernel_rfl) ?_; simp [-List.reduceReplicate, Nat.add_one_le_iff, -getElem?_pos, -getElem?_neg, List.getElem?_cons_zero, List.getElem?_cons_succ, iC, hwi])
            | (with_reducible refine awp_if_b rfl (fun hc => ?_) (fun hc => ?_) <;> (try simp [-getElem?_pos, -getElem?_neg] at hc) <;> (try (exfalso; omega)))
            | (with_reducible refine GuardK_b (fun hc => ?_) (fun hc => ?_) <;> (try simp only [Bool.not_eq_true', Bool.not_eq_false', decide_eq_true_eq, decide_eq_false_iff_not] at hc) <;> (first | (exfalso; omega) | skip) <;> simp [-List.reduceReplicate, Nat.add_one_le_iff, -getElem?_pos, -getElem?_neg, List.getElem?_cons_zero, List.getElem?_cons_succ, iC, hwi, hc])
            | (with_reducible refine DGuard_b _ _ _ _ _ _ _ _ _ _ (fun hc => ?_) (fun hc => ?_) <;> (try simp only [Bool.not_eq_true', Bool.not_eq_false', decide_eq_true_eq, decide_eq_false_iff_not] at hc) <;> (first | (exfalso; omega) | skip) <;> simp [-List.reduceReplicate, Nat.add_one_le_iff, -getElem?_pos, -getElem?_neg, List.getElem?_cons_zero, List.getElem?_cons_succ, iC, hwi, hc])
            | (with_reducible refine DEv_cut _ _ _ _ _ _ _ _ _ _ _ _ (by kernel_rfl) ?_; simp [-List.reduceReplicate, Nat.add_one_le_iff, -getElem?_pos, -getElem?_neg, List.getElem?_cons_zero, List.getElem?_cons_succ, iC, hwi])
            | ((with_reducible refine hother _ _ rfl ?_); simp only [inBlockA, thenA, noGotoA, Nat.reduceEqDiff, if_false, if_true, ↓reduceIte])
            | ((with_reducible refine hother2 _ _ rfl ?_); simp only [inBlockA, thenA, noGotoA, Nat.reduceEqDiff, if_false, if_true, ↓reduceIte])
            | ((with_reducible refine hother3 _ _ rfl ?_); simp only [inBlockA, thenA, noGotoA, Nat.reduceEqDiff, if_false, if_true, ↓reduceIte])
            | (with_reducible refine And.intro (by omega) ?_)
            | (with_reducible change postOf _ _ _ _ _; simp [-List.reduceReplicate, Nat.add_one_le_iff, -getElem?_pos, -getElem?_neg, List.getElem?_cons_zero, List.getElem?_cons_succ, iC, hwi])
            | fail)
          refine next0 _ _ (()) (by omega) (by first | trivial | omega | assumption) (by simp [-List.reduceReplicate, keep, iC]) (by simp [-List.reduceReplicate, iC])
      · have hi4 : i = 4 := by omega
        subst hi4
        repeat' (first 
          | with_reducible refine awp_scope ?_
          | with_reducible refine awp_seq ?_
          | with_reducible refine awp_block ?_
          | (with_reducible refine awp_label ?_; try simp only [thenA, inBlockA, noGotoA])
          | (with_reducible refine awp_skip ?_; try simp only [thenA, inBlockA, noGotoA])
          | (with_reducible refine awp_exit ?_; simp only [thenA, inBlockA, noGotoA, if_true, Nat.reduceEqDiff, if_false, ↓reduceIte])
          | (with_reducible refine awp_ret ?_; (try simp only [thenA, inBlockA, noGotoA]); (try simp [-List.reduceReplicate, Nat.add_one_le_iff, -getElem?_pos, -getElem?_neg, List.getElem?_cons_zero, List.getElem?_cons_succ, iC, bC]))
          | (with_reducible refine awp_reg 109 hX [3, 4, 5, 6, 7, 8, 9, 10, 11, 82, 86, 107] ?_; simp [-List.reduceReplicate, Nat.add_one_le_iff, -getElem?_pos, -getElem?_neg, List.getElem?_cons_zero, List.getElem?_cons_succ, iC, bC])
          | (with_reducible refine awp_drw 109 hX [3, 4, 5, 6, 7, 8, 9, 10, 11, 82, 86, 107] Tab.mixed (by kernel_rfl) ?_; simp [-List.reduceReplicate, Nat.add_one_le_iff, -getElem?_pos, -getElem?_neg, List.getElem?_cons_zero, List.getElem?_cons_succ, iC, bC])
          | ((with_reducible refine Den.at_ (f := 18) ?_); refine (awake03_den _).det ?_; try simp [-List.reduceReplicate, Nat.add_one_le_iff, -getElem?_pos, -getElem?_neg, List.getElem?_cons_zero, List.getElem?_cons_succ, iC, bC])
          | ((with_reducible refine drawn_at (f := 18) ?_); refine ⟨_, _, awake03_den _, fun _ => rfl, ?_⟩; try simp [-List.reduceReplicate, Nat.add_one_le_iff, -getElem?_pos, -getElem?_neg, List.getElem?_cons_zero, List.getElem?_cons_succ, iC, bC])
          | (with_reducible refine awp_if_b rfl (fun hc => ?_) (fun hc => ?_) <;> (try simp [-getElem?_pos, -getElem?_neg] at hc) <;> (try (exfalso; omega)))
          | (with_reducible refine GuardK_b (fun hc => ?_) (fun hc => ?_) <;> (try simp only [Bool.not_eq_true', Bool.not_eq_false', decide_eq_true_eq, decide_eq_false_iff_not] at hc) <;> (first | (exfalso; omega) | skip) <;> simp [-List.reduceReplicate, Nat.add_one_le_iff, -getElem?_pos, -getElem?_neg, List.getElem?_cons_zero, List.getElem?_cons_succ, iC, bC, hc])
          | (with_reducible refine DGuard_b _ _ _ _ _ _ _ _ _ _ (fun hc => ?_) (fun hc => ?_) <;> (try simp only [Bool.not_eq_true', Bool.not_eq_false', decide_eq_true_eq, decide_eq_false_iff_not] at hc) <;> (first | (exfalso; omega) | skip) <;> simp [-List.reduceReplicate, Nat.add_one_le_iff, -getElem?_pos, -getElem?_neg, List.getElem?_cons_zero, List.getElem?_cons_succ, iC, bC, hc])
          | (with_reducible refine DEv_cut _ _ _ _ _ _ _ _ _ _ _ _ (by kernel_rfl) ?_; simp [-List.reduceReplicate, Nat.add_one_le_iff, -getElem?_pos, -getElem?_neg, List.getElem?_cons_zero, List.getElem?_cons_succ, iC, bC])
          | ((with_reducible refine hother _ _ rfl ?_); simp only [inBlockA, thenA, noGotoA, Nat.reduceEqDiff, if_false, if_true, ↓reduceIte])
          | ((with_reducible refine hother2 _ _ rfl ?_); simp only [inBlockA, thenA, noGotoA, Nat.reduceEqDiff, if_false, if_true, ↓reduceIte])
          | ((with_reducible refine hother3 _ _ rfl ?_); simp only [inBlockA, thenA, noGotoA, Nat.reduceEqDiff, if_false, if_true, ↓reduceIte])
          | (with_reducible refine And.intro (by omega) ?_)
          | (with_reducible change postOf _ _ _ _ _; simp [-List.reduceReplicate, Nat.add_one_le_iff, -getElem?_pos, -getElem?_neg, List.getElem?_cons_zero, List.getElem?_cons_succ, iC, bC])
          | fail)
end Go.Av
