import Derived.Test.YtahcfdbjookojaaAvT36
set_option linter.unusedVariables false
set_option linter.unusedSimpArgs false
set_option maxRecDepth 100000
set_option maxHeartbeats 4000000
namespace Go.Av
open Go Go.Proofs Go.Proofs.Ytahcfdbjookojaa Go.RowKit
/-! ### headers apart -/
theorem eqM_app : ∀ {ks : List Nat} {xs ys : List M} {u v : Bool} {ks' : List Nat} {xs' ys' : List M}, eqM ks xs ys = some u → eqM ks' xs' ys' = some v → eqM (ks ++ ks') (xs ++ xs') (ys ++ ys') = some (u && v)
  | [], [], [], u, v, ks', xs', ys', h, h' => by
    obtain rfl : true = u := by simpa [eqM] using h
    simpa using h'
  | [], [], _ :: _, u, v, ks', xs', ys', h, h' => by simp [eqM] at h
  | [], _ :: _, _, u, v, ks', xs', ys', h, h' => by simp [eqM] at h
  | k :: ks, [], _, u, v, ks', xs', ys', h, h' => by simp [eqM] at h
  | k :: ks, _ :: _, [], u, v, ks', xs', ys', h, h' => by simp [eqM] at h
  | k :: ks, x :: xs, y :: ys, u, v, ks', xs', ys', h, h' => by
    simp only [eqM] at h
    split at h
    · rename_i a b h1 h2
      obtain rfl := Option.some.inj h
      simp only [List.cons_append, eqM, h1, eqM_app h2 h', Bool.and_assoc]
    · simp at h
theorem HD.ext' (a b : HD) : a = b ↔ a.v = b.v ∧ a.a.1 = b.a.1 ∧ a.b.1 = b.b.1 ∧ a.n = b.n := by
  obtain ⟨v, ⟨x, hx⟩, ⟨y, hy⟩, n⟩ := a
  obtain ⟨v', ⟨x', hx'⟩, ⟨y', hy'⟩, n'⟩ := b
  simp
instance : DecidableEq HD := fun a b => decidable_of_iff _ (HD.ext' a b).symm
theorem eq_header (a b : HD) : eqM (List.replicate 66 0) (up (hdC a)) (up (hdC b)) = some (decide (a = b)) := by
  have h1 : eqM [0] [M.c (u32v a.v)] [M.c (u32v b.v)] = some (decide (a.v = b.v)) := by
    simp [eqM, eqLeaf, u32v]; omega
  have h2 := eq_hash a.a.1 b.a.1 a.a.2 b.a.2
  have h3 := eq_hash a.b.1 b.b.1 a.b.2 b.b.2
  have h4 : eqM [0] [M.c (u64C a.n)] [M.c (u64C b.n)] = some (decide (a.n = b.n)) := by
    simp [eqM, eqLeaf, u64C]; omega
  have h := eqM_app h1 (eqM_app h2 (eqM_app h3 h4))
  have e : ∀ x : HD, up (hdC x) = [M.c (u32v x.v)] ++ (up (x.a.1.map bC8) ++ (up (x.b.1.map bC8) ++ [M.c (u64C x.n)])) := fun x => by simp [up, hdC]
  rw [e a, e b, show List.replicate 66 0 = [0] ++ (List.replicate 32 0 ++ (List.replicate 32 0 ++ [0])) by rfl, h]
  congr 1
  have := HD.ext' a b
  by_cases q : a = b
  · subst q; simp
  · rw [decide_eq_false q]
    rw [this] at q
    simp only [not_and] at q
    by_cases q1 : a.v = b.v <;> by_cases q2 : a.a.1 = b.a.1 <;> by_cases q3 : a.b.1 = b.b.1 <;> by_cases q4 : a.n = b.n <;> simp_all
theorem hdL_inj (a b : HD) (ha : HDok a) (hb : HDok b) : hdL a = hdL b ↔ a = b := by
  constructor
  · intro h
    unfold hdL at h
    obtain ⟨h1, h⟩ := List.append_inj h (by rw [putN_len, putN_len])
    obtain ⟨h2, h⟩ := List.append_inj h (by rw [a.a.2, b.a.2])
    obtain ⟨h3, h4⟩ := List.append_inj h (by rw [a.b.2, b.b.2])
    have e1 := putN_inj 4 a.v b.v (by simpa using ha.1) (by simpa using hb.1) h1
    have e4 := putN_inj 8 a.n b.n (by simpa using ha.2) (by simpa using hb.2) h4
    exact (HD.ext' a b).2 ⟨e1, h2, h3, e4⟩
  · intro h; rw [h]
theorem identApart_den (a b : HD) (ha : HDok a) (hb : HDok b) (ob : List Ob) :
    Den Try.prog 13 [hdM a, hdM b] ob (fun r ob' => r = .c (bC true) ∧ ob' = ob) := by
  refine Den.frame (by simp [ltBs, ltB, hdM, ltBs_up]) rfl ?_ ob
  have e1 := eq_header a b
  have la := hdC_len a
  have lb := hdC_len b
  have ka := hdC_66 a
  have kb := hdC_66 b
  have ta := identText_den a ha
  have tb := identText_den b hb
  have ia := identId_den a ha
  have ib := identId_den b hb
  have hla : (idL a).length = 32 := shaL_len _
  have hlb : (idL b).length = 32 := shaL_len _
  have e2 := eq_hash (idL a) (idL b) hla hlb
  have t1 := hash_take _ hla
  have t2 := hash_take _ hlb
  have e3 : (bsS (3 :: hdL a) = bsS (3 :: hdL b)) ↔ a = b := by rw [bs_inj, List.cons.injEq, hdL_inj a b ha hb]; simp
  unfold hdM at *
  by_cases hab : a = b
  · subst hab
    have e4 := eq_hash1 (idL a) hla
    generalize bsS (3 :: hdL a) = x at *
    generalize idL a = i at *
    generalize hdC a = ca at *
    refine den_of Try.func13 rfl rfl (by simp [Try.ntmps13]) (fun X hX hO => ?_)
    rw [Try.ntmps13] at hX
    simp only [Try.results13]
    repeat' (first 
      | with_reducible refine awp_scope ?_
      | with_reducible refine awp_seq ?_
      | with_reducible refine awp_block ?_
      | (with_reducible refine awp_label ?_; try simp only [thenA, inBlockA, noGotoA])
      | (with_reducible refine awp_skip ?_; try simp only [thenA, inBlockA, noGotoA])
      | (with_reducible refine awp_exit ?_; simp only [thenA, inBlockA, noGotoA, if_true, Nat.reduceEqDiff, if_false, ↓reduceIte])
      | (with_reducible refine awp_ret ?_; (try simp only [thenA, inBlockA, noGotoA]); (try simp [-List.reduceReplicate, Nat.add_one_le_iff, -getElem?_pos, -getElem?_neg, List.getElem?_cons_zero, List.getElem?_cons_succ, la, ka, e1, e4, t1, hla, hashM, bC, toList_inj]))
      | (with_reducible refine awp_reg 29 hX [2, 3, 4] ?_; simp [-List.reduceReplicate, Nat.add_one_le_iff, -getElem?_pos, -getElem?_neg, List.getElem?_cons_zero, List.getElem?_cons_succ, la, ka, e1, e4, t1, hla, hashM, bC, toList_inj])
      | (with_reducible refine awp_drw 29 hX [2, 3, 4] Tab.mixed (by kernel_rfl) ?_; simp [-List.reduceReplicate, Nat.add_one_le_iff, -getElem?_pos, -getElem?_neg, List.getElem?_cons_zero, List.getElem?_cons_succ, la, ka, e1, e4, t1, hla, hashM, bC, toList_inj])
      | (refine (ta _).det ?_; try simp [-List.reduceReplicate, Nat.add_one_le_iff, -getElem?_pos, -getElem?_neg, List.getElem?_cons_zero, List.getElem?_cons_succ, la, ka, e1, e4, t1, hla, hashM, bC, toList_inj])
      | (refine ⟨_, _, ta _, fun _ => rfl, ?_⟩; try simp [-List.reduceReplicate, Nat.add_one_le_iff, -getElem?_pos, -getElem?_neg, List.getElem?_cons_zero, List.getElem?_cons_succ, la, ka, e1, e4, t1, hla, hashM, bC, toList_inj])
      | (refine (ia _).det ?_; try simp [-List.reduceReplicate, Nat.add_one_le_iff, -getElem?_pos, -getElem?_neg, List.getElem?_cons_zero, List.getElem?_cons_succ, la, ka, e1, e4, t1, hla, hashM, bC, toList_inj])
      | (refine ⟨_, _, ia _, fun _ => rfl, ?_⟩; try simp [-List.reduceReplicate, Nat.add_one_le_iff, -getElem?_pos, -getElem?_neg, List.getElem?_cons_zero, List.getElem?_cons_succ, la, ka, e1, e4, t1, hla, hashM, bC, toList_inj])
      | ((with_reducible refine Den.at_ (f := 42) ?_); refine (awake18_den _).det ?_; try simp [-List.reduceReplicate, Nat.add_one_le_iff, -getElem?_pos, -getElem?_neg, List.getElem?_cons_zero, List.getElem?_cons_succ, la, ka, e1, e4, t1, hla, hashM, bC, toList_inj])
      | ((with_reducible refine drawn_at (f := 42) ?_); refine ⟨_, _, awake18_den _, fun _ => rfl, ?_⟩; try simp [-List.reduceReplicate, Nat.add_one_le_iff, -getElem?_pos, -getElem?_neg, List.getElem?_cons_zero, List.getElem?_cons_succ, la, ka, e1, e4, t1, hla, hashM, bC, toList_inj])
      | (with_reducible refine awp_if_b rfl (fun hc => ?_) (fun hc => ?_) <;> (try simp [-getElem?_pos, -getElem?_neg] at hc) <;> (try (exfalso; omega)))
      | (with_reducible refine GuardK_b (fun hc => ?_) (fun hc => ?_) <;> (try simp only [Bool.not_eq_true', Bool.not_eq_false', decide_eq_true_eq, decide_eq_false_iff_not] at hc) <;> (first | (exfalso; omega) | skip) <;> simp [-List.reduceReplicate, Nat.add_one_le_iff, -getElem?_pos, -getElem?_neg, List.getElem?_cons_zero, List.getElem?_cons_succ, la, ka, e1, e4, t1, hla, hashM, bC, toList_inj, hc])
      | (with_reducible refine DGuard_b _ _ _ _ _ _ _ _ _ _ (fun hc => ?_) (fun hc => ?_) <;> (try simp only [Bool.not_eq_true', Bool.not_eq_false', decide_eq_true_eq, decide_eq_false_iff_not] at hc) <;> (first | (exfalso; omega) | skip) <;> simp [-List.reduceReplicate, Nat.add_one_le_iff, -getElem?_pos, -getElem?_neg, List.getElem?_cons_zero, List.getElem?_cons_succ, la, ka, e1, e4, t1, hla, hashM, bC, toList_inj, hc])
      | (with_reducible refine DEv_cut _ _ _ _ _ _ _ _ _ _ _ _ (by kernel_rfl) ?_; simp [-List.reduceReplicate, Nat.add_one_le_iff, -getElem?_pos, -getElem?_neg, List.getElem?_cons_zero, List.getElem?_cons_succ, la, ka, e1, e4, t1, hla, hashM, bC, toList_inj])
      | ((with_reducible refine hother _ _ rfl ?_); simp only [inBlockA, thenA, noGotoA, Nat.reduceEqDiff, if_false, if_true, ↓reduceIte])
      | ((with_reducible refine hother2 _ _ rfl ?_); simp only [inBlockA, thenA, noGotoA, Nat.reduceEqDiff, if_false, if_true, ↓reduceIte])
      | ((with_reducible refine hother3 _ _ rfl ?_); simp only [inBlockA, thenA, noGotoA, Nat.reduceEqDiff, if_false, if_true, ↓reduceIte])
      | (with_reducible refine And.intro (by omega) ?_)
      | (with_reducible change postOf _ _ _ _ _; simp [-List.reduceReplicate, Nat.add_one_le_iff, -getElem?_pos, -getElem?_neg, List.getElem?_cons_zero, List.getElem?_cons_succ, la, ka, e1, e4, t1, hla, hashM, bC, toList_inj])
      | fail)
  · have e3' : ¬ bsS (3 :: hdL a) = bsS (3 :: hdL b) := fun h => hab (e3.1 h)
    generalize bsS (3 :: hdL a) = x at *
    generalize bsS (3 :: hdL b) = y at *
    generalize idL a = i at *
    generalize idL b = j at *
    generalize hdC a = ca at *
    generalize hdC b = cb at *
    refine den_of Try.func13 rfl rfl (by simp [Try.ntmps13]) (fun X hX hO => ?_)
    rw [Try.ntmps13] at hX
    simp only [Try.results13]
    repeat' (first 
      | with_reducible refine awp_scope ?_
      | with_reducible refine awp_seq ?_
      | with_reducible refine awp_block ?_
      | (with_reducible refine awp_label ?_; try simp only [thenA, inBlockA, noGotoA])
      | (with_reducible refine awp_skip ?_; try simp only [thenA, inBlockA, noGotoA])
      | (with_reducible refine awp_exit ?_; simp only [thenA, inBlockA, noGotoA, if_true, Nat.reduceEqDiff, if_false, ↓reduceIte])
      | (with_reducible refine awp_ret ?_; (try simp only [thenA, inBlockA, noGotoA]); (try simp [-List.reduceReplicate, Nat.add_one_le_iff, -getElem?_pos, -getElem?_neg, List.getElem?_cons_zero, List.getElem?_cons_succ, la, ka, lb, kb, e1, hab, e3', t1, t2, hla, hlb, hashM, bC, toList_inj]))
      | (with_reducible refine awp_reg 29 hX [2, 3, 4] ?_; simp [-List.reduceReplicate, Nat.add_one_le_iff, -getElem?_pos, -getElem?_neg, List.getElem?_cons_zero, List.getElem?_cons_succ, la, ka, lb, kb, e1, hab, e3', t1, t2, hla, hlb, hashM, bC, toList_inj])
      | (with_reducible refine awp_drw 29 hX [2, 3, 4] Tab.mixed (by kernel_rfl) ?_; simp [-List.reduceReplicate, Nat.add_one_le_iff, -getElem?_pos, -getElem?_neg, List.getElem?_cons_zero, List.getElem?_cons_succ, la, ka, lb, kb, e1, hab, e3', t1, t2, hla, hlb, hashM, bC, toList_inj])
      | (refine (ta _).det ?_; try simp [-List.reduceReplicate, Nat.add_one_le_iff, -getElem?_pos, -getElem?_neg, List.getElem?_cons_zero, List.getElem?_cons_succ, la, ka, lb, kb, e1, hab, e3', t1, t2, hla, hlb, hashM, bC, toList_inj])
      | (refine ⟨_, _, ta _, fun _ => rfl, ?_⟩; try simp [-List.reduceReplicate, Nat.add_one_le_iff, -getElem?_pos, -getElem?_neg, List.getElem?_cons_zero, List.getElem?_cons_succ, la, ka, lb, kb, e1, hab, e3', t1, t2, hla, hlb, hashM, bC, toList_inj])
      | (refine (tb _).det ?_; try simp [-List.reduceReplicate, Nat.add_one_le_iff, -getElem?_pos, -getElem?_neg, List.getElem?_cons_zero, List.getElem?_cons_succ, la, ka, lb, kb, e1, hab, e3', t1, t2, hla, hlb, hashM, bC, toList_inj])
      | (refine ⟨_, _, tb _, fun _ => rfl, ?_⟩; try simp [-List.reduceReplicate, Nat.add_one_le_iff, -getElem?_pos, -getElem?_neg, List.getElem?_cons_zero, List.getElem?_cons_succ, la, ka, lb, kb, e1, hab, e3', t1, t2, hla, hlb, hashM, bC, toList_inj])
      | (refine (ia _).det ?_; try simp [-List.reduceReplicate, Nat.add_one_le_iff, -getElem?_pos, -getElem?_neg, List.getElem?_cons_zero, List.getElem?_cons_succ, la, ka, lb, kb, e1, hab, e3', t1, t2, hla, hlb, hashM, bC, toList_inj])
      | (refine ⟨_, _, ia _, fun _ => rfl, ?_⟩; try simp [-List.reduceReplicate, Nat.add_one_le_iff, -getElem?_pos, -getElem?_neg, List.getElem?_cons_zero, List.getElem?_cons_succ, la, ka, lb, kb, e1, hab, e3', t1, t2, hla, hlb, hashM, bC, toList_inj])
      | (refine (ib _).det ?_; try simp [-List.reduceReplicate, Nat.add_one_le_iff, -getElem?_pos, -getElem?_neg, List.getElem?_cons_zero, List.getElem?_cons_succ, la, ka, lb, kb, e1, hab, e3', t1, t2, hla, hlb, hashM, bC, toList_inj])
      | (refine ⟨_, _, ib _, fun _ => rfl, ?_⟩; try simp [-List.reduceReplicate, Nat.add_one_le_iff, -getElem?_pos, -getElem?_neg, List.getElem?_cons_zero, List.getElem?_cons_succ, la, ka, lb, kb, e1, hab, e3', t1, t2, hla, hlb, hashM, bC, toList_inj])
      | ((with_reducible refine Den.at_ (f := 42) ?_); refine (awake18_den _).det ?_; try simp [-List.reduceReplicate, Nat.add_one_le_iff, -getElem?_pos, -getElem?_neg, List.getElem?_cons_zero, List.getElem?_cons_succ, la, ka, lb, kb, e1, hab, e3', t1, t2, hla, hlb, hashM, bC, toList_inj])
      | ((with_reducible refine drawn_at (f := 42) ?_); refine ⟨_, _, awake18_den _, fun _ => rfl, ?_⟩; try simp [-List.reduceReplicate, Nat.add_one_le_iff, -getElem?_pos, -getElem?_neg, List.getElem?_cons_zero, List.getElem?_cons_succ, la, ka, lb, kb, e1, hab, e3', t1, t2, hla, hlb, hashM, bC, toList_inj])
      | (with_reducible refine awp_if_b rfl (fun hc => ?_) (fun hc => ?_) <;> (try simp [-getElem?_pos, -getElem?_neg] at hc) <;> (try (exfalso; omega)))
      | (with_reducible refine GuardK_b (fun hc => ?_) (fun hc => ?_) <;> (try simp only [Bool.not_eq_true', Bool.not_eq_false', decide_eq_true_eq, decide_eq_false_iff_not] at hc) <;> (first | (exfalso; omega) | skip) <;> simp [-List.reduceReplicate, Nat.add_one_le_iff, -getElem?_pos, -getElem?_neg, List.getElem?_cons_zero, List.getElem?_cons_succ, la, ka, lb, kb, e1, hab, e3', t1, t2, hla, hlb, hashM, bC, toList_inj, hc])
      | (with_reducible refine DGuard_b _ _ _ _ _ _ _ _ _ _ (fun hc => ?_) (fun hc => ?_) <;> (try simp only [Bool.not_eq_true', Bool.not_eq_false', decide_eq_true_eq, decide_eq_false_iff_not] at hc) <;> (first | (exfalso; omega) | skip) <;> simp [-List.reduceReplicate, Nat.add_one_le_iff, -getElem?_pos, -getElem?_neg, List.getElem?_cons_zero, List.getElem?_cons_succ, la, ka, lb, kb, e1, hab, e3', t1, t2, hla, hlb, hashM, bC, toList_inj, hc])
      | (with_reducible refine DEv_cut _ _ _ _ _ _ _ _ _ _ _ _ (by kernel_rfl) ?_; simp [-List.reduceReplicate, Nat.add_one_le_iff, -getElem?_pos, -getElem?_neg, List.getElem?_cons_zero, List.getElem?_cons_succ, la, ka, lb, kb, e1, hab, e3', t1, t2, hla, hlb, hashM, bC, toList_inj])
      | ((with_reducible refine hother _ _ rfl ?_); simp only [inBlockA, thenA, noGotoA, Nat.reduceEqDiff, if_false, if_true, ↓reduceIte])
      | ((with_reducible refine hother2 _ _ rfl ?_); simp only [inBlockA, thenA, noGotoA, Nat.reduceEqDiff, if_false, if_true, ↓reduceIte])
      | ((with_reducible refine hother3 _ _ rfl ?_); simp only [inBlockA, thenA, noGotoA, Nat.reduceEqDiff, if_false, if_true, ↓reduceIte])
      | (with_reducible refine And.intro (by omega) ?_)
      | (with_reducible change postOf _ _ _ _ _; simp [-List.reduceReplicate, Nat.add_one_le_iff, -getElem?_pos, -getElem?_neg, List.getElem?_cons_zero, List.getElem?_cons_succ, la, ka, lb, kb, e1, hab, e3', t1, t2, hla, hlb, hashM, bC, toList_inj])
      | fail)
end Go.Av
