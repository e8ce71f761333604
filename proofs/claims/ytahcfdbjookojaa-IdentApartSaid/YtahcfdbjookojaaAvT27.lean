import Derived.Test.YtahcfdbjookojaaAvT26
set_option linter.unusedVariables false
set_option linter.unusedSimpArgs false
set_option maxRecDepth 100000
set_option maxHeartbeats 4000000
namespace Go.Av
open Go Go.Proofs Go.Proofs.Ytahcfdbjookojaa Go.RowKit
theorem shaL_len (t : ByteArray) : (shaL t).length = 32 := wBytes_len _
theorem abc_bytes : (shaL ⟨#[97, 98, 99]⟩)[0]? = some 186 ∧ (shaL ⟨#[97, 98, 99]⟩)[1]? = some 120 ∧ (shaL ⟨#[97, 98, 99]⟩)[2]? = some 22 ∧ (shaL ⟨#[97, 98, 99]⟩)[3]? = some 191 ∧ (shaL ⟨#[97, 98, 99]⟩)[31]? = some 173 := by decide +kernel
theorem hash_take (l : List UInt8) (h : l.length = 32) : (l.map bC8).take 32 = l.map bC8 := List.take_of_length_le (by simp [h])
theorem awake02_den : DenV Try.prog 21 [] (.c (bC true)) := by
  refine Den.frame rfl rfl ?_
  refine den_of Try.func21 rfl rfl (by simp [Try.ntmps21]) (fun X hX hO => ?_)
  rw [Try.ntmps21] at hX
  simp only [Try.results21]
  obtain ⟨e1, e2, e3, e4, e5⟩ := abc_bytes
  have hl := shaL_len ⟨#[97, 98, 99]⟩
  have htk := hash_take _ hl
  have hsd := sha_den ⟨#[97, 98, 99]⟩ (by decide)
  generalize shaL ⟨#[97, 98, 99]⟩ = out at *
  have hp : (bsS (padL 0)).size = 64 := by decide +kernel
  repeat' (first 
    | with_reducible refine awp_scope ?_
    | with_reducible refine awp_seq ?_
    | with_reducible refine awp_block ?_
    | (with_reducible refine awp_label ?_; try simp only [thenA, inBlockA, noGotoA])
    | (with_reducible refine awp_skip ?_; try simp only [thenA, inBlockA, noGotoA])
    | (with_reducible refine awp_exit ?_; simp only [thenA, inBlockA, noGotoA, if_true, Nat.reduceEqDiff, if_false, ↓reduceIte])
    | (with_reducible refine awp_ret ?_; (try simp only [thenA, inBlockA, noGotoA]); (try simp [-List.reduceReplicate, Nat.add_one_le_iff, -getElem?_pos, -getElem?_neg, List.getElem?_cons_zero, List.getElem?_cons_succ, bC, hashM, hl, htk, e1, e2, e3, e4, e5, hp, u64C, bC8]))
    | (with_reducible refine awp_reg 31 hX [0, 1] ?_; simp [-List.reduceReplicate, Nat.add_one_le_iff, -getElem?_pos, -getElem?_neg, List.getElem?_cons_zero, List.getElem?_cons_succ, bC, hashM, hl, htk, e1, e2, e3, e4, e5, hp, u64C, bC8])
    | (with_reducible refine awp_drw 31 hX [0, 1] Tab.mixed (by kernel_rfl) ?_; simp [-List.reduceReplicate, Nat.add_one_le_iff, -getElem?_pos, -getElem?_neg, List.getElem?_cons_zero, List.getElem?_cons_succ, bC, hashM, hl, htk, e1, e2, e3, e4, e5, hp, u64C, bC8])
    | (refine (hsd _).det ?_; try simp [-List.reduceReplicate, Nat.add_one_le_iff, -getElem?_pos, -getElem?_neg, List.getElem?_cons_zero, List.getElem?_cons_succ, bC, hashM, hl, htk, e1, e2, e3, e4, e5, hp, u64C, bC8])
    | (refine ⟨_, _, hsd _, fun _ => rfl, ?_⟩; try simp [-List.reduceReplicate, Nat.add_one_le_iff, -getElem?_pos, -getElem?_neg, List.getElem?_cons_zero, List.getElem?_cons_succ, bC, hashM, hl, htk, e1, e2, e3, e4, e5, hp, u64C, bC8])
    | ((with_reducible refine Den.at_ (f := 28) ?_); refine (pad_den 0 (by omega) _).det ?_; try simp [-List.reduceReplicate, Nat.add_one_le_iff, -getElem?_pos, -getElem?_neg, List.getElem?_cons_zero, List.getElem?_cons_succ, bC, hashM, hl, htk, e1, e2, e3, e4, e5, hp, u64C, bC8])
    | ((with_reducible refine drawn_at (f := 28) ?_); refine ⟨_, _, pad_den 0 (by omega) _, fun _ => rfl, ?_⟩; try simp [-List.reduceReplicate, Nat.add_one_le_iff, -getElem?_pos, -getElem?_neg, List.getElem?_cons_zero, List.getElem?_cons_succ, bC, hashM, hl, htk, e1, e2, e3, e4, e5, hp, u64C, bC8])
    | (with_reducible refine awp_if_b rfl (fun hc => ?_) (fun hc => ?_) <;> (try simp [-getElem?_pos, -getElem?_neg] at hc) <;> (try (exfalso; omega)))
    | (with_reducible refine GuardK_b (fun hc => ?_) (fun hc => ?_) <;> (try simp only [Bool.not_eq_true', Bool.not_eq_false', decide_eq_true_eq, decide_eq_false_iff_not] at hc) <;> (first | (exfalso; omega) | skip) <;> simp [-List.reduceReplicate, Nat.add_one_le_iff, -getElem?_pos, -getElem?_neg, List.getElem?_cons_zero, List.getElem?_cons_succ, bC, hashM, hl, htk, e1, e2, e3, e4, e5, hp, u64C, bC8, hc])
    | (with_reducible refine DGuard_b _ _ _ _ _ _ _ _ _ _ (fun hc => ?_) (fun hc => ?_) <;> (try simp only [Bool.not_eq_true', Bool.not_eq_false', decide_eq_true_eq, decide_eq_false_iff_not] at hc) <;> (first | (exfalso; omega) | skip) <;> simp [-List.reduceReplicate, Nat.add_one_le_iff, -getElem?_pos, -getElem?_neg, List.getElem?_cons_zero, List.getElem?_cons_succ, bC, hashM, hl, htk, e1, e2, e3, e4, e5, hp, u64C, bC8, hc])
    | (with_reducible refine DEv_cut _ _ _ _ _ _ _ _ _ _ _ _ (by kernel_rfl) ?_; simp [-List.reduceReplicate, Nat.add_one_le_iff, -getElem?_pos, -getElem?_neg, List.getElem?_cons_zero, List.getElem?_cons_succ, bC, hashM, hl, htk, e1, e2, e3, e4, e5, hp, u64C, bC8])
    | ((with_reducible refine hother _ _ rfl ?_); simp only [inBlockA, thenA, noGotoA, Nat.reduceEqDiff, if_false, if_true, ↓reduceIte])
    | ((with_reducible refine hother2 _ _ rfl ?_); simp only [inBlockA, thenA, noGotoA, Nat.reduceEqDiff, if_false, if_true, ↓reduceIte])
    | ((with_reducible refine hother3 _ _ rfl ?_); simp only [inBlockA, thenA, noGotoA, Nat.reduceEqDiff, if_false, if_true, ↓reduceIte])
    | (with_reducible refine And.intro (by omega) ?_)
    | (with_reducible change postOf _ _ _ _ _; simp [-List.reduceReplicate, Nat.add_one_le_iff, -getElem?_pos, -getElem?_neg, List.getElem?_cons_zero, List.getElem?_cons_succ, bC, hashM, hl, htk, e1, e2, e3, e4, e5, hp, u64C, bC8])
    | fail)
theorem eq_hash1 (l : List UInt8) (h : l.length = 32) : eqM (List.replicate 32 0) (up (l.map bC8)) (up (l.map bC8)) = some true := by rw [eq_hash l l h h]; simp
theorem eq_words (n : Nat) (l : List W) (h : l.length = n) : eqM (List.replicate n 0) (up (l.map wC)) (up (l.map wC)) = some true := by
  have e := eqM_ints (k := .u32) n (l.map wI) (l.map wI) (by simp [h]) (by simp [h])
  rw [List.map_map] at e
  have : (l.map ((fun x => C.v (.int .u32 x)) ∘ wI)) = l.map wC := rfl
  rw [this] at e
  rw [e]; simp
theorem shaSums_den (b : ByteArray) (ob : List Ob) : Den Try.prog 4 [.c (.v (.string b))] ob (fun r ob' => r = .c (bC true) ∧ ob' = ob) := by
  refine Den.frame rfl rfl ?_ ob
  refine den_of Try.func4 rfl rfl (by simp [Try.ntmps4]) (fun X hX hO => ?_)
  rw [Try.ntmps4] at hX
  simp only [Try.results4]
  by_cases h : 3000 < b.size
  · repeat' (first 
      | with_reducible refine awp_scope ?_
      | with_reducible refine awp_seq ?_
      | with_reducible refine awp_block ?_
      | (with_reducible refine awp_label ?_; try simp only [thenA, inBlockA, noGotoA])
      | (with_reducible refine awp_skip ?_; try simp only [thenA, inBlockA, noGotoA])
      | (with_reducible refine awp_exit ?_; simp only [thenA, inBlockA, noGotoA, if_true, Nat.reduceEqDiff, if_false, ↓reduceIte])
      | (with_reducible refine awp_ret ?_; (try simp only [thenA, inBlockA, noGotoA]); (try simp [-List.reduceReplicate, Nat.add_one_le_iff, -getElem?_pos, -getElem?_neg, List.getElem?_cons_zero, List.getElem?_cons_succ, bC, h]))
      | (with_reducible refine awp_reg 16 hX [0, 2] ?_; simp [-List.reduceReplicate, Nat.add_one_le_iff, -getElem?_pos, -getElem?_neg, List.getElem?_cons_zero, List.getElem?_cons_succ, bC, h])
      | (with_reducible refine awp_drw 16 hX [0, 2] Tab.mixed (by kernel_rfl) ?_; simp [-List.reduceReplicate, Nat.add_one_le_iff, -getElem?_pos, -getElem?_neg, List.getElem?_cons_zero, List.getElem?_cons_succ, bC, h])
      | ((with_reducible refine Den.at_ (f := 21) ?_); refine (awake02_den _).det ?_; try simp [-List.reduceReplicate, Nat.add_one_le_iff, -getElem?_pos, -getElem?_neg, List.getElem?_cons_zero, List.getElem?_cons_succ, bC, h])
      | ((with_reducible refine drawn_at (f := 21) ?_); refine ⟨_, _, awake02_den _, fun _ => rfl, ?_⟩; try simp [-List.reduceReplicate, Nat.add_one_le_iff, -getElem?_pos, -getElem?_neg, List.getElem?_cons_zero, List.getElem?_cons_succ, bC, h])
      | (with_reducible refine awp_if_b rfl (fun hc => ?_) (fun hc => ?_) <;> (try simp [-getElem?_pos, -getElem?_neg] at hc) <;> (try (exfalso; omega)))
      | (with_reducible refine GuardK_b (fun hc => ?_) (fun hc => ?_) <;> (try simp only [Bool.not_eq_true', Bool.not_eq_false', decide_eq_true_eq, decide_eq_false_iff_not] at hc) <;> (first | (exfalso; omega) | skip) <;> simp [-List.reduceReplicate, Nat.add_one_le_iff, -getElem?_pos, -getElem?_neg, List.getElem?_cons_zero, List.getElem?_cons_succ, bC, h, hc])
      | (with_reducible refine DGuard_b _ _ _ _ _ _ _ _ _ _ (fun hc => ?_) (fun hc => ?_) <;> (try simp only [Bool.not_eq_true', Bool.not_eq_false', decide_eq_true_eq, decide_eq_false_iff_not] at hc) <;> (first | (exfalso; omega) | skip) <;> simp [-List.reduceReplicate, Nat.add_one_le_iff, -getElem?_pos, -getElem?_neg, List.getElem?_cons_zero, List.getElem?_cons_succ, bC, h, hc])
      | (with_reducible refine DEv_cut _ _ _ _ _ _ _ _ _ _ _ _ (by kernel_rfl) ?_; simp [-List.reduceReplicate, Nat.add_one_le_iff, -getElem?_pos, -getElem?_neg, List.getElem?_cons_zero, List.getElem?_cons_succ, bC, h])
      | ((with_reducible refine hother _ _ rfl ?_); simp only [inBlockA, thenA, noGotoA, Nat.reduceEqDiff, if_false, if_true, ↓reduceIte])
      | ((with_reducible refine hother2 _ _ rfl ?_); simp only [inBlockA, thenA, noGotoA, Nat.reduceEqDiff, if_false, if_true, ↓reduceIte])
      | ((with_reducible refine hother3 _ _ rfl ?_); simp only [inBlockA, thenA, noGotoA, Nat.reduceEqDiff, if_false, if_true, ↓reduceIte])
      | (with_reducible refine And.intro (by omega) ?_)
      | (with_reducible change postOf _ _ _ _ _; simp [-List.reduceReplicate, Nat.add_one_le_iff, -getElem?_pos, -getElem?_neg, List.getElem?_cons_zero, List.getElem?_cons_succ, bC, h])
      | fail)
  · have hl := shaL_len b
    have he := eq_hash1 _ hl
    repeat' (first 
      | with_reducible refine awp_scope ?_
      | with_reducible refine awp_seq ?_
      | with_reducible refine awp_block ?_
      | (with_reducible refine awp_label ?_; try simp only [thenA, inBlockA, noGotoA])
      | (with_reducible refine awp_skip ?_; try simp only [thenA, inBlockA, noGotoA])
      | (with_reducible refine awp_exit ?_; simp only [thenA, inBlockA, noGotoA, if_true, Nat.reduceEqDiff, if_false, ↓reduceIte])
      | (with_reducible refine awp_ret ?_; (try simp only [thenA, inBlockA, noGotoA]); (try simp [-List.reduceReplicate, Nat.add_one_le_iff, -getElem?_pos, -getElem?_neg, List.getElem?_cons_zero, List.getElem?_cons_succ, bC, h, hashM, he]))
      | (with_reducible refine awp_reg 16 hX [0, 2] ?_; simp [-List.reduceReplicate, Nat.add_one_le_iff, -getElem?_pos, -getElem?_neg, List.getElem?_cons_zero, List.getElem?_cons_succ, bC, h, hashM, he])
      | (with_reducible refine awp_drw 16 hX [0, 2] Tab.mixed (by kernel_rfl) ?_; simp [-List.reduceReplicate, Nat.add_one_le_iff, -getElem?_pos, -getElem?_neg, List.getElem?_cons_zero, List.getElem?_cons_succ, bC, h, hashM, he])
      | ((with_reducible refine Den.at_ (f := 19) ?_); refine (sha_den b (by omega) _).det ?_; try simp [-List.reduceReplicate, Nat.add_one_le_iff, -getElem?_pos, -getElem?_neg, List.getElem?_cons_zero, List.getElem?_cons_succ, bC, h, hashM, he])
      | ((with_reducible refine drawn_at (f := 19) ?_); refine ⟨_, _, sha_den b (by omega) _, fun _ => rfl, ?_⟩; try simp [-List.reduceReplicate, Nat.add_one_le_iff, -getElem?_pos, -getElem?_neg, List.getElem?_cons_zero, List.getElem?_cons_succ, bC, h, hashM, he])
      | ((with_reducible refine Den.at_ (f := 20) ?_); refine (sha02_den b (by omega) _).det ?_; try simp [-List.reduceReplicate, Nat.add_one_le_iff, -getElem?_pos, -getElem?_neg, List.getElem?_cons_zero, List.getElem?_cons_succ, bC, h, hashM, he])
      | ((with_reducible refine drawn_at (f := 20) ?_); refine ⟨_, _, sha02_den b (by omega) _, fun _ => rfl, ?_⟩; try simp [-List.reduceReplicate, Nat.add_one_le_iff, -getElem?_pos, -getElem?_neg, List.getElem?_cons_zero, List.getElem?_cons_succ, bC, h, hashM, he])
      | ((with_reducible refine Den.at_ (f := 21) ?_); refine (awake02_den _).det ?_; try simp [-List.reduceReplicate, Nat.add_one_le_iff, -getElem?_pos, -getElem?_neg, List.getElem?_cons_zero, List.getElem?_cons_succ, bC, h, hashM, he])
      | ((with_reducible refine drawn_at (f := 21) ?_); refine ⟨_, _, awake02_den _, fun _ => rfl, ?_⟩; try simp [-List.reduceReplicate, Nat.add_one_le_iff, -getElem?_pos, -getElem?_neg, List.getElem?_cons_zero, List.getElem?_cons_succ, bC, h, hashM, he])
      | (with_reducible refine awp_if_b rfl (fun hc => ?_) (fun hc => ?_) <;> (try simp [-getElem?_pos, -getElem?_neg] at hc) <;> (try (exfalso; omega)))
      | (with_reducible refine GuardK_b (fun hc => ?_) (fun hc => ?_) <;> (try simp only [Bool.not_eq_true', Bool.not_eq_false', decide_eq_true_eq, decide_eq_false_iff_not] at hc) <;> (first | (exfalso; omega) | skip) <;> simp [-List.reduceReplicate, Nat.add_one_le_iff, -getElem?_pos, -getElem?_neg, List.getElem?_cons_zero, List.getElem?_cons_succ, bC, h, hashM, he, hc])
      | (with_reducible refine DGuard_b _ _ _ _ _ _ _ _ _ _ (fun hc => ?_) (fun hc => ?_) <;> (try simp only [Bool.not_eq_true', Bool.not_eq_false', decide_eq_true_eq, decide_eq_false_iff_not] at hc) <;> (first | (exfalso; omega) | skip) <;> simp [-List.reduceReplicate, Nat.add_one_le_iff, -getElem?_pos, -getElem?_neg, List.getElem?_cons_zero, List.getElem?_cons_succ, bC, h, hashM, he, hc])
      | (with_reducible refine DEv_cut _ _ _ _ _ _ _ _ _ _ _ _ (by kernel_rfl) ?_; simp [-List.reduceReplicate, Nat.add_one_le_iff, -getElem?_pos, -getElem?_neg, List.getElem?_cons_zero, List.getElem?_cons_succ, bC, h, hashM, he])
      | ((with_reducible refine hother _ _ rfl ?_); simp only [inBlockA, thenA, noGotoA, Nat.reduceEqDiff, if_false, if_true, ↓reduceIte])
      | ((with_reducible refine hother2 _ _ rfl ?_); simp only [inBlockA, thenA, noGotoA, Nat.reduceEqDiff, if_false, if_true, ↓reduceIte])
      | ((with_reducible refine hother3 _ _ rfl ?_); simp only [inBlockA, thenA, noGotoA, Nat.reduceEqDiff, if_false, if_true, ↓reduceIte])
      | (with_reducible refine And.intro (by omega) ?_)
      | (with_reducible change postOf _ _ _ _ _; simp [-List.reduceReplicate, Nat.add_one_le_iff, -getElem?_pos, -getElem?_neg, List.getElem?_cons_zero, List.getElem?_cons_succ, bC, h, hashM, he])
      | fail)
theorem shaBlocks_den (s : S8) (b : ByteArray) (hb : b.size ≤ maxLen) (ob : List Ob) : Den Try.prog 5 [s8M s, .c (.v (.string b))] ob (fun r ob' => r = .c (bC true) ∧ ob' = ob) := by
  refine Den.frame (by simp [ltBs, ltB, s8M]) rfl ?_ ob
  refine den_of Try.func5 rfl rfl (by simp [Try.ntmps5]) (fun X hX hO => ?_)
  rw [Try.ntmps5] at hX
  simp only [Try.results5]
  have hb' : b.size ≤ 9223372036854775807 := by unfold maxLen at hb; omega
  have e1 := eq_words 64 (spread b) (spread_len b)
  obtain ⟨m, hm⟩ : ∃ m, m = mix s b := ⟨_, rfl⟩
  have hm1 := mix_den s b hb'
  have hm2 := mix02_den s b hb'
  rw [← hm] at hm1 hm2
  have e2 : eqM (List.replicate 8 0) (up [wC m.a, wC m.b, wC m.c, wC m.d, wC m.e, wC m.f, wC m.g, wC m.h]) (up [wC m.a, wC m.b, wC m.c, wC m.d, wC m.e, wC m.f, wC m.g, wC m.h]) = some true := eq_words 8 m.l rfl
  repeat' (first 
    | with_reducible refine awp_scope ?_
    | with_reducible refine awp_seq ?_
    | with_reducible refine awp_block ?_
    | (with_reducible refine awp_label ?_; try simp only [thenA, inBlockA, noGotoA])
    | (with_reducible refine awp_skip ?_; try simp only [thenA, inBlockA, noGotoA])
    | (with_reducible refine awp_exit ?_; simp only [thenA, inBlockA, noGotoA, if_true, Nat.reduceEqDiff, if_false, ↓reduceIte])
    | (with_reducible refine awp_ret ?_; (try simp only [thenA, inBlockA, noGotoA]); (try simp [-List.reduceReplicate, Nat.add_one_le_iff, -getElem?_pos, -getElem?_neg, List.getElem?_cons_zero, List.getElem?_cons_succ, bC, e1, e2, s8M, S8.l]))
    | (with_reducible refine awp_reg 22 hX [1, 2, 4] ?_; simp [-List.reduceReplicate, Nat.add_one_le_iff, -getElem?_pos, -getElem?_neg, List.getElem?_cons_zero, List.getElem?_cons_succ, bC, e1, e2, s8M, S8.l])
    | (with_reducible refine awp_drw 22 hX [1, 2, 4] Tab.mixed (by kernel_rfl) ?_; simp [-List.reduceReplicate, Nat.add_one_le_iff, -getElem?_pos, -getElem?_neg, List.getElem?_cons_zero, List.getElem?_cons_succ, bC, e1, e2, s8M, S8.l])
    | ((with_reducible refine Den.at_ (f := 22) ?_); refine (spread_den b hb' _).det ?_; try simp [-List.reduceReplicate, Nat.add_one_le_iff, -getElem?_pos, -getElem?_neg, List.getElem?_cons_zero, List.getElem?_cons_succ, bC, e1, e2, s8M, S8.l])
    | ((with_reducible refine drawn_at (f := 22) ?_); refine ⟨_, _, spread_den b hb' _, fun _ => rfl, ?_⟩; try simp [-List.reduceReplicate, Nat.add_one_le_iff, -getElem?_pos, -getElem?_neg, List.getElem?_cons_zero, List.getElem?_cons_succ, bC, e1, e2, s8M, S8.l])
    | ((with_reducible refine Den.at_ (f := 23) ?_); refine (spread02_den b hb' _).det ?_; try simp [-List.reduceReplicate, Nat.add_one_le_iff, -getElem?_pos, -getElem?_neg, List.getElem?_cons_zero, List.getElem?_cons_succ, bC, e1, e2, s8M, S8.l])
    | ((with_reducible refine drawn_at (f := 23) ?_); refine ⟨_, _, spread02_den b hb' _, fun _ => rfl, ?_⟩; try simp [-List.reduceReplicate, Nat.add_one_le_iff, -getElem?_pos, -getElem?_neg, List.getElem?_cons_zero, List.getElem?_cons_succ, bC, e1, e2, s8M, S8.l])
    | (refine (hm1 _).det ?_; try simp [-List.reduceReplicate, Nat.add_one_le_iff, -getElem?_pos, -getElem?_neg, List.getElem?_cons_zero, List.getElem?_cons_succ, bC, e1, e2, s8M, S8.l])
    | (refine ⟨_, _, hm1 _, fun _ => rfl, ?_⟩; try simp [-List.reduceReplicate, Nat.add_one_le_iff, -getElem?_pos, -getElem?_neg, List.getElem?_cons_zero, List.getElem?_cons_succ, bC, e1, e2, s8M, S8.l])
    | (refine (hm2 _).det ?_; try simp [-List.reduceReplicate, Nat.add_one_le_iff, -getElem?_pos, -getElem?_neg, List.getElem?_cons_zero, List.getElem?_cons_succ, bC, e1, e2, s8M, S8.l])
    | (refine ⟨_, _, hm2 _, fun _ => rfl, ?_⟩; try simp [-List.reduceReplicate, Nat.add_one_le_iff, -getElem?_pos, -getElem?_neg, List.getElem?_cons_zero, List.getElem?_cons_succ, bC, e1, e2, s8M, S8.l])
    | ((with_reducible refine Den.at_ (f := 21) ?_); refine (awake02_den _).det ?_; try simp [-List.reduceReplicate, Nat.add_one_le_iff, -getElem?_pos, -getElem?_neg, List.getElem?_cons_zero, List.getElem?_cons_succ, bC, e1, e2, s8M, S8.l])
    | ((with_reducible refine drawn_at (f := 21) ?_); refine ⟨_, _, awake02_den _, fun _ => rfl, ?_⟩; try simp [-List.reduceReplicate, Nat.add_one_le_iff, -getElem?_pos, -getElem?_neg, List.getElem?_cons_zero, List.getElem?_cons_succ, bC, e1, e2, s8M, S8.l])
    | (with_reducible refine awp_if_b rfl (fun hc => ?_) (fun hc => ?_) <;> (try simp [-getElem?_pos, -getElem?_neg] at hc) <;> (try (exfalso; omega)))
    | (with_reducible refine GuardK_b (fun hc => ?_) (fun hc => ?_) <;> (try simp only [Bool.not_eq_true', Bool.not_eq_false', decide_eq_true_eq, decide_eq_false_iff_not] at hc) <;> (first | (exfalso; omega) | skip) <;> simp [-List.reduceReplicate, Nat.add_one_le_iff, -getElem?_pos, -getElem?_neg, List.getElem?_cons_zero, List.getElem?_cons_succ, bC, e1, e2, s8M, S8.l, hc])
    | (with_reducible refine DGuard_b _ _ _ _ _ _ _ _ _ _ (fun hc => ?_) (fun hc => ?_) <;> (try simp only [Bool.not_eq_true', Bool.not_eq_false', decide_eq_true_eq, decide_eq_false_iff_not] at hc) <;> (first | (exfalso; omega) | skip) <;> simp [-List.reduceReplicate, Nat.add_one_le_iff, -getElem?_pos, -getElem?_neg, List.getElem?_cons_zero, List.getElem?_cons_succ, bC, e1, e2, s8M, S8.l, hc])
    | (with_reducible refine DEv_cut _ _ _ _ _ _ _ _ _ _ _ _ (by kernel_rfl) ?_; simp [-List.reduceReplicate, Nat.add_one_le_iff, -getElem?_pos, -getElem?_neg, List.getElem?_cons_zero, List.getElem?_cons_succ, bC, e1, e2, s8M, S8.l])
    | ((with_reducible refine hother _ _ rfl ?_); simp only [inBlockA, thenA, noGotoA, Nat.reduceEqDiff, if_false, if_true, ↓reduceIte])
    | ((with_reducible refine hother2 _ _ rfl ?_); simp only [inBlockA, thenA, noGotoA, Nat.reduceEqDiff, if_false, if_true, ↓reduceIte])
    | ((with_reducible refine hother3 _ _ rfl ?_); simp only [inBlockA, thenA, noGotoA, Nat.reduceEqDiff, if_false, if_true, ↓reduceIte])
    | (with_reducible refine And.intro (by omega) ?_)
    | (with_reducible change postOf _ _ _ _ _; simp [-List.reduceReplicate, Nat.add_one_le_iff, -getElem?_pos, -getElem?_neg, List.getElem?_cons_zero, List.getElem?_cons_succ, bC, e1, e2, s8M, S8.l])
    | fail)
theorem shaPads_den (n : Nat) (hn : n < 18446744073709551616) (ob : List Ob) : Den Try.prog 7 [.c (u64C n)] ob (fun r ob' => r = .c (bC true) ∧ ob' = ob) := by
  refine Den.frame rfl rfl ?_ ob
  refine den_of Try.func7 rfl rfl (by simp [Try.ntmps7]) (fun X hX hO => ?_)
  rw [Try.ntmps7] at hX
  simp only [Try.results7]
  have hpl : (padL n).length = 9 + (119 - n % 64) % 64 := by simp [padL, zerosB, putN_len]; omega
  have hsz := bs_size (padL n)
  rw [hpl] at hsz
  have h0 : ((n : Int)).tmod 64 = ((n % 64 : Nat) : Int) := rfl
  have h1 := wrapU64 (((9 + (119 - n % 64) % 64 : Nat)) : Int) (by omega)
  have h2 : IntKind.u64.wrap (((n % 64 : Nat) : Int) + ((9 + (119 - n % 64) % 64 : Nat) : Int)) = ((n % 64 + (9 + (119 - n % 64) % 64) : Nat) : Int) := (wrapU64 _ (by omega)).trans (by omega)
  have h3 : (((n % 64 + (9 + (119 - n % 64) % 64) : Nat)) : Int).tmod 64 = 0 := by
    show (((n % 64 + (9 + (119 - n % 64) % 64)) % 64 : Nat) : Int) = 0
    omega
  generalize hp : padL n = p at *
  generalize 9 + (119 - n % 64) % 64 = q at *
  generalize n % 64 = a at *
  have hp1 := pad_den n hn
  have hp2 := pad02_den n hn
  rw [hp] at hp1 hp2
  have h3' : ((a : Int) + (q : Int)).tmod 64 = 0 := by rw [← Int.natCast_add]; exact h3
  repeat' (first 
    | with_reducible refine awp_scope ?_
    | with_reducible refine awp_seq ?_
    | with_reducible refine awp_block ?_
    | (with_reducible refine awp_label ?_; try simp only [thenA, inBlockA, noGotoA])
    | (with_reducible refine awp_skip ?_; try simp only [thenA, inBlockA, noGotoA])
    | (with_reducible refine awp_exit ?_; simp only [thenA, inBlockA, noGotoA, if_true, Nat.reduceEqDiff, if_false, ↓reduceIte])
    | (with_reducible refine awp_ret ?_; (try simp only [thenA, inBlockA, noGotoA]); (try simp [-List.reduceReplicate, Nat.add_one_le_iff, -getElem?_pos, -getElem?_neg, List.getElem?_cons_zero, List.getElem?_cons_succ, bC, u64C, hsz, h0, h1, h2, h3']))
    | (with_reducible refine awp_reg 23 hX [0, 2, 3] ?_; simp [-List.reduceReplicate, Nat.add_one_le_iff, -getElem?_pos, -getElem?_neg, List.getElem?_cons_zero, List.getElem?_cons_succ, bC, u64C, hsz, h0, h1, h2, h3'])
    | (with_reducible refine awp_drw 23 hX [0, 2, 3] Tab.mixed (by kernel_rfl) ?_; simp [-List.reduceReplicate, Nat.add_one_le_iff, -getElem?_pos, -getElem?_neg, List.getElem?_cons_zero, List.getElem?_cons_succ, bC, u64C, hsz, h0, h1, h2, h3'])
    | (refine (hp1 _).det ?_; try simp [-List.reduceReplicate, Nat.add_one_le_iff, -getElem?_pos, -getElem?_neg, List.getElem?_cons_zero, List.getElem?_cons_succ, bC, u64C, hsz, h0, h1, h2, h3'])
    | (refine ⟨_, _, hp1 _, fun _ => rfl, ?_⟩; try simp [-List.reduceReplicate, Nat.add_one_le_iff, -getElem?_pos, -getElem?_neg, List.getElem?_cons_zero, List.getElem?_cons_succ, bC, u64C, hsz, h0, h1, h2, h3'])
    | (refine (hp2 _).det ?_; try simp [-List.reduceReplicate, Nat.add_one_le_iff, -getElem?_pos, -getElem?_neg, List.getElem?_cons_zero, List.getElem?_cons_succ, bC, u64C, hsz, h0, h1, h2, h3'])
    | (refine ⟨_, _, hp2 _, fun _ => rfl, ?_⟩; try simp [-List.reduceReplicate, Nat.add_one_le_iff, -getElem?_pos, -getElem?_neg, List.getElem?_cons_zero, List.getElem?_cons_succ, bC, u64C, hsz, h0, h1, h2, h3'])
    | ((with_reducible refine Den.at_ (f := 21) ?_); refine (awake02_den _).det ?_; try simp [-List.reduceReplicate, Nat.add_one_le_iff, -getElem?_pos, -getElem?_neg, List.getElem?_cons_zero, List.getElem?_cons_succ, bC, u64C, hsz, h0, h1, h2, h3'])
    | ((with_reducible refine drawn_at (f := 21) ?_); refine ⟨_, _, awake02_den _, fun _ => rfl, ?_⟩; try simp [-List.reduceReplicate, Nat.add_one_le_iff, -getElem?_pos, -getElem?_neg, List.getElem?_cons_zero, List.getElem?_cons_succ, bC, u64C, hsz, h0, h1, h2, h3'])
    | (with_reducible refine awp_if_b rfl (fun hc => ?_) (fun hc => ?_) <;> (try simp [-getElem?_pos, -getElem?_neg] at hc) <;> (try (exfalso; omega)))
    | (with_reducible refine GuardK_b (fun hc => ?_) (fun hc => ?_) <;> (try simp only [Bool.not_eq_true', Bool.not_eq_false', decide_eq_true_eq, decide_eq_false_iff_not] at hc) <;> (first | (exfalso; omega) | skip) <;> simp [-List.reduceReplicate, Nat.add_one_le_iff, -getElem?_pos, -getElem?_neg, List.getElem?_cons_zero, List.getElem?_cons_succ, bC, u64C, hsz, h0, h1, h2, h3', hc])
    | (with_reducible refine DGuard_b _ _ _ _ _ _ _ _ _ _ (fun hc => ?_) (fun hc => ?_) <;> (try simp only [Bool.not_eq_true', Bool.not_eq_false', decide_eq_true_eq, decide_eq_false_iff_not] at hc) <;> (first | (exfalso; omega) | skip) <;> simp [-List.reduceReplicate, Nat.add_one_le_iff, -getElem?_pos, -getElem?_neg, List.getElem?_cons_zero, List.getElem?_cons_succ, bC, u64C, hsz, h0, h1, h2, h3', hc])
    | (with_reducible refine DEv_cut _ _ _ _ _ _ _ _ _ _ _ _ (by kernel_rfl) ?_; simp [-List.reduceReplicate, Nat.add_one_le_iff, -getElem?_pos, -getElem?_neg, List.getElem?_cons_zero, List.getElem?_cons_succ, bC, u64C, hsz, h0, h1, h2, h3'])
    | ((with_reducible refine hother _ _ rfl ?_); simp only [inBlockA, thenA, noGotoA, Nat.reduceEqDiff, if_false, if_true, ↓reduceIte])
    | ((with_reducible refine hother2 _ _ rfl ?_); simp only [inBlockA, thenA, noGotoA, Nat.reduceEqDiff, if_false, if_true, ↓reduceIte])
    | ((with_reducible refine hother3 _ _ rfl ?_); simp only [inBlockA, thenA, noGotoA, Nat.reduceEqDiff, if_false, if_true, ↓reduceIte])
    | (with_reducible refine And.intro (by omega) ?_)
    | (with_reducible change postOf _ _ _ _ _; simp [-List.reduceReplicate, Nat.add_one_le_iff, -getElem?_pos, -getElem?_neg, List.getElem?_cons_zero, List.getElem?_cons_succ, bC, u64C, hsz, h0, h1, h2, h3'])
    | fail)
theorem and7 (i : Int) : ∃ k : Nat, k < 8 ∧ andI .i64 i 7 = (k : Int) := by
  refine ⟨(BitVec.ofInt 64 i &&& 7#64).toNat, ?_, ?_⟩
  · have h : (BitVec.ofInt 64 i &&& 7#64).toNat ≤ 7 := by
      rw [BitVec.toNat_and]
      exact Nat.and_le_right
    omega
  · unfold andI
    show IntKind.i64.wrap (((BitVec.ofInt 64 i &&& 7#64).toNat : Nat) : Int) = _
    have h : (BitVec.ofInt 64 i &&& 7#64).toNat ≤ 7 := by
      rw [BitVec.toNat_and]
      exact Nat.and_le_right
    exact wrap_in _ (by omega)
def primes8 : List Nat := [2, 3, 5, 7, 11, 13, 17, 19]
theorem roots_all : (List.range 8).map (fun i => (runF Try.prog 4000 27 [.c (u64C (primes8.getD i 0))] []).map (·.1)) = (List.range 8).map fun i => some (M.c (wC (firstS.l.getD i 0))) := by kernel_rfl
theorem roots_den (i : Nat) (h : i < 8) : DenV Try.prog 27 [.c (u64C (primes8.getD i 0))] (.c (wC (firstS.l.getD i 0))) :=
  den_run 4000 rfl rfl (by
    have h2 := (List.map_inj_left.1 roots_all) i (List.mem_range.2 h)
    with_reducible exact h2)
theorem shaRoots_den (i : Int) (ob : List Ob) : Den Try.prog 6 [.c (iC i)] ob (fun r ob' => r = .c (bC true) ∧ ob' = ob) := by
  refine Den.frame rfl rfl ?_ ob
  refine den_of Try.func6 rfl rfl (by simp [Try.ntmps6]) (fun X hX hO => ?_)
  rw [Try.ntmps6] at hX
  simp only [Try.results6]
  obtain ⟨k, hk, hand⟩ := and7 i
  have hr := roots_den k hk
  rcases (by omega : k = 0 ∨ k = 1 ∨ k = 2 ∨ k = 3 ∨ k = 4 ∨ k = 5 ∨ k = 6 ∨ k = 7) with e | e | e | e | e | e | e | e
  all_goals subst e
  all_goals
    repeat' (first 
      | with_reducible refine awp_scope ?_
      | with_reducible refine awp_seq ?_
      | with_reducible refine awp_block ?_
      | (with_reducible refine awp_label ?_; try simp only [thenA, inBlockA, noGotoA])
      | (with_reducible refine awp_skip ?_; try simp only [thenA, inBlockA, noGotoA])
      | (with_reducible refine awp_exit ?_; simp only [thenA, inBlockA, noGotoA, if_true, Nat.reduceEqDiff, if_false, ↓reduceIte])
      | (with_reducible refine awp_ret ?_; (try simp only [thenA, inBlockA, noGotoA]); (try simp [-List.reduceReplicate, Nat.add_one_le_iff, -getElem?_pos, -getElem?_neg, List.getElem?_cons_zero, List.getElem?_cons_succ, bC, iC, hand, s8M, S8.l, set8, firstS, wC]))
      | (with_reducible refine awp_reg 22 hX [0, 2, 3, 4, 5] ?_; simp [-List.reduceReplicate, Nat.add_one_le_iff, -getElem?_pos, -getElem?_neg, List.getElem?_cons_zero, List.getElem?_cons_succ, bC, iC, hand, s8M, S8.l, set8, firstS, wC])
      | (with_reducible refine awp_drw 22 hX [0, 2, 3, 4, 5] Tab.mixed (by kernel_rfl) ?_; simp [-List.reduceReplicate, Nat.add_one_le_iff, -getElem?_pos, -getElem?_neg, List.getElem?_cons_zero, List.getElem?_cons_succ, bC, iC, hand, s8M, S8.l, set8, firstS, wC])
      | ((with_reducible refine Den.at_ (f := 26) ?_); refine (first_den _).det ?_; try simp [-List.reduceReplicate, Nat.add_one_le_iff, -getElem?_pos, -getElem?_neg, List.getElem?_cons_zero, List.getElem?_cons_succ, bC, iC, hand, s8M, S8.l, set8, firstS, wC])
      | ((with_reducible refine drawn_at (f := 26) ?_); refine ⟨_, _, first_den _, fun _ => rfl, ?_⟩; try simp [-List.reduceReplicate, Nat.add_one_le_iff, -getElem?_pos, -getElem?_neg, List.getElem?_cons_zero, List.getElem?_cons_succ, bC, iC, hand, s8M, S8.l, set8, firstS, wC])
      | (refine (hr _).det ?_; try simp [-List.reduceReplicate, Nat.add_one_le_iff, -getElem?_pos, -getElem?_neg, List.getElem?_cons_zero, List.getElem?_cons_succ, bC, iC, hand, s8M, S8.l, set8, firstS, wC])
      | (refine ⟨_, _, hr _, fun _ => rfl, ?_⟩; try simp [-List.reduceReplicate, Nat.add_one_le_iff, -getElem?_pos, -getElem?_neg, List.getElem?_cons_zero, List.getElem?_cons_succ, bC, iC, hand, s8M, S8.l, set8, firstS, wC])
      | ((with_reducible refine Den.at_ (f := 21) ?_); refine (awake02_den _).det ?_; try simp [-List.reduceReplicate, Nat.add_one_le_iff, -getElem?_pos, -getElem?_neg, List.getElem?_cons_zero, List.getElem?_cons_succ, bC, iC, hand, s8M, S8.l, set8, firstS, wC])
      | ((with_reducible refine drawn_at (f := 21) ?_); refine ⟨_, _, awake02_den _, fun _ => rfl, ?_⟩; try simp [-List.reduceReplicate, Nat.add_one_le_iff, -getElem?_pos, -getElem?_neg, List.getElem?_cons_zero, List.getElem?_cons_succ, bC, iC, hand, s8M, S8.l, set8, firstS, wC])
      | (with_reducible refine awp_if_b rfl (fun hc => ?_) (fun hc => ?_) <;> (try simp [-getElem?_pos, -getElem?_neg] at hc) <;> (try (exfalso; omega)))
      | (with_reducible refine GuardK_b (fun hc => ?_) (fun hc => ?_) <;> (try simp only [Bool.not_eq_true', Bool.not_eq_false', decide_eq_true_eq, decide_eq_false_iff_not] at hc) <;> (first | (exfalso; omega) | skip) <;> simp [-List.reduceReplicate, Nat.add_one_le_iff, -getElem?_pos, -getElem?_neg, List.getElem?_cons_zero, List.getElem?_cons_succ, bC, iC, hand, s8M, S8.l, set8, firstS, wC, hc])
      | (with_reducible refine DGuard_b _ _ _ _ _ _ _ _ _ _ (fun hc => ?_) (fun hc => ?_) <;> (try simp only [Bool.not_eq_true', Bool.not_eq_false', decide_eq_true_eq, decide_eq_false_iff_not] at hc) <;> (first | (exfalso; omega) | skip) <;> simp [-List.reduceReplicate, Nat.add_one_le_iff, -getElem?_pos, -getElem?_neg, List.getElem?_cons_zero, List.getElem?_cons_succ, bC, iC, hand, s8M, S8.l, set8, firstS, wC, hc])
      | (with_reducible refine DEv_cut _ _ _ _ _ _ _ _ _ _ _ _ (by kernel_rfl) ?_; simp [-List.reduceReplicate, Nat.add_one_le_iff, -getElem?_pos, -getElem?_neg, List.getElem?_cons_zero, List.getElem?_cons_succ, bC, iC, hand, s8M, S8.l, set8, firstS, wC])
      | ((with_reducible refine hother _ _ rfl ?_); simp only [inBlockA, thenA, noGotoA, Nat.reduceEqDiff, if_false, if_true, ↓reduceIte])
      | ((with_reducible refine hother2 _ _ rfl ?_); simp only [inBlockA, thenA, noGotoA, Nat.reduceEqDiff, if_false, if_true, ↓reduceIte])
      | ((with_reducible refine hother3 _ _ rfl ?_); simp only [inBlockA, thenA, noGotoA, Nat.reduceEqDiff, if_false, if_true, ↓reduceIte])
      | (with_reducible refine And.intro (by omega) ?_)
      | (with_reducible change postOf _ _ _ _ _; simp [-List.reduceReplicate, Nat.add_one_le_iff, -getElem?_pos, -getElem?_neg, List.getElem?_cons_zero, List.getElem?_cons_succ, bC, iC, hand, s8M, S8.l, set8, firstS, wC])
      | fail)
end Go.Av
