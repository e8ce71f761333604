import Derived.Test.YtahcfdbjookojaaAvT24
set_option linter.unusedVariables false
set_option linter.unusedSimpArgs false
set_option maxRecDepth 100000
set_option maxHeartbeats 4000000
namespace Go.Av
open Go Go.Proofs Go.Proofs.Ytahcfdbjookojaa Go.RowKit
/-! ### sha: texts that come piece by piece -/
theorem ba_ext {a b : ByteArray} (h : a.data.toList = b.data.toList) : a = b := by
  obtain ⟨a⟩ := a
  obtain ⟨b⟩ := b
  simp only [ByteArray.mk.injEq]
  exact Array.toList_inj.1 h
theorem size_list (s : ByteArray) : s.size = s.data.toList.length := by simp
theorem ext_list (t : ByteArray) (a b : Nat) : (t.extract a b).data.toList = (t.data.toList.drop a).take (b - a) := by
  rw [ByteArray.data_extract, Array.toList_extract]
theorem app_list (a b : ByteArray) : (a ++ b).data.toList = a.data.toList ++ b.data.toList := by simp
theorem blk_list (t : ByteArray) (i : Nat) : (blk t i).data.toList = (t.data.toList.drop (64 * i)).take 64 := by
  unfold blk
  rw [ext_list, show 64 * i + 64 - 64 * i = 64 by omega]
def restOf (t : ByteArray) : ByteArray := t.extract (64 * (t.size / 64)) t.size
theorem rest_list (t : ByteArray) : (restOf t).data.toList = t.data.toList.drop (64 * (t.size / 64)) := by
  unfold restOf
  rw [ext_list]
  exact List.take_of_length_le (by rw [List.length_drop, ← size_list]; omega)
theorem rest_size (t : ByteArray) : (restOf t).size = t.size % 64 := by rw [size_list, rest_list, List.length_drop, ← size_list]; omega
theorem blk_rest (t b : ByteArray) (i : Nat) : blk (t ++ b) (t.size / 64 + i) = blk (restOf t ++ b) i := by
  apply ba_ext
  rw [blk_list, blk_list, app_list, app_list, rest_list, Nat.mul_add, ← List.drop_drop, List.drop_append_of_le_length (by rw [← size_list]; omega)]
theorem blocks_congr (s : S8) (t t' : ByteArray) (n : Nat) (h : ∀ i, i < n → blk t i = blk t' i) : blocksTo s t n = blocksTo s t' n := by
  induction n with
  | zero => rfl
  | succ n ih => simp only [blocksTo]; rw [ih fun i hi => h i (by omega), h n (by omega)]
theorem blk_left (t b : ByteArray) (i : Nat) (h : i < t.size / 64) : blk (t ++ b) i = blk t i := by
  apply ba_ext
  rw [blk_list, blk_list, app_list, List.drop_append_of_le_length (by rw [← size_list]; omega), List.take_append_of_le_length (by rw [List.length_drop, ← size_list]; omega)]
theorem blocks_app (s : S8) (t b : ByteArray) (j : Nat) : blocksTo (blocksTo s t (t.size / 64)) (restOf t ++ b) j = blocksTo s (t ++ b) (t.size / 64 + j) := by
  induction j with
  | zero => exact (blocks_congr s _ _ _ fun i hi => blk_left t b i hi).symm
  | succ j ih => simp only [blocksTo]; rw [ih, ← blk_rest]; rfl
theorem count_app (t b : ByteArray) : (t ++ b).size / 64 = t.size / 64 + (restOf t ++ b).size / 64 := by
  rw [ByteArray.size_append, ByteArray.size_append, rest_size]; omega
theorem rest_app (t b : ByteArray) : restOf (t ++ b) = restOf (restOf t ++ b) := by
  apply ba_ext
  rw [rest_list, rest_list, app_list, app_list, rest_list, count_app, Nat.mul_add, ← List.drop_drop, List.drop_append_of_le_length (by rw [← size_list]; omega)]
/-- A State that a text came to. -/
def stT (t : ByteArray) : Ob := stO (blocksTo firstS t (t.size / 64)) (restOf t) t.size true
def st0 : Ob := stO ⟨0, 0, 0, 0, 0, 0, 0, 0⟩ ⟨#[]⟩ 0 false
/-- The sum of a text. -/
def shaL (t : ByteArray) : List UInt8 := wBytes (blocksTo firstS (t ++ bsS (padL t.size)) ((t ++ bsS (padL t.size)).size / 64)).l
theorem empty_app (b : ByteArray) : (⟨#[]⟩ : ByteArray) ++ b = b := by apply ba_ext; simp
theorem writeT_den (pre suf : List Ob) (t b : ByteArray) (ht : t.size + b.size ≤ 1000000) :
    Den Try.prog 31 [.mp pre.length 0 0, .c (.v (.string b))] (pre ++ stT t :: suf) (fun r ob' => r = .tup [] ∧ ob' = pre ++ stT (t ++ b) :: suf) := by
  have h := write_den pre suf (blocksTo firstS t (t.size / 64)) (restOf t) t.size true b (by rw [rest_size]; omega) (by omega) (by omega)
  have hw : wS (blocksTo firstS t (t.size / 64)) true = blocksTo firstS t (t.size / 64) := rfl
  rw [hw, blocks_app, ← count_app] at h
  have e1 : restOf (t ++ b) = (restOf t ++ b).extract (64 * ((restOf t ++ b).size / 64)) (restOf t ++ b).size := rest_app t b
  have e2 : (t.size + b.size) % 18446744073709551616 = (t ++ b).size := by rw [ByteArray.size_append]; omega
  rw [← e1, e2] at h
  exact h
theorem write0_den (pre suf : List Ob) (b : ByteArray) (hb : b.size ≤ 1000000) :
    Den Try.prog 31 [.mp pre.length 0 0, .c (.v (.string b))] (pre ++ st0 :: suf) (fun r ob' => r = .tup [] ∧ ob' = pre ++ stT b :: suf) := by
  have h := write_den pre suf ⟨0, 0, 0, 0, 0, 0, 0, 0⟩ ⟨#[]⟩ 0 false b (by decide) hb (by omega)
  have hw : wS ⟨0, 0, 0, 0, 0, 0, 0, 0⟩ false = firstS := rfl
  have e2 : (0 + b.size) % 18446744073709551616 = b.size := by omega
  rw [hw, empty_app, e2] at h
  exact h
theorem sumT_den (ob : List Ob) (p : Nat) (t : ByteArray) (hget : ob[p]? = some (stT t)) (ht : t.size ≤ 800000) :
    Den Try.prog 33 [.mp p 0 0] ob (fun r ob' => r = hashM (shaL t) ∧ ob' = ob) := by
  have h := stateSum_den ob p _ _ _ _ hget (by rw [rest_size]; omega) (by omega)
  have e : sumS (blocksTo firstS t (t.size / 64)) (restOf t) t.size true = shaL t := by
    unfold sumS shaL
    have hw : wS (blocksTo firstS t (t.size / 64)) true = blocksTo firstS t (t.size / 64) := rfl
    rw [hw, blocks_app, ← count_app]
  rw [e] at h
  exact h
theorem sum0_den (ob : List Ob) (p : Nat) (hget : ob[p]? = some st0) :
    Den Try.prog 33 [.mp p 0 0] ob (fun r ob' => r = hashM (shaL ⟨#[]⟩) ∧ ob' = ob) := by
  have h := stateSum_den ob p _ _ _ _ hget (by decide) (by omega)
  have e : sumS ⟨0, 0, 0, 0, 0, 0, 0, 0⟩ ⟨#[]⟩ 0 false = shaL ⟨#[]⟩ := by
    unfold sumS shaL
    have hw : wS ⟨0, 0, 0, 0, 0, 0, 0, 0⟩ false = firstS := rfl
    rw [hw]
    rfl
  rw [e] at h
  exact h
theorem sha_den (b : ByteArray) (hb : b.size ≤ 800000) : DenV Try.prog 19 [.c (.v (.string b))] (hashM (shaL b)) := by
  refine Den.frame rfl (lt_hash _ _) ?_
  obtain ⟨out, hout⟩ : ∃ out, out = shaL b := ⟨_, rfl⟩
  rw [← hout]
  refine den_of Try.func19 rfl rfl (by simp [Try.ntmps19]) (fun X hX hO => ?_)
  rw [Try.ntmps19] at hX
  simp only [Try.results19]
  have h1 := stateNew_den [⟨24, 1, false, 0, up (List.replicate 32 (C.v (Value.int IntKind.u8 0))), none⟩]
  have h2 := write0_den [⟨24, 1, false, 0, up (List.replicate 32 (C.v (Value.int IntKind.u8 0))), none⟩] [] b (by omega)
  have h3 := sumT_den [⟨24, 1, false, 0, up (List.replicate 32 (C.v (Value.int IntKind.u8 0))), none⟩, stT b] 1 b rfl hb
  rw [← hout] at h3
  have hl : out.length = 32 := by rw [hout]; exact wBytes_len _
  have htk : (out.map bC8).take 32 = out.map bC8 := List.take_of_length_le (by simp [hl])
  change Den Try.prog _ _ _ (fun r ob' => r = _ ∧ ob' = _ ++ [st0]) at h1
  simp [-List.reduceReplicate] at h1 h2
  repeat' (first 
    | with_reducible refine awp_scope ?_
    | with_reducible refine awp_seq ?_
    | with_reducible refine awp_block ?_
    | (with_reducible refine awp_label ?_; try simp only [thenA, inBlockA, noGotoA])
    | (with_reducible refine awp_skip ?_; try simp only [thenA, inBlockA, noGotoA])
    | (with_reducible refine awp_exit ?_; simp only [thenA, inBlockA, noGotoA, if_true, Nat.reduceEqDiff, if_false, ↓reduceIte])
    | (with_reducible refine awp_ret ?_; (try simp only [thenA, inBlockA, noGotoA]); (try simp [-List.reduceReplicate, Nat.add_one_le_iff, -getElem?_pos, -getElem?_neg, List.getElem?_cons_zero, List.getElem?_cons_succ, hashM, hl, htk]))
    | (with_reducible refine awp_reg 10 hX [0, 2, 3] ?_; simp [-List.reduceReplicate, Nat.add_one_le_iff, -getElem?_pos, -getElem?_neg, List.getElem?_cons_zero, List.getElem?_cons_succ, hashM, hl, htk])
    | (with_reducible refine awp_drw 10 hX [0, 2, 3] Tab.mixed (by kernel_rfl) ?_; simp [-List.reduceReplicate, Nat.add_one_le_iff, -getElem?_pos, -getElem?_neg, List.getElem?_cons_zero, List.getElem?_cons_succ, hashM, hl, htk])
    | (refine (h1).det ?_; try simp [-List.reduceReplicate, Nat.add_one_le_iff, -getElem?_pos, -getElem?_neg, List.getElem?_cons_zero, List.getElem?_cons_succ, hashM, hl, htk])
    | (refine ⟨_, _, h1, fun _ => rfl, ?_⟩; try simp [-List.reduceReplicate, Nat.add_one_le_iff, -getElem?_pos, -getElem?_neg, List.getElem?_cons_zero, List.getElem?_cons_succ, hashM, hl, htk])
    | (refine (h2).det ?_; try simp [-List.reduceReplicate, Nat.add_one_le_iff, -getElem?_pos, -getElem?_neg, List.getElem?_cons_zero, List.getElem?_cons_succ, hashM, hl, htk])
    | (refine ⟨_, _, h2, fun _ => rfl, ?_⟩; try simp [-List.reduceReplicate, Nat.add_one_le_iff, -getElem?_pos, -getElem?_neg, List.getElem?_cons_zero, List.getElem?_cons_succ, hashM, hl, htk])
    | (refine (h3).det ?_; try simp [-List.reduceReplicate, Nat.add_one_le_iff, -getElem?_pos, -getElem?_neg, List.getElem?_cons_zero, List.getElem?_cons_succ, hashM, hl, htk])
    | (refine ⟨_, _, h3, fun _ => rfl, ?_⟩; try simp [-List.reduceReplicate, Nat.add_one_le_iff, -getElem?_pos, -getElem?_neg, List.getElem?_cons_zero, List.getElem?_cons_succ, hashM, hl, htk])
    | (with_reducible refine awp_if_b rfl (fun hc => ?_) (fun hc => ?_) <;> (try simp [-getElem?_pos, -getElem?_neg] at hc) <;> (try (exfalso; omega)))
    | (with_reducible refine GuardK_b (fun hc => ?_) (fun hc => ?_) <;> (try simp only [Bool.not_eq_true', Bool.not_eq_false', decide_eq_true_eq, decide_eq_false_iff_not] at hc) <;> (first | (exfalso; omega) | skip) <;> simp [-List.reduceReplicate, Nat.add_one_le_iff, -getElem?_pos, -getElem?_neg, List.getElem?_cons_zero, List.getElem?_cons_succ, hashM, hl, htk, hc])
    | (with_reducible refine DGuard_b _ _ _ _ _ _ _ _ _ _ (fun hc => ?_) (fun hc => ?_) <;> (try simp only [Bool.not_eq_true', Bool.not_eq_false', decide_eq_true_eq, decide_eq_false_iff_not] at hc) <;> (first | (exfalso; omega) | skip) <;> simp [-List.reduceReplicate, Nat.add_one_le_iff, -getElem?_pos, -getElem?_neg, List.getElem?_cons_zero, List.getElem?_cons_succ, hashM, hl, htk, hc])
    | (with_reducible refine DEv_cut _ _ _ _ _ _ _ _ _ _ _ _ (by kernel_rfl) ?_; simp [-List.reduceReplicate, Nat.add_one_le_iff, -getElem?_pos, -getElem?_neg, List.getElem?_cons_zero, List.getElem?_cons_succ, hashM, hl, htk])
    | ((with_reducible refine hother _ _ rfl ?_); simp only [inBlockA, thenA, noGotoA, Nat.reduceEqDiff, if_false, if_true, ↓reduceIte])
    | ((with_reducible refine hother2 _ _ rfl ?_); simp only [inBlockA, thenA, noGotoA, Nat.reduceEqDiff, if_false, if_true, ↓reduceIte])
    | ((with_reducible refine hother3 _ _ rfl ?_); simp only [inBlockA, thenA, noGotoA, Nat.reduceEqDiff, if_false, if_true, ↓reduceIte])
    | (with_reducible refine And.intro (by omega) ?_)
    | (with_reducible change postOf _ _ _ _ _; simp [-List.reduceReplicate, Nat.add_one_le_iff, -getElem?_pos, -getElem?_neg, List.getElem?_cons_zero, List.getElem?_cons_succ, hashM, hl, htk])
    | fail)
end Go.Av
