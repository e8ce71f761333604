import Derived.Test.YtahcfdbjookojaaAvT20
set_option linter.unusedVariables false
set_option linter.unusedSimpArgs false
set_option maxRecDepth 100000
set_option maxHeartbeats 4000000
namespace Go.Av
open Go Go.Proofs Go.Proofs.Ytahcfdbjookojaa Go.RowKit
/-! ### sha: words -/
abbrev W := BitVec 32
def rotr (x : W) (n : Nat) : W := (x >>> n) ||| (x <<< (32 - n))
theorem rot_den (x : W) (n : Nat) (hn : n < 32) : DenV Try.prog 54 [.c (wC x), .c (iC n)] (.c (wC (rotr x n))) := by
  refine Den.frame rfl rfl ?_
  refine den_of Try.func54 rfl rfl (by simp [Try.ntmps54]) (fun X hX hO => ?_)
  rw [Try.ntmps54] at hX
  simp only [Try.results54]
  have h1 := wrapU64 (n : Int) (by omega)
  have h2 := andN .u64 n 31 (by show n < 2 ^ 64; omega) (by decide) (fun h => by simp [IntKind.signed] at h)
  have h3 : n &&& 31 = n := by
    have := Nat.and_two_pow_sub_one_eq_mod n 5
    simp at this
    rw [this]
    omega
  rw [h3] at h2
  have h4 : IntKind.u64.wrap (32 - (n : Int)) = ((32 - n : Nat) : Int) := (wrapU64 _ (by omega)).trans (by omega)
  have h5 : min n 32 = n := by omega
  have h6 : min (32 - n) 32 = 32 - n := by omega
  have h10 : ¬ ((32 - n : Nat) : Int) < 0 := by omega
  have h11 : ¬ (n : Int) < 0 := by omega
  have hr : rotr x n = (x >>> n) ||| (x <<< (32 - n)) := rfl
  generalize hk : 32 - n = k at *
  have h2' : andI IntKind.u64 (n : Int) 31 = (n : Int) := h2
  repeat' (first 
    | with_reducible refine awp_scope ?_
    | with_reducible refine awp_seq ?_
    | with_reducible refine awp_block ?_
    | (with_reducible refine awp_label ?_; try simp only [thenA, inBlockA, noGotoA])
    | (with_reducible refine awp_skip ?_; try simp only [thenA, inBlockA, noGotoA])
    | (with_reducible refine awp_exit ?_; simp only [thenA, inBlockA, noGotoA, if_true, Nat.reduceEqDiff, if_false, ↓reduceIte])
    | (with_reducible refine awp_ret ?_; (try simp only [thenA, inBlockA, noGotoA]); (try simp [-List.reduceReplicate, Nat.add_one_le_iff, -getElem?_pos, -getElem?_neg, List.getElem?_cons_zero, List.getElem?_cons_succ, wC, iC, h1, h2', h4, h5, h6, wI_shr, wI_shr', wI_shl, wI_or, h10, h11, IntKind.bits, hr]))
    | (with_reducible refine awp_reg 17 hX [0, 1, 4, 5] ?_; simp [-List.reduceReplicate, Nat.add_one_le_iff, -getElem?_pos, -getElem?_neg, List.getElem?_cons_zero, List.getElem?_cons_succ, wC, iC, h1, h2', h4, h5, h6, wI_shr, wI_shr', wI_shl, wI_or, h10, h11, IntKind.bits, hr])
    | (with_reducible refine awp_drw 17 hX [0, 1, 4, 5] Tab.mixed (by kernel_rfl) ?_; simp [-List.reduceReplicate, Nat.add_one_le_iff, -getElem?_pos, -getElem?_neg, List.getElem?_cons_zero, List.getElem?_cons_succ, wC, iC, h1, h2', h4, h5, h6, wI_shr, wI_shr', wI_shl, wI_or, h10, h11, IntKind.bits, hr])
    | (with_reducible refine awp_if_b rfl (fun hc => ?_) (fun hc => ?_) <;> (try simp [-getElem?_pos, -getElem?_neg] at hc) <;> (try (exfalso; omega)))
    | (with_reducible refine GuardK_b (fun hc => ?_) (fun hc => ?_) <;> (try simp only [Bool.not_eq_true', Bool.not_eq_false', decide_eq_true_eq, decide_eq_false_iff_not] at hc) <;> (first | (exfalso; omega) | skip) <;> simp [-List.reduceReplicate, Nat.add_one_le_iff, -getElem?_pos, -getElem?_neg, List.getElem?_cons_zero, List.getElem?_cons_succ, wC, iC, h1, h2', h4, h5, h6, wI_shr, wI_shr', wI_shl, wI_or, h10, h11, IntKind.bits, hr, hc])
    | (with_reducible refine DGuard_b _ _ _ _ _ _ _ _ _ _ (fun hc => ?_) (fun hc => ?_) <;> (try simp only [Bool.not_eq_true', Bool.not_eq_false', decide_eq_true_eq, decide_eq_false_iff_not] at hc) <;> (first | (exfalso; omega) | skip) <;> simp [-List.reduceReplicate, Nat.add_one_le_iff, -getElem?_pos, -getElem?_neg, List.getElem?_cons_zero, List.getElem?_cons_succ, wC, iC, h1, h2', h4, h5, h6, wI_shr, wI_shr', wI_shl, wI_or, h10, h11, IntKind.bits, hr, hc])
    | (with_reducible refine DEv_cut _ _ _ _ _ _ _ _ _ _ _ _ (by kernel_rfl) ?_; simp [-List.reduceReplicate, Nat.add_one_le_iff, -getElem?_pos, -getElem?_neg, List.getElem?_cons_zero, List.getElem?_cons_succ, wC, iC, h1, h2', h4, h5, h6, wI_shr, wI_shr', wI_shl, wI_or, h10, h11, IntKind.bits, hr])
    | ((with_reducible refine hother _ _ rfl ?_); simp only [inBlockA, thenA, noGotoA, Nat.reduceEqDiff, if_false, if_true, ↓reduceIte])
    | ((with_reducible refine hother2 _ _ rfl ?_); simp only [inBlockA, thenA, noGotoA, Nat.reduceEqDiff, if_false, if_true, ↓reduceIte])
    | ((with_reducible refine hother3 _ _ rfl ?_); simp only [inBlockA, thenA, noGotoA, Nat.reduceEqDiff, if_false, if_true, ↓reduceIte])
    | (with_reducible refine And.intro (by omega) ?_)
    | (with_reducible change postOf _ _ _ _ _; simp [-List.reduceReplicate, Nat.add_one_le_iff, -getElem?_pos, -getElem?_neg, List.getElem?_cons_zero, List.getElem?_cons_succ, wC, iC, h1, h2', h4, h5, h6, wI_shr, wI_shr', wI_shl, wI_or, h10, h11, IntKind.bits, hr])
    | fail)
theorem rotr_add (x : W) (n : Nat) (h0 : 0 < n) (h : n < 32) : x >>> n + x <<< (32 - n) = rotr x n := by
  unfold rotr
  refine BitVec.add_eq_or_of_and_eq_zero _ _ ?_
  apply BitVec.eq_of_getLsbD_eq
  intro i hi
  simp
  intro h1 h2
  have := BitVec.lt_of_getLsbD h1
  omega
theorem turn_den (x : W) (n : Nat) (h0 : 0 < n) (hn : n < 32) : DenV Try.prog 56 [.c (wC x), .c (.v (.int .u64 (n : Int)))] (.c (wC (rotr x n))) := by
  refine Den.frame rfl rfl ?_
  refine den_of Try.func56 rfl rfl (by simp [Try.ntmps56]) (fun X hX hO => ?_)
  rw [Try.ntmps56] at hX
  simp only [Try.results56]
  have h4 : IntKind.u64.wrap (32 - (n : Int)) = ((32 - n : Nat) : Int) := (wrapU64 _ (by omega)).trans (by omega)
  have h5 : min n 32 = n := by omega
  have h6 : min (32 - n) 32 = 32 - n := by omega
  have h9 := rotr_add x n h0 hn
  have h10 : ¬ ((32 - n : Nat) : Int) < 0 := by omega
  have h11 : ¬ (n : Int) < 0 := by omega
  generalize hk : 32 - n = k at *
  repeat' (first 
    | with_reducible refine awp_scope ?_
    | with_reducible refine awp_seq ?_
    | with_reducible refine awp_block ?_
    | (with_reducible refine awp_label ?_; try simp only [thenA, inBlockA, noGotoA])
    | (with_reducible refine awp_skip ?_; try simp only [thenA, inBlockA, noGotoA])
    | (with_reducible refine awp_exit ?_; simp only [thenA, inBlockA, noGotoA, if_true, Nat.reduceEqDiff, if_false, ↓reduceIte])
    | (with_reducible refine awp_ret ?_; (try simp only [thenA, inBlockA, noGotoA]); (try simp [-List.reduceReplicate, Nat.add_one_le_iff, -getElem?_pos, -getElem?_neg, List.getElem?_cons_zero, List.getElem?_cons_succ, wC, h4, h5, h6, wI_shr, wI_shr', wI_shl, wI_add, h9, h10, h11, IntKind.bits]))
    | (with_reducible refine awp_reg 13 hX [0, 1, 4] ?_; simp [-List.reduceReplicate, Nat.add_one_le_iff, -getElem?_pos, -getElem?_neg, List.getElem?_cons_zero, List.getElem?_cons_succ, wC, h4, h5, h6, wI_shr, wI_shr', wI_shl, wI_add, h9, h10, h11, IntKind.bits])
    | (with_reducible refine awp_drw 13 hX [0, 1, 4] Tab.mixed (by kernel_rfl) ?_; simp [-List.reduceReplicate, Nat.add_one_le_iff, -getElem?_pos, -getElem?_neg, List.getElem?_cons_zero, List.getElem?_cons_succ, wC, h4, h5, h6, wI_shr, wI_shr', wI_shl, wI_add, h9, h10, h11, IntKind.bits])
    | (with_reducible refine awp_if_b rfl (fun hc => ?_) (fun hc => ?_) <;> (try simp [-getElem?_pos, -getElem?_neg] at hc) <;> (try (exfalso; omega)))
    | (with_reducible refine GuardK_b (fun hc => ?_) (fun hc => ?_) <;> (try simp only [Bool.not_eq_true', Bool.not_eq_false', decide_eq_true_eq, decide_eq_false_iff_not] at hc) <;> (first | (exfalso; omega) | skip) <;> simp [-List.reduceReplicate, Nat.add_one_le_iff, -getElem?_pos, -getElem?_neg, List.getElem?_cons_zero, List.getElem?_cons_succ, wC, h4, h5, h6, wI_shr, wI_shr', wI_shl, wI_add, h9, h10, h11, IntKind.bits, hc])
    | (with_reducible refine DGuard_b _ _ _ _ _ _ _ _ _ _ (fun hc => ?_) (fun hc => ?_) <;> (try simp only [Bool.not_eq_true', Bool.not_eq_false', decide_eq_true_eq, decide_eq_false_iff_not] at hc) <;> (first | (exfalso; omega) | skip) <;> simp [-List.reduceReplicate, Nat.add_one_le_iff, -getElem?_pos, -getElem?_neg, List.getElem?_cons_zero, List.getElem?_cons_succ, wC, h4, h5, h6, wI_shr, wI_shr', wI_shl, wI_add, h9, h10, h11, IntKind.bits, hc])
    | (with_reducible refine DEv_cut _ _ _ _ _ _ _ _ _ _ _ _ (by kernel_rfl) ?_; simp [-List.reduceReplicate, Nat.add_one_le_iff, -getElem?_pos, -getElem?_neg, List.getElem?_cons_zero, List.getElem?_cons_succ, wC, h4, h5, h6, wI_shr, wI_shr', wI_shl, wI_add, h9, h10, h11, IntKind.bits])
    | ((with_reducible refine hother _ _ rfl ?_); simp only [inBlockA, thenA, noGotoA, Nat.reduceEqDiff, if_false, if_true, ↓reduceIte])
    | ((with_reducible refine hother2 _ _ rfl ?_); simp only [inBlockA, thenA, noGotoA, Nat.reduceEqDiff, if_false, if_true, ↓reduceIte])
    | ((with_reducible refine hother3 _ _ rfl ?_); simp only [inBlockA, thenA, noGotoA, Nat.reduceEqDiff, if_false, if_true, ↓reduceIte])
    | (with_reducible refine And.intro (by omega) ?_)
    | (with_reducible change postOf _ _ _ _ _; simp [-List.reduceReplicate, Nat.add_one_le_iff, -getElem?_pos, -getElem?_neg, List.getElem?_cons_zero, List.getElem?_cons_succ, wC, h4, h5, h6, wI_shr, wI_shr', wI_shl, wI_add, h9, h10, h11, IntKind.bits])
    | fail)
def g0 (x : W) : W := rotr x 7 ^^^ rotr x 18 ^^^ (x >>> 3)
def g1 (x : W) : W := rotr x 17 ^^^ rotr x 19 ^^^ (x >>> 10)
def spStep (b : ByteArray) (l : List W) : W :=
  if l.length < 16 then BitVec.ofNat 32 (takeN b (4 * l.length : Nat) 4) else l.getD (l.length - 16) 0 + g0 (l.getD (l.length - 15) 0) + l.getD (l.length - 7) 0 + g1 (l.getD (l.length - 2) 0)
def spTo (b : ByteArray) : Nat → List W
  | 0 => []
  | n + 1 => spTo b n ++ [spStep b (spTo b n)]
theorem spTo_len (b : ByteArray) (n : Nat) : (spTo b n).length = n := by
  induction n with
  | zero => rfl
  | succ n ih => rw [spTo, List.length_append, ih]; rfl
def spread (b : ByteArray) : List W := spTo b 64
/-- The row as it is filled. -/
def spRow (b : ByteArray) (i : Nat) : List C := ((spTo b i) ++ List.replicate (64 - i) 0).map wC
theorem spRow_len (b : ByteArray) (i : Nat) (h : i ≤ 64) : (spRow b i).length = 64 := by simp [spRow, spTo_len]; omega
theorem spRow_get (b : ByteArray) (i j : Nat) (h : j < i) : (spRow b i)[j]? = some (wC ((spTo b i).getD j 0)) := by
  have hl := spTo_len b i
  unfold spRow
  rw [List.getElem?_map, List.getElem?_append_left (by omega), List.getD_eq_getElem?_getD, List.getElem?_eq_getElem (by omega)]
  rfl
theorem spRow_set (b : ByteArray) (i : Nat) (h : i < 64) : (spRow b i).set i (wC (spStep b (spTo b i))) = spRow b (i + 1) := by
  have hl := spTo_len b i
  unfold spRow
  rw [← List.map_set, show 64 - i = (64 - (i + 1)) + 1 by omega, List.replicate_succ, List.set_append_right _ _ (by omega), hl, show i - i = 0 by omega, spTo]
  simp
theorem spRow_zero (b : ByteArray) : List.replicate 64 (C.v (.int .u32 0)) = spRow b 0 := by
  unfold spRow
  rw [spTo, List.nil_append, List.map_replicate]
  rfl
theorem fd8 (x : W) : (wI x).fdiv 8 = wI (x >>> 3) := wI_shr x 3
theorem fd1024 (x : W) : (wI x).fdiv 1024 = wI (x >>> 10) := wI_shr x 10
theorem ofNat32 (n : Nat) (h : n < 4294967296) : ((BitVec.ofNat 32 n).toNat : Int) = (n : Int) := by rw [BitVec.toNat_ofNat]; omega
theorem take4_lt (b : ByteArray) (a : Int) : takeN b a 4 < 4294967296 := by have := takeN_lt b a 4; omega
theorem spread_den (b : ByteArray) (hb : b.size ≤ 9223372036854775807) : DenV Try.prog 22 [.c (.v (.string b))] (.agg (up ((spread b).map wC))) := by
  refine Den.frame rfl (by simp [ltB]) ?_
  refine den_of Try.func22 rfl rfl (by simp [Try.ntmps22]) (fun X hX hO => ?_)
  rw [Try.ntmps22] at hX
  simp only [Try.results22]
  repeat' (first 
    | with_reducible refine awp_scope ?_
    | with_reducible refine awp_seq ?_
    | with_reducible refine awp_block ?_
    | (with_reducible refine awp_label ?_; try simp only [thenA, inBlockA, noGotoA])
    | (with_reducible refine awp_skip ?_; try simp only [thenA, inBlockA, noGotoA])
    | (with_reducible refine awp_exit ?_; simp only [thenA, inBlockA, noGotoA, if_true, Nat.reduceEqDiff, if_false, ↓reduceIte])
    | (with_reducible refine awp_ret ?_; (try simp only [thenA, inBlockA, noGotoA]); (try simp [-List.reduceReplicate, Nat.add_one_le_iff, -getElem?_pos, -getElem?_neg, List.getElem?_cons_zero, List.getElem?_cons_succ, spRow_zero b]))
    | (with_reducible refine awp_reg 61 hX [0, 2, 3, 4, 5, 6, 7, 8, 9, 10, 13] ?_; simp [-List.reduceReplicate, Nat.add_one_le_iff, -getElem?_pos, -getElem?_neg, List.getElem?_cons_zero, List.getElem?_cons_succ, spRow_zero b])
    | (with_reducible refine awp_drw 61 hX [0, 2, 3, 4, 5, 6, 7, 8, 9, 10, 13] Tab.mixed (by kernel_rfl) ?_; simp [-List.reduceReplicate, Nat.add_one_le_iff, -getElem?_pos, -getElem?_neg, List.getElem?_cons_zero, List.getElem?_cons_succ, spRow_zero b])
    | (with_reducible refine awp_if_b rfl (fun hc => ?_) (fun hc => ?_) <;> (try simp [-getElem?_pos, -getElem?_neg] at hc) <;> (try (exfalso; omega)))
    | (with_reducible refine GuardK_b (fun hc => ?_) (fun hc => ?_) <;> (try simp only [Bool.not_eq_true', Bool.not_eq_false', decide_eq_true_eq, decide_eq_false_iff_not] at hc) <;> (first | (exfalso; omega) | skip) <;> simp [-List.reduceReplicate, Nat.add_one_le_iff, -getElem?_pos, -getElem?_neg, List.getElem?_cons_zero, List.getElem?_cons_succ, spRow_zero b, hc])
    | (with_reducible refine DGuard_b _ _ _ _ _ _ _ _ _ _ (fun hc => ?_) (fun hc => ?_) <;> (try simp only [Bool.not_eq_true', Bool.not_eq_false', decide_eq_true_eq, decide_eq_false_iff_not] at hc) <;> (first | (exfalso; omega) | skip) <;> simp [-List.reduceReplicate, Nat.add_one_le_iff, -getElem?_pos, -getElem?_neg, List.getElem?_cons_zero, List.getElem?_cons_succ, spRow_zero b, hc])
    | (with_reducible refine DEv_cut _ _ _ _ _ _ _ _ _ _ _ _ (by kernel_rfl) ?_; simp [-List.reduceReplicate, Nat.add_one_le_iff, -getElem?_pos, -getElem?_neg, List.getElem?_cons_zero, List.getElem?_cons_succ, spRow_zero b])
    | ((with_reducible refine hother _ _ rfl ?_); simp only [inBlockA, thenA, noGotoA, Nat.reduceEqDiff, if_false, if_true, ↓reduceIte])
    | ((with_reducible refine hother2 _ _ rfl ?_); simp only [inBlockA, thenA, noGotoA, Nat.reduceEqDiff, if_false, if_true, ↓reduceIte])
    | ((with_reducible refine hother3 _ _ rfl ?_); simp only [inBlockA, thenA, noGotoA, Nat.reduceEqDiff, if_false, if_true, ↓reduceIte])
    | (with_reducible refine And.intro (by omega) ?_)
    | (with_reducible change postOf _ _ _ _ _; simp [-List.reduceReplicate, Nat.add_one_le_iff, -getElem?_pos, -getElem?_neg, List.getElem?_cons_zero, List.getElem?_cons_succ, spRow_zero b])
    | fail)
  refine awp_forU [0, 2, 3, 9] (fun i (_u : Unit) => [(9, .c (iC i))]) (fun i (_u : Unit) => [⟨40, 1, false, 0, up (List.replicate 64 (.v (.int .u32 0))), none⟩, ⟨40, 1, false, 0, up (spRow b i), none⟩]) (fun i (_u : Unit) => True) (64) (()) (by first | trivial | (simp; done) | omega | (intros; simp at *; done)) (by simp [-List.reduceReplicate, keep, iC, spRow_zero b]) (by simp [-List.reduceReplicate, iC, spRow_zero b]) ?_
  rintro i _u Q1 hi hH next hother
  conv => arg 5; arg 1; simp only [List.cons_append, List.nil_append, keep, get, Nat.reduceEqDiff, if_true, if_false, ↓reduceIte]
  have hwi := wrap_in ((i : Int) + 1) (by omega)
  have hlen := spRow_len b i hi
  by_cases hlt : i < 64
  · have hset := spRow_set b i hlt
    have hl := spTo_len b i
    by_cases h16 : i < 16
    · have hw4 := wrap_in (4 * (i : Int)) (by omega)
      have hst : spStep b (spTo b i) = BitVec.ofNat 32 (takeN b (4 * (i : Int)) 4) := by unfold spStep; rw [hl, if_pos h16, Int.natCast_mul]; rfl
      have hx : wC (spStep b (spTo b i)) = .v (.int .u32 (takeN b (4 * (i : Int)) 4 : Int)) := by unfold wC wI; rw [hst, ofNat32 _ (take4_lt _ _)]
      rw [hx] at hset
      generalize spRow b i = r0 at *
      repeat' (first 
        | with_reducible refine awp_scope ?_
        | with_reducible refine awp_seq ?_
        | with_reducible refine awp_block ?_
        | (with_reducible refine awp_label ?_; try simp only [thenA, inBlockA, noGotoA])
        | (with_reducible refine awp_skip ?_; try simp only [thenA, inBlockA, noGotoA])
        | (with_reducible refine awp_exit ?_; simp only [thenA, inBlockA, noGotoA, if_true, Nat.reduceEqDiff, if_false, ↓reduceIte])
        | (with_reducible refine awp_ret ?_; (try simp only [thenA, inBlockA, noGotoA]); (try simp [-List.reduceReplicate, Nat.add_one_le_iff, -getElem?_pos, -getElem?_neg, List.getElem?_cons_zero, List.getElem?_cons_succ, iC, hlt, h16, hwi, hw4, u32C, hlen]))
        | (with_reducible refine awp_reg 61 hX [0, 2, 3, 4, 5, 6, 7, 8, 9, 10, 13] ?_; simp [-List.reduceReplicate, Nat.add_one_le_iff, -getElem?_pos, -getElem?_neg, List.getElem?_cons_zero, List.getElem?_cons_succ, iC, hlt, h16, hwi, hw4, u32C, hlen])
        | (with_reducible refine awp_drw 61 hX [0, 2, 3, 4, 5, 6, 7, 8, 9, 10, 13] Tab.mixed (by kernel_rfl) ?_; simp [-List.reduceReplicate, Nat.add_one_le_iff, -getElem?_pos, -getElem?_neg, List.getElem?_cons_zero, List.getElem?_cons_succ, iC, hlt, h16, hwi, hw4, u32C, hlen])
        | ((with_reducible refine Den.at_ (f := 53) ?_); refine (take32_den b (4 * (i : Int)) (by omega) hb _).det ?_; try simp [-List.reduceReplicate, Nat.add_one_le_iff, -getElem?_pos, -getElem?_neg, List.getElem?_cons_zero, List.getElem?_cons_succ, iC, hlt, h16, hwi, hw4, u32C, hlen])
        | ((with_reducible refine drawn_at (f := 53) ?_); refine ⟨_, _, take32_den b (4 * (i : Int)) (by omega) hb _, fun _ => rfl, ?_⟩; try simp [-List.reduceReplicate, Nat.add_one_le_iff, -getElem?_pos, -getElem?_neg, List.getElem?_cons_zero, List.getElem?_cons_succ, iC, hlt, h16, hwi, hw4, u32C, hlen])
        | (with_reducible refine awp_if_b rfl (fun hc => ?_) (fun hc => ?_) <;> (try simp [-getElem?_pos, -getElem?_neg] at hc) <;> (try (exfalso; omega)))
        | (with_reducible refine GuardK_b (fun hc => ?_) (fun hc => ?_) <;> (try simp only [Bool.not_eq_true', Bool.not_eq_false', decide_eq_true_eq, decide_eq_false_iff_not] at hc) <;> (first | (exfalso; omega) | skip) <;> simp [-List.reduceReplicate, Nat.add_one_le_iff, -getElem?_pos, -getElem?_neg, List.getElem?_cons_zero, List.getElem?_cons_succ, iC, hlt, h16, hwi, hw4, u32C, hlen, hc])
        | (with_reducible refine DGuard_b _ _ _ _ _ _ _ _ _ _ (fun hc => ?_) (fun hc => ?_) <;> (try simp only [Bool.not_eq_true', Bool.not_eq_false', decide_eq_true_eq, decide_eq_false_iff_not] at hc) <;> (first | (exfalso; omega) | skip) <;> simp [-List.reduceReplicate, Nat.add_one_le_iff, -getElem?_pos, -getElem?_neg, List.getElem?_cons_zero, List.getElem?_cons_succ, iC, hlt, h16, hwi, hw4, u32C, hlen, hc])
        | (with_reducible refine DEv_cut _ _ _ _ _ _ _ _ _ _ _ _ (by kernel_rfl) ?_; simp [-List.reduceReplicate, Nat.add_one_le_iff, -getElem?_pos, -getElem?_neg, List.getElem?_cons_zero, List.getElem?_cons_succ, iC, hlt, h16, hwi, hw4, u32C, hlen])
        | ((with_reducible refine hother _ _ rfl ?_); simp only [inBlockA, thenA, noGotoA, Nat.reduceEqDiff, if_false, if_true, ↓reduceIte])
        | ((with_reducible refine hother2 _ _ rfl ?_); simp only [inBlockA, thenA, noGotoA, Nat.reduceEqDiff, if_false, if_true, ↓reduceIte])
        | ((with_reducible refine hother3 _ _ rfl ?_); simp only [inBlockA, thenA, noGotoA, Nat.reduceEqDiff, if_false, if_true, ↓reduceIte])
        | (with_reducible refine And.intro (by omega) ?_)
        | (with_reducible change postOf _ _ _ _ _; simp [-List.reduceReplicate, Nat.add_one_le_iff, -getElem?_pos, -getElem?_neg, List.getElem?_cons_zero, List.getElem?_cons_succ, iC, hlt, h16, hwi, hw4, u32C, hlen])
        | fail)
      refine next _ _ (()) (by omega) (by first | trivial | omega | assumption) (by simp [-List.reduceReplicate, keep, iC, ← hset]) (by simp [-List.reduceReplicate, iC, ← hset])
    · have i1 := wrap_in ((i : Int) - 15) (by omega)
      have i2 := wrap_in ((i : Int) - 2) (by omega)
      have i3 := wrap_in ((i : Int) - 16) (by omega)
      have i4 := wrap_in ((i : Int) - 7) (by omega)
      have j1 : ((i : Int) - 15).toNat = i - 15 := by omega
      have j2 : ((i : Int) - 2).toNat = i - 2 := by omega
      have j3 : ((i : Int) - 16).toNat = i - 16 := by omega
      have j4 : ((i : Int) - 7).toNat = i - 7 := by omega
      have k1 : 15 ≤ (i : Int) := by omega
      have k2 : 2 ≤ (i : Int) := by omega
      have k3 : 16 ≤ (i : Int) := by omega
      have k4 : 7 ≤ (i : Int) := by omega
      have m1 : (i : Int) - 15 < 64 := by omega
      have m2 : (i : Int) - 2 < 64 := by omega
      have m3 : (i : Int) - 16 < 64 := by omega
      have m4 : (i : Int) - 7 < 64 := by omega
      have n1 := spRow_get b i (i - 15) (by omega)
      have n2 := spRow_get b i (i - 2) (by omega)
      have n3 := spRow_get b i (i - 16) (by omega)
      have n4 := spRow_get b i (i - 7) (by omega)
      have hst : spStep b (spTo b i) = (spTo b i).getD (i - 16) 0 + g0 ((spTo b i).getD (i - 15) 0) + (spTo b i).getD (i - 7) 0 + g1 ((spTo b i).getD (i - 2) 0) := by unfold spStep; rw [hl, if_neg h16]
      rw [hst] at hset
      unfold g0 g1 at hset
      generalize (spTo b i).getD (i - 16) 0 = x16 at *
      generalize (spTo b i).getD (i - 15) 0 = x15 at *
      generalize (spTo b i).getD (i - 7) 0 = x7 at *
      generalize (spTo b i).getD (i - 2) 0 = x2 at *
      generalize spRow b i = r0 at *
      repeat' (first 
        | with_reducible refine awp_scope ?_
        | with_reducible refine awp_seq ?_
        | with_reducible refine awp_block ?_
        | (with_reducible refine awp_label ?_; try simp only [thenA, inBlockA, noGotoA])
        | (with_reducible refine awp_skip ?_; try simp only [thenA, inBlockA, noGotoA])
        | (with_reducible refine awp_exit ?_; simp only [thenA, inBlockA, noGotoA, if_true, Nat.reduceEqDiff, if_false, ↓reduceIte])
        | (with_reducible refine awp_ret ?_; (try simp only [thenA, inBlockA, noGotoA]); (try simp [-List.reduceReplicate, Nat.add_one_le_iff, -getElem?_pos, -getElem?_neg, List.getElem?_cons_zero, List.getElem?_cons_succ, iC, hlt, h16, hwi, i1, i2, i3, i4, j1, j2, j3, j4, k1, k2, k3, k4, m1, m2, m3, m4, n1, n2, n3, n4, hlen, wC, wI_shr, wI_shr', wI_xor, wI_add, fd8, fd1024, IntKind.bits]))
        | (with_reducible refine awp_reg 61 hX [0, 2, 3, 4, 5, 6, 7, 8, 9, 10, 13] ?_; simp [-List.reduceReplicate, Nat.add_one_le_iff, -getElem?_pos, -getElem?_neg, List.getElem?_cons_zero, List.getElem?_cons_succ, iC, hlt, h16, hwi, i1, i2, i3, i4, j1, j2, j3, j4, k1, k2, k3, k4, m1, m2, m3, m4, n1, n2, n3, n4, hlen, wC, wI_shr, wI_shr', wI_xor, wI_add, fd8, fd1024, IntKind.bits])
        | (with_reducible refine awp_drw 61 hX [0, 2, 3, 4, 5, 6, 7, 8, 9, 10, 13] Tab.mixed (by kernel_rfl) ?_; simp [-List.reduceReplicate, Nat.add_one_le_iff, -getElem?_pos, -getElem?_neg, List.getElem?_cons_zero, List.getElem?_cons_succ, iC, hlt, h16, hwi, i1, i2, i3, i4, j1, j2, j3, j4, k1, k2, k3, k4, m1, m2, m3, m4, n1, n2, n3, n4, hlen, wC, wI_shr, wI_shr', wI_xor, wI_add, fd8, fd1024, IntKind.bits])
        | ((with_reducible refine Den.at_ (f := 54) ?_); refine (rot_den _ 7 (by omega) _).det ?_; try simp [-List.reduceReplicate, Nat.add_one_le_iff, -getElem?_pos, -getElem?_neg, List.getElem?_cons_zero, List.getElem?_cons_succ, iC, hlt, h16, hwi, i1, i2, i3, i4, j1, j2, j3, j4, k1, k2, k3, k4, m1, m2, m3, m4, n1, n2, n3, n4, hlen, wC, wI_shr, wI_shr', wI_xor, wI_add, fd8, fd1024, IntKind.bits])
        | ((with_reducible refine drawn_at (f := 54) ?_); refine ⟨_, _, rot_den _ 7 (by omega) _, fun _ => rfl, ?_⟩; try simp [-List.reduceReplicate, Nat.add_one_le_iff, -getElem?_pos, -getElem?_neg, List.getElem?_cons_zero, List.getElem?_cons_succ, iC, hlt, h16, hwi, i1, i2, i3, i4, j1, j2, j3, j4, k1, k2, k3, k4, m1, m2, m3, m4, n1, n2, n3, n4, hlen, wC, wI_shr, wI_shr', wI_xor, wI_add, fd8, fd1024, IntKind.bits])
        | ((with_reducible refine Den.at_ (f := 54) ?_); refine (rot_den _ 18 (by omega) _).det ?_; try simp [-List.reduceReplicate, Nat.add_one_le_iff, -getElem?_pos, -getElem?_neg, List.getElem?_cons_zero, List.getElem?_cons_succ, iC, hlt, h16, hwi, i1, i2, i3, i4, j1, j2, j3, j4, k1, k2, k3, k4, m1, m2, m3, m4, n1, n2, n3, n4, hlen, wC, wI_shr, wI_shr', wI_xor, wI_add, fd8, fd1024, IntKind.bits])
        | ((with_reducible refine drawn_at (f := 54) ?_); refine ⟨_, _, rot_den _ 18 (by omega) _, fun _ => rfl, ?_⟩; try simp [-List.reduceReplicate, Nat.add_one_le_iff, -getElem?_pos, -getElem?_neg, List.getElem?_cons_zero, List.getElem?_cons_succ, iC, hlt, h16, hwi, i1, i2, i3, i4, j1, j2, j3, j4, k1, k2, k3, k4, m1, m2, m3, m4, n1, n2, n3, n4, hlen, wC, wI_shr, wI_shr', wI_xor, wI_add, fd8, fd1024, IntKind.bits])
        | ((with_reducible refine Den.at_ (f := 54) ?_); refine (rot_den _ 17 (by omega) _).det ?_; try simp [-List.reduceReplicate, Nat.add_one_le_iff, -getElem?_pos, -getElem?_neg, List.getElem?_cons_zero, List.getElem?_cons_succ, iC, hlt, h16, hwi, i1, i2, i3, i4, j1, j2, j3, j4, k1, k2, k3, k4, m1, m2, m3, m4, n1, n2, n3, n4, hlen, wC, wI_shr, wI_shr', wI_xor, wI_add, fd8, fd1024, IntKind.bits])
        | ((with_reducible refine drawn_at (f := 54) ?_); refine ⟨_, _, rot_den _ 17 (by omega) _, fun _ => rfl, ?_⟩; try simp [-List.reduceReplicate, Nat.add_one_le_iff, -getElem?_pos, -getElem?_neg, List.getElem?_cons_zero, List.getElem?_cons_succ, iC, hlt, h16, hwi, i1, i2, i3, i4, j1, j2, j3, j4, k1, k2, k3, k4, m1, m2, m3, m4, n1, n2, n3, n4, hlen, wC, wI_shr, wI_shr', wI_xor, wI_add, fd8, fd1024, IntKind.bits])
        | ((with_reducible refine Den.at_ (f := 54) ?_); refine (rot_den _ 19 (by omega) _).det ?_; try simp [-List.reduceReplicate, Nat.add_one_le_iff, -getElem?_pos, -getElem?_neg, List.getElem?_cons_zero, List.getElem?_cons_succ, iC, hlt, h16, hwi, i1, i2, i3, i4, j1, j2, j3, j4, k1, k2, k3, k4, m1, m2, m3, m4, n1, n2, n3, n4, hlen, wC, wI_shr, wI_shr', wI_xor, wI_add, fd8, fd1024, IntKind.bits])
        | ((with_reducible refine drawn_at (f := 54) ?_); refine ⟨_, _, rot_den _ 19 (by omega) _, fun _ => rfl, ?_⟩; try simp [-List.reduceReplicate, Nat.add_one_le_iff, -getElem?_pos, -getElem?_neg, List.getElem?_cons_zero, List.getElem?_cons_succ, iC, hlt, h16, hwi, i1, i2, i3, i4, j1, j2, j3, j4, k1, k2, k3, k4, m1, m2, m3, m4, n1, n2, n3, n4, hlen, wC, wI_shr, wI_shr', wI_xor, wI_add, fd8, fd1024, IntKind.bits])
        | (with_reducible refine awp_if_b rfl (fun hc => ?_) (fun hc => ?_) <;> (try simp [-getElem?_pos, -getElem?_neg] at hc) <;> (try (exfalso; omega)))
        | (with_reducible refine GuardK_b (fun hc => ?_) (fun hc => ?_) <;> (try simp only [Bool.not_eq_true', Bool.not_eq_false', decide_eq_true_eq, decide_eq_false_iff_not] at hc) <;> (first | (exfalso; omega) | skip) <;> simp [-List.reduceReplicate, Nat.add_one_le_iff, -getElem?_pos, -getElem?_neg, List.getElem?_cons_zero, List.getElem?_cons_succ, iC, hlt, h16, hwi, i1, i2, i3, i4, j1, j2, j3, j4, k1, k2, k3, k4, m1, m2, m3, m4, n1, n2, n3, n4, hlen, wC, wI_shr, wI_shr', wI_xor, wI_add, fd8, fd1024, IntKind.bits, hc])
        | (with_reducible refine DGuard_b _ _ _ _ _ _ _ _ _ _ (fun hc => ?_) (fun hc => ?_) <;> (try simp only [Bool.not_eq_true', Bool.not_eq_false', decide_eq_true_eq, decide_eq_false_iff_not] at hc) <;> (first | (exfalso; omega) | skip) <;> simp [-List.reduceReplicate, Nat.add_one_le_iff, -getElem?_pos, -getElem?_neg, List.getElem?_cons_zero, List.getElem?_cons_succ, iC, hlt, h16, hwi, i1, i2, i3, i4, j1, j2, j3, j4, k1, k2, k3, k4, m1, m2, m3, m4, n1, n2, n3, n4, hlen, wC, wI_shr, wI_shr', wI_xor, wI_add, fd8, fd1024, IntKind.bits, hc])
        | (with_reducible refine DEv_cut _ _ _ _ _ _ _ _ _ _ _ _ (by kernel_rfl) ?_; simp [-List.reduceReplicate, Nat.add_one_le_iff, -getElem?_pos, -getElem?_neg, List.getElem?_cons_zero, List.getElem?_cons_succ, iC, hlt, h16, hwi, i1, i2, i3, i4, j1, j2, j3, j4, k1, k2, k3, k4, m1, m2, m3, m4, n1, n2, n3, n4, hlen, wC, wI_shr, wI_shr', wI_xor, wI_add, fd8, fd1024, IntKind.bits])
        | ((with_reducible refine hother _ _ rfl ?_); simp only [inBlockA, thenA, noGotoA, Nat.reduceEqDiff, if_false, if_true, ↓reduceIte])
        | ((with_reducible refine hother2 _ _ rfl ?_); simp only [inBlockA, thenA, noGotoA, Nat.reduceEqDiff, if_false, if_true, ↓reduceIte])
        | ((with_reducible refine hother3 _ _ rfl ?_); simp only [inBlockA, thenA, noGotoA, Nat.reduceEqDiff, if_false, if_true, ↓reduceIte])
        | (with_reducible refine And.intro (by omega) ?_)
        | (with_reducible change postOf _ _ _ _ _; simp [-List.reduceReplicate, Nat.add_one_le_iff, -getElem?_pos, -getElem?_neg, List.getElem?_cons_zero, List.getElem?_cons_succ, iC, hlt, h16, hwi, i1, i2, i3, i4, j1, j2, j3, j4, k1, k2, k3, k4, m1, m2, m3, m4, n1, n2, n3, n4, hlen, wC, wI_shr, wI_shr', wI_xor, wI_add, fd8, fd1024, IntKind.bits])
        | fail)
      refine next _ _ (()) (by omega) (by first | trivial | omega | assumption) (by simp [-List.reduceReplicate, keep, iC, ← hset, wC]) (by simp [-List.reduceReplicate, iC, ← hset, wC])
  · have h64 : i = 64 := by omega
    subst h64
    have hfin : spRow b 64 = (spread b).map wC := by unfold spRow spread; simp
    rw [hfin] at hlen
    have htk : ((spread b).map wC).take 64 = (spread b).map wC := List.take_of_length_le (by omega)
    rw [hfin]
    repeat' (first 
      | with_reducible refine awp_scope ?_
      | with_reducible refine awp_seq ?_
      | with_reducible refine awp_block ?_
      | (with_reducible refine awp_label ?_; try simp only [thenA, inBlockA, noGotoA])
      | (with_reducible refine awp_skip ?_; try simp only [thenA, inBlockA, noGotoA])
      | (with_reducible refine awp_exit ?_; simp only [thenA, inBlockA, noGotoA, if_true, Nat.reduceEqDiff, if_false, ↓reduceIte])
      | (with_reducible refine awp_ret ?_; (try simp only [thenA, inBlockA, noGotoA]); (try simp [-List.reduceReplicate, Nat.add_one_le_iff, -getElem?_pos, -getElem?_neg, List.getElem?_cons_zero, List.getElem?_cons_succ, iC, hlen, htk]))
      | (with_reducible refine awp_reg 61 hX [0, 2, 3, 4, 5, 6, 7, 8, 9, 10, 13] ?_; simp [-List.reduceReplicate, Nat.add_one_le_iff, -getElem?_pos, -getElem?_neg, List.getElem?_cons_zero, List.getElem?_cons_succ, iC, hlen, htk])
      | (with_reducible refine awp_drw 61 hX [0, 2, 3, 4, 5, 6, 7, 8, 9, 10, 13] Tab.mixed (by kernel_rfl) ?_; simp [-List.reduceReplicate, Nat.add_one_le_iff, -getElem?_pos, -getElem?_neg, List.getElem?_cons_zero, List.getElem?_cons_succ, iC, hlen, htk])
      | (with_reducible refine awp_if_b rfl (fun hc => ?_) (fun hc => ?_) <;> (try simp [-getElem?_pos, -getElem?_neg] at hc) <;> (try (exfalso; omega)))
      | (with_reducible refine GuardK_b (fun hc => ?_) (fun hc => ?_) <;> (try simp only [Bool.not_eq_true', Bool.not_eq_false', decide_eq_true_eq, decide_eq_false_iff_not] at hc) <;> (first | (exfalso; omega) | skip) <;> simp [-List.reduceReplicate, Nat.add_one_le_iff, -getElem?_pos, -getElem?_neg, List.getElem?_cons_zero, List.getElem?_cons_succ, iC, hlen, htk, hc])
      | (with_reducible refine DGuard_b _ _ _ _ _ _ _ _ _ _ (fun hc => ?_) (fun hc => ?_) <;> (try simp only [Bool.not_eq_true', Bool.not_eq_false', decide_eq_true_eq, decide_eq_false_iff_not] at hc) <;> (first | (exfalso; omega) | skip) <;> simp [-List.reduceReplicate, Nat.add_one_le_iff, -getElem?_pos, -getElem?_neg, List.getElem?_cons_zero, List.getElem?_cons_succ, iC, hlen, htk, hc])
      | (with_reducible refine DEv_cut _ _ _ _ _ _ _ _ _ _ _ _ (by kernel_rfl) ?_; simp [-List.reduceReplicate, Nat.add_one_le_iff, -getElem?_pos, -getElem?_neg, List.getElem?_cons_zero, List.getElem?_cons_succ, iC, hlen, htk])
      | ((with_reducible refine hother _ _ rfl ?_); simp only [inBlockA, thenA, noGotoA, Nat.reduceEqDiff, if_false, if_true, ↓reduceIte])
      | ((with_reducible refine hother2 _ _ rfl ?_); simp only [inBlockA, thenA, noGotoA, Nat.reduceEqDiff, if_false, if_true, ↓reduceIte])
      | ((with_reducible refine hother3 _ _ rfl ?_); simp only [inBlockA, thenA, noGotoA, Nat.reduceEqDiff, if_false, if_true, ↓reduceIte])
      | (with_reducible refine And.intro (by omega) ?_)
      | (with_reducible change postOf _ _ _ _ _; simp [-List.reduceReplicate, Nat.add_one_le_iff, -getElem?_pos, -getElem?_neg, List.getElem?_cons_zero, List.getElem?_cons_succ, iC, hlen, htk])
      | fail)
theorem spread02_den (b : ByteArray) (hb : b.size ≤ 9223372036854775807) : DenV Try.prog 23 [.c (.v (.string b))] (.agg (up ((spread b).map wC))) := by
  refine Den.frame rfl (by simp [ltB]) ?_
  refine den_of Try.func23 rfl rfl (by simp [Try.ntmps23]) (fun X hX hO => ?_)
  rw [Try.ntmps23] at hX
  simp only [Try.results23]
  repeat' (first 
    | with_reducible refine awp_scope ?_
    | with_reducible refine awp_seq ?_
    | with_reducible refine awp_block ?_
    | (with_reducible refine awp_label ?_; try simp only [thenA, inBlockA, noGotoA])
    | (with_reducible refine awp_skip ?_; try simp only [thenA, inBlockA, noGotoA])
    | (with_reducible refine awp_exit ?_; simp only [thenA, inBlockA, noGotoA, if_true, Nat.reduceEqDiff, if_false, ↓reduceIte])
    | (with_reducible refine awp_ret ?_; (try simp only [thenA, inBlockA, noGotoA]); (try simp [-List.reduceReplicate, Nat.add_one_le_iff, -getElem?_pos, -getElem?_neg, List.getElem?_cons_zero, List.getElem?_cons_succ, spRow_zero b]))
    | (with_reducible refine awp_reg 61 hX [0, 2, 3, 4, 5, 6, 7, 9, 20] ?_; simp [-List.reduceReplicate, Nat.add_one_le_iff, -getElem?_pos, -getElem?_neg, List.getElem?_cons_zero, List.getElem?_cons_succ, spRow_zero b])
    | (with_reducible refine awp_drw 61 hX [0, 2, 3, 4, 5, 6, 7, 9, 20] Tab.mixed (by kernel_rfl) ?_; simp [-List.reduceReplicate, Nat.add_one_le_iff, -getElem?_pos, -getElem?_neg, List.getElem?_cons_zero, List.getElem?_cons_succ, spRow_zero b])
    | (with_reducible refine awp_if_b rfl (fun hc => ?_) (fun hc => ?_) <;> (try simp [-getElem?_pos, -getElem?_neg] at hc) <;> (try (exfalso; omega)))
    | (with_reducible refine GuardK_b (fun hc => ?_) (fun hc => ?_) <;> (try simp only [Bool.not_eq_true', Bool.not_eq_false', decide_eq_true_eq, decide_eq_false_iff_not] at hc) <;> (first | (exfalso; omega) | skip) <;> simp [-List.reduceReplicate, Nat.add_one_le_iff, -getElem?_pos, -getElem?_neg, List.getElem?_cons_zero, List.getElem?_cons_succ, spRow_zero b, hc])
    | (with_reducible refine DGuard_b _ _ _ _ _ _ _ _ _ _ (fun hc => ?_) (fun hc => ?_) <;> (try simp only [Bool.not_eq_true', Bool.not_eq_false', decide_eq_true_eq, decide_eq_false_iff_not] at hc) <;> (first | (exfalso; omega) | skip) <;> simp [-List.reduceReplicate, Nat.add_one_le_iff, -getElem?_pos, -getElem?_neg, List.getElem?_cons_zero, List.getElem?_cons_succ, spRow_zero b, hc])
    | (with_reducible refine DEv_cut _ _ _ _ _ _ _ _ _ _ _ _ (by kernel_rfl) ?_; simp [-List.reduceReplicate, Nat.add_one_le_iff, -getElem?_pos, -getElem?_neg, List.getElem?_cons_zero, List.getElem?_cons_succ, spRow_zero b])
    | ((with_reducible refine hother _ _ rfl ?_); simp only [inBlockA, thenA, noGotoA, Nat.reduceEqDiff, if_false, if_true, ↓reduceIte])
    | ((with_reducible refine hother2 _ _ rfl ?_); simp only [inBlockA, thenA, noGotoA, Nat.reduceEqDiff, if_false, if_true, ↓reduceIte])
    | ((with_reducible refine hother3 _ _ rfl ?_); simp only [inBlockA, thenA, noGotoA, Nat.reduceEqDiff, if_false, if_true, ↓reduceIte])
    | (with_reducible refine And.intro (by omega) ?_)
    | (with_reducible change postOf _ _ _ _ _; simp [-List.reduceReplicate, Nat.add_one_le_iff, -getElem?_pos, -getElem?_neg, List.getElem?_cons_zero, List.getElem?_cons_succ, spRow_zero b])
    | fail)
  refine awp_forU [0, 2, 3, 4] (fun i (_u : Unit) => [(4, .c (iC i))]) (fun i (_u : Unit) => [⟨40, 1, false, 0, up (List.replicate 64 (.v (.int .u32 0))), none⟩, ⟨40, 1, false, 0, up (spRow b i), none⟩]) (fun i (_u : Unit) => True) (16) (()) (by first | trivial | (simp; done) | omega | (intros; simp at *; done)) (by simp [-List.reduceReplicate, keep, iC, spRow_zero b]) (by simp [-List.reduceReplicate, iC, spRow_zero b]) ?_
  rintro i _u Q1 hi hH next hother
  conv => arg 5; arg 1; simp only [List.cons_append, List.nil_append, keep, get, Nat.reduceEqDiff, if_true, if_false, ↓reduceIte]
  have hwi := wrap_in ((i : Int) + 1) (by omega)
  have hlen := spRow_len b i (by omega)
  by_cases hlt : i < 16
  · have hset := spRow_set b i (by omega)
    have hl := spTo_len b i
    have hw4 := wrap_in (4 * (i : Int)) (by omega)
    have hst : spStep b (spTo b i) = BitVec.ofNat 32 (takeN b (4 * (i : Int)) 4) := by unfold spStep; rw [hl, if_pos hlt, Int.natCast_mul]; rfl
    have ht4 := take4_lt b (4 * (i : Int))
    have hx : wC (spStep b (spTo b i)) = .v (.int .u32 (takeN b (4 * (i : Int)) 4 : Int)) := by unfold wC wI; rw [hst, ofNat32 _ ht4]
    have hm := wrapU32 (takeN b (4 * (i : Int)) 4 : Int) (by omega)
    have h64 : (i : Int) < 64 := by omega
    have h64' : i < 64 := by omega
    rw [hx] at hset
    generalize spRow b i = r0 at *
    repeat' (first 
      | with_reducible refine awp_scope ?_
      | with_reducible refine awp_seq ?_
      | with_reducible refine awp_block ?_
      | (with_reducible refine awp_label ?_; try simp only [thenA, inBlockA, noGotoA])
      | (with_reducible refine awp_skip ?_; try simp only [thenA, inBlockA, noGotoA])
      | (with_reducible refine awp_exit ?_; simp only [thenA, inBlockA, noGotoA, if_true, Nat.reduceEqDiff, if_false, ↓reduceIte])
      | (with_reducible refine awp_ret ?_; (try simp only [thenA, inBlockA, noGotoA]); (try simp [-List.reduceReplicate, Nat.add_one_le_iff, -getElem?_pos, -getElem?_neg, List.getElem?_cons_zero, List.getElem?_cons_succ, iC, hlt, h64, h64', hwi, hw4, u64C, hlen, hm]))
      | (with_reducible refine awp_reg 61 hX [0, 2, 3, 4, 5, 6, 7, 9, 20] ?_; simp [-List.reduceReplicate, Nat.add_one_le_iff, -getElem?_pos, -getElem?_neg, List.getElem?_cons_zero, List.getElem?_cons_succ, iC, hlt, h64, h64', hwi, hw4, u64C, hlen, hm])
      | (with_reducible refine awp_drw 61 hX [0, 2, 3, 4, 5, 6, 7, 9, 20] Tab.mixed (by kernel_rfl) ?_; simp [-List.reduceReplicate, Nat.add_one_le_iff, -getElem?_pos, -getElem?_neg, List.getElem?_cons_zero, List.getElem?_cons_succ, iC, hlt, h64, h64', hwi, hw4, u64C, hlen, hm])
      | ((with_reducible refine Den.at_ (f := 55) ?_); refine (take01_den b (4 * (i : Int)) 4 (by omega) hb (by omega) _).det ?_; try simp [-List.reduceReplicate, Nat.add_one_le_iff, -getElem?_pos, -getElem?_neg, List.getElem?_cons_zero, List.getElem?_cons_succ, iC, hlt, h64, h64', hwi, hw4, u64C, hlen, hm])
      | ((with_reducible refine drawn_at (f := 55) ?_); refine ⟨_, _, take01_den b (4 * (i : Int)) 4 (by omega) hb (by omega) _, fun _ => rfl, ?_⟩; try simp [-List.reduceReplicate, Nat.add_one_le_iff, -getElem?_pos, -getElem?_neg, List.getElem?_cons_zero, List.getElem?_cons_succ, iC, hlt, h64, h64', hwi, hw4, u64C, hlen, hm])
      | (with_reducible refine awp_if_b rfl (fun hc => ?_) (fun hc => ?_) <;> (try simp [-getElem?_pos, -getElem?_neg] at hc) <;> (try (exfalso; omega)))
      | (with_reducible refine GuardK_b (fun hc => ?_) (fun hc => ?_) <;> (try simp only [Bool.not_eq_true', Bool.not_eq_false', decide_eq_true_eq, decide_eq_false_iff_not] at hc) <;> (first | (exfalso; omega) | skip) <;> simp [-List.reduceReplicate, Nat.add_one_le_iff, -getElem?_pos, -getElem?_neg, List.getElem?_cons_zero, List.getElem?_cons_succ, iC, hlt, h64, h64', hwi, hw4, u64C, hlen, hm, hc])
      | (with_reducible refine DGuard_b _ _ _ _ _ _ _ _ _ _ (fun hc => ?_) (fun hc => ?_) <;> (try simp only [Bool.not_eq_true', Bool.not_eq_false', decide_eq_true_eq, decide_eq_false_iff_not] at hc) <;> (first | (exfalso; omega) | skip) <;> simp [-List.reduceReplicate, Nat.add_one_le_iff, -getElem?_pos, -getElem?_neg, List.getElem?_cons_zero, List.getElem?_cons_succ, iC, hlt, h64, h64', hwi, hw4, u64C, hlen, hm, hc])
      | (with_reducible refine DEv_cut _ _ _ _ _ _ _ _ _ _ _ _ (by kernel_rfl) ?_; simp [-List.reduceReplicate, Nat.add_one_le_iff, -getElem?_pos, -getElem?_neg, List.getElem?_cons_zero, List.getElem?_cons_succ, iC, hlt, h64, h64', hwi, hw4, u64C, hlen, hm])
      | ((with_reducible refine hother _ _ rfl ?_); simp only [inBlockA, thenA, noGotoA, Nat.reduceEqDiff, if_false, if_true, ↓reduceIte])
      | ((with_reducible refine hother2 _ _ rfl ?_); simp only [inBlockA, thenA, noGotoA, Nat.reduceEqDiff, if_false, if_true, ↓reduceIte])
      | ((with_reducible refine hother3 _ _ rfl ?_); simp only [inBlockA, thenA, noGotoA, Nat.reduceEqDiff, if_false, if_true, ↓reduceIte])
      | (with_reducible refine And.intro (by omega) ?_)
      | (with_reducible change postOf _ _ _ _ _; simp [-List.reduceReplicate, Nat.add_one_le_iff, -getElem?_pos, -getElem?_neg, List.getElem?_cons_zero, List.getElem?_cons_succ, iC, hlt, h64, h64', hwi, hw4, u64C, hlen, hm])
      | fail)
    refine next _ _ (()) (by omega) (by first | trivial | omega | assumption) (by simp [-List.reduceReplicate, keep, iC, ← hset]) (by simp [-List.reduceReplicate, iC, ← hset])
  · have h16 : i = 16 := by omega
    subst h16
    clear next hlen hwi
    repeat' (first 
      | with_reducible refine awp_scope ?_
      | with_reducible refine awp_seq ?_
      | with_reducible refine awp_block ?_
      | (with_reducible refine awp_label ?_; try simp only [thenA, inBlockA, noGotoA])
      | (with_reducible refine awp_skip ?_; try simp only [thenA, inBlockA, noGotoA])
      | (with_reducible refine awp_exit ?_; simp only [thenA, inBlockA, noGotoA, if_true, Nat.reduceEqDiff, if_false, ↓reduceIte])
      | (with_reducible refine awp_ret ?_; (try simp only [thenA, inBlockA, noGotoA]); (try simp [-List.reduceReplicate, Nat.add_one_le_iff, -getElem?_pos, -getElem?_neg, List.getElem?_cons_zero, List.getElem?_cons_succ, iC]))
      | (with_reducible refine awp_reg 61 hX [0, 2, 3, 4, 5, 6, 7, 9, 20] ?_; simp [-List.reduceReplicate, Nat.add_one_le_iff, -getElem?_pos, -getElem?_neg, List.getElem?_cons_zero, List.getElem?_cons_succ, iC])
      | (with_reducible refine awp_drw 61 hX [0, 2, 3, 4, 5, 6, 7, 9, 20] Tab.mixed (by kernel_rfl) ?_; simp [-List.reduceReplicate, Nat.add_one_le_iff, -getElem?_pos, -getElem?_neg, List.getElem?_cons_zero, List.getElem?_cons_succ, iC])
      | (with_reducible refine awp_if_b rfl (fun hc => ?_) (fun hc => ?_) <;> (try simp [-getElem?_pos, -getElem?_neg] at hc) <;> (try (exfalso; omega)))
      | (with_reducible refine GuardK_b (fun hc => ?_) (fun hc => ?_) <;> (try simp only [Bool.not_eq_true', Bool.not_eq_false', decide_eq_true_eq, decide_eq_false_iff_not] at hc) <;> (first | (exfalso; omega) | skip) <;> simp [-List.reduceReplicate, Nat.add_one_le_iff, -getElem?_pos, -getElem?_neg, List.getElem?_cons_zero, List.getElem?_cons_succ, iC, hc])
      | (with_reducible refine DGuard_b _ _ _ _ _ _ _ _ _ _ (fun hc => ?_) (fun hc => ?_) <;> (try simp only [Bool.not_eq_true', Bool.not_eq_false', decide_eq_true_eq, decide_eq_false_iff_not] at hc) <;> (first | (exfalso; omega) | skip) <;> simp [-List.reduceReplicate, Nat.add_one_le_iff, -getElem?_pos, -getElem?_neg, List.getElem?_cons_zero, List.getElem?_cons_succ, iC, hc])
      | (with_reducible refine DEv_cut _ _ _ _ _ _ _ _ _ _ _ _ (by kernel_rfl) ?_; simp [-List.reduceReplicate, Nat.add_one_le_iff, -getElem?_pos, -getElem?_neg, List.getElem?_cons_zero, List.getElem?_cons_succ, iC])
      | ((with_reducible refine hother _ _ rfl ?_); simp only [inBlockA, thenA, noGotoA, Nat.reduceEqDiff, if_false, if_true, ↓reduceIte])
      | ((with_reducible refine hother2 _ _ rfl ?_); simp only [inBlockA, thenA, noGotoA, Nat.reduceEqDiff, if_false, if_true, ↓reduceIte])
      | ((with_reducible refine hother3 _ _ rfl ?_); simp only [inBlockA, thenA, noGotoA, Nat.reduceEqDiff, if_false, if_true, ↓reduceIte])
      | (with_reducible refine And.intro (by omega) ?_)
      | (with_reducible change postOf _ _ _ _ _; simp [-List.reduceReplicate, Nat.add_one_le_iff, -getElem?_pos, -getElem?_neg, List.getElem?_cons_zero, List.getElem?_cons_succ, iC])
      | fail)
    refine awp_forU [2, 3, 5] (fun i (_u : Unit) => [(5, .c (iC (16 + i : Nat)))]) (fun i (_u : Unit) => [⟨40, 1, false, 0, up (List.replicate 64 (.v (.int .u32 0))), none⟩, ⟨40, 1, false, 0, up (spRow b (16 + i)), none⟩]) (fun i (_u : Unit) => True) (48) (()) (by first | trivial | (simp; done) | omega | (intros; simp at *; done)) (by simp [-List.reduceReplicate, keep, iC]) (by simp [-List.reduceReplicate, iC]) ?_
    rintro i _u Q1 hi hH next hother
    conv => arg 5; arg 1; simp only [List.cons_append, List.nil_append, keep, get, Nat.reduceEqDiff, if_true, if_false, ↓reduceIte]
    have hwi := wrap_in ((16 + i : Nat) + 1 : Int) (by omega)
    have hlen := spRow_len b (16 + i) (by omega)
    by_cases hlt : i < 48
    · have hset := spRow_set b (16 + i) (by omega)
      have hl := spTo_len b (16 + i)
      have hst : spStep b (spTo b (16 + i)) = (spTo b (16 + i)).getD (16 + i - 16) 0 + g0 ((spTo b (16 + i)).getD (16 + i - 15) 0) + (spTo b (16 + i)).getD (16 + i - 7) 0 + g1 ((spTo b (16 + i)).getD (16 + i - 2) 0) := by unfold spStep; rw [hl, if_neg (by omega)]
      have hn : 16 + (i + 1) = 16 + i + 1 := by omega
      rw [hst] at hset
      rw [hn] at next
      have hn0 : 16 ≤ 16 + i := by omega
      have hn1 : 16 + i < 64 := by omega
      generalize 16 + i = q at *
      have i1 := wrap_in ((q : Int) - 15) (by omega)
      have i2 := wrap_in ((q : Int) - 2) (by omega)
      have i3 := wrap_in ((q : Int) - 16) (by omega)
      have i4 := wrap_in ((q : Int) - 7) (by omega)
      have j1 : ((q : Int) - 15).toNat = q - 15 := by omega
      have j2 : ((q : Int) - 2).toNat = q - 2 := by omega
      have j3 : ((q : Int) - 16).toNat = q - 16 := by omega
      have j4 : ((q : Int) - 7).toNat = q - 7 := by omega
      have k1 : 15 ≤ (q : Int) := by omega
      have k2 : 2 ≤ (q : Int) := by omega
      have k3 : 16 ≤ (q : Int) := by omega
      have k4 : 7 ≤ (q : Int) := by omega
      have m1 : (q : Int) - 15 < 64 := by omega
      have m2 : (q : Int) - 2 < 64 := by omega
      have m3 : (q : Int) - 16 < 64 := by omega
      have m4 : (q : Int) - 7 < 64 := by omega
      have m5 : (q : Int) < 64 := by omega
      have n1 := spRow_get b q (q - 15) (by omega)
      have n2 := spRow_get b q (q - 2) (by omega)
      have n3 := spRow_get b q (q - 16) (by omega)
      have n4 := spRow_get b q (q - 7) (by omega)
      unfold g0 g1 at hset
      generalize (spTo b q).getD (q - 16) 0 = x16 at *
      generalize (spTo b q).getD (q - 15) 0 = x15 at *
      generalize (spTo b q).getD (q - 7) 0 = x7 at *
      generalize (spTo b q).getD (q - 2) 0 = x2 at *
      generalize spRow b q = r0 at *
      repeat' (first 
        | with_reducible refine awp_scope ?_
        | with_reducible refine awp_seq ?_
        | with_reducible refine awp_block ?_
        | (with_reducible refine awp_label ?_; try simp only [thenA, inBlockA, noGotoA])
        | (with_reducible refine awp_skip ?_; try simp only [thenA, inBlockA, noGotoA])
        | (with_reducible refine awp_exit ?_; simp only [thenA, inBlockA, noGotoA, if_true, Nat.reduceEqDiff, if_false, ↓reduceIte])
        | (with_reducible refine awp_ret ?_; (try simp only [thenA, inBlockA, noGotoA]); (try simp [-List.reduceReplicate, Nat.add_one_le_iff, -getElem?_pos, -getElem?_neg, List.getElem?_cons_zero, List.getElem?_cons_succ, iC, hn1, m5, hwi, i1, i2, i3, i4, j1, j2, j3, j4, k1, k2, k3, k4, m1, m2, m3, m4, n1, n2, n3, n4, hlen, wC, wI_shr, wI_shr', wI_xor, wI_add, fd8, fd1024, IntKind.bits]))
        | (with_reducible refine awp_reg 61 hX [0, 2, 3, 4, 5, 6, 7, 9, 20] ?_; simp [-List.reduceReplicate, Nat.add_one_le_iff, -getElem?_pos, -getElem?_neg, List.getElem?_cons_zero, List.getElem?_cons_succ, iC, hn1, m5, hwi, i1, i2, i3, i4, j1, j2, j3, j4, k1, k2, k3, k4, m1, m2, m3, m4, n1, n2, n3, n4, hlen, wC, wI_shr, wI_shr', wI_xor, wI_add, fd8, fd1024, IntKind.bits])
        | (with_reducible refine awp_drw 61 hX [0, 2, 3, 4, 5, 6, 7, 9, 20] Tab.mixed (by kernel_rfl) ?_; simp [-List.reduceReplicate, Nat.add_one_le_iff, -getElem?_pos, -getElem?_neg, List.getElem?_cons_zero, List.getElem?_cons_succ, iC, hn1, m5, hwi, i1, i2, i3, i4, j1, j2, j3, j4, k1, k2, k3, k4, m1, m2, m3, m4, n1, n2, n3, n4, hlen, wC, wI_shr, wI_shr', wI_xor, wI_add, fd8, fd1024, IntKind.bits])
        | ((with_reducible refine Den.at_ (f := 56) ?_); refine (turn_den _ 7 (by omega) (by omega) _).det ?_; try simp [-List.reduceReplicate, Nat.add_one_le_iff, -getElem?_pos, -getElem?_neg, List.getElem?_cons_zero, List.getElem?_cons_succ, iC, hn1, m5, hwi, i1, i2, i3, i4, j1, j2, j3, j4, k1, k2, k3, k4, m1, m2, m3, m4, n1, n2, n3, n4, hlen, wC, wI_shr, wI_shr', wI_xor, wI_add, fd8, fd1024, IntKind.bits])
        | ((with_reducible refine drawn_at (f := 56) ?_); refine ⟨_, _, turn_den _ 7 (by omega) (by omega) _, fun _ => rfl, ?_⟩; try simp [-List.reduceReplicate, Nat.add_one_le_iff, -getElem?_pos, -getElem?_neg, List.getElem?_cons_zero, List.getElem?_cons_succ, iC, hn1, m5, hwi, i1, i2, i3, i4, j1, j2, j3, j4, k1, k2, k3, k4, m1, m2, m3, m4, n1, n2, n3, n4, hlen, wC, wI_shr, wI_shr', wI_xor, wI_add, fd8, fd1024, IntKind.bits])
        | ((with_reducible refine Den.at_ (f := 56) ?_); refine (turn_den _ 18 (by omega) (by omega) _).det ?_; try simp [-List.reduceReplicate, Nat.add_one_le_iff, -getElem?_pos, -getElem?_neg, List.getElem?_cons_zero, List.getElem?_cons_succ, iC, hn1, m5, hwi, i1, i2, i3, i4, j1, j2, j3, j4, k1, k2, k3, k4, m1, m2, m3, m4, n1, n2, n3, n4, hlen, wC, wI_shr, wI_shr', wI_xor, wI_add, fd8, fd1024, IntKind.bits])
        | ((with_reducible refine drawn_at (f := 56) ?_); refine ⟨_, _, turn_den _ 18 (by omega) (by omega) _, fun _ => rfl, ?_⟩; try simp [-List.reduceReplicate, Nat.add_one_le_iff, -getElem?_pos, -getElem?_neg, List.getElem?_cons_zero, List.getElem?_cons_succ, iC, hn1, m5, hwi, i1, i2, i3, i4, j1, j2, j3, j4, k1, k2, k3, k4, m1, m2, m3, m4, n1, n2, n3, n4, hlen, wC, wI_shr, wI_shr', wI_xor, wI_add, fd8, fd1024, IntKind.bits])
        | ((with_reducible refine Den.at_ (f := 56) ?_); refine (turn_den _ 17 (by omega) (by omega) _).det ?_; try simp [-List.reduceReplicate, Nat.add_one_le_iff, -getElem?_pos, -getElem?_neg, List.getElem?_cons_zero, List.getElem?_cons_succ, iC, hn1, m5, hwi, i1, i2, i3, i4, j1, j2, j3, j4, k1, k2, k3, k4, m1, m2, m3, m4, n1, n2, n3, n4, hlen, wC, wI_shr, wI_shr', wI_xor, wI_add, fd8, fd1024, IntKind.bits])
        | ((with_reducible refine drawn_at (f := 56) ?_); refine ⟨_, _, turn_den _ 17 (by omega) (by omega) _, fun _ => rfl, ?_⟩; try simp [-List.reduceReplicate, Nat.add_one_le_iff, -getElem?_pos, -getElem?_neg, List.getElem?_cons_zero, List.getElem?_cons_succ, iC, hn1, m5, hwi, i1, i2, i3, i4, j1, j2, j3, j4, k1, k2, k3, k4, m1, m2, m3, m4, n1, n2, n3, n4, hlen, wC, wI_shr, wI_shr', wI_xor, wI_add, fd8, fd1024, IntKind.bits])
        | ((with_reducible refine Den.at_ (f := 56) ?_); refine (turn_den _ 19 (by omega) (by omega) _).det ?_; try simp [-List.reduceReplicate, Nat.add_one_le_iff, -getElem?_pos, -getElem?_neg, List.getElem?_cons_zero, List.getElem?_cons_succ, iC, hn1, m5, hwi, i1, i2, i3, i4, j1, j2, j3, j4, k1, k2, k3, k4, m1, m2, m3, m4, n1, n2, n3, n4, hlen, wC, wI_shr, wI_shr', wI_xor, wI_add, fd8, fd1024, IntKind.bits])
        | ((with_reducible refine drawn_at (f := 56) ?_); refine ⟨_, _, turn_den _ 19 (by omega) (by omega) _, fun _ => rfl, ?_⟩; try simp [-List.reduceReplicate, Nat.add_one_le_iff, -getElem?_pos, -getElem?_neg, List.getElem?_cons_zero, List.getElem?_cons_succ, iC, hn1, m5, hwi, i1, i2, i3, i4, j1, j2, j3, j4, k1, k2, k3, k4, m1, m2, m3, m4, n1, n2, n3, n4, hlen, wC, wI_shr, wI_shr', wI_xor, wI_add, fd8, fd1024, IntKind.bits])
        | (with_reducible refine awp_if_b rfl (fun hc => ?_) (fun hc => ?_) <;> (try simp [-getElem?_pos, -getElem?_neg] at hc) <;> (try (exfalso; omega)))
        | (with_reducible refine GuardK_b (fun hc => ?_) (fun hc => ?_) <;> (try simp only [Bool.not_eq_true', Bool.not_eq_false', decide_eq_true_eq, decide_eq_false_iff_not] at hc) <;> (first | (exfalso; omega) | skip) <;> simp [-List.reduceReplicate, Nat.add_one_le_iff, -getElem?_pos, -getElem?_neg, List.getElem?_cons_zero, List.getElem?_cons_succ, iC, hn1, m5, hwi, i1, i2, i3, i4, j1, j2, j3, j4, k1, k2, k3, k4, m1, m2, m3, m4, n1, n2, n3, n4, hlen, wC, wI_shr, wI_shr', wI_xor, wI_add, fd8, fd1024, IntKind.bits, hc])
        | (with_reducible refine DGuard_b _ _ _ _ _ _ _ _ _ _ (fun hc => ?_) (fun hc => ?_) <;> (try simp only [Bool.not_eq_true', Bool.not_eq_false', decide_eq_true_eq, decide_eq_false_iff_not] at hc) <;> (first | (exfalso; omega) | skip) <;> simp [-List.reduceReplicate, Nat.add_one_le_iff, -getElem?_pos, -getElem?_neg, List.getElem?_cons_zero, List.getElem?_cons_succ, iC, hn1, m5, hwi, i1, i2, i3, i4, j1, j2, j3, j4, k1, k2, k3, k4, m1, m2, m3, m4, n1, n2, n3, n4, hlen, wC, wI_shr, wI_shr', wI_xor, wI_add, fd8, fd1024, IntKind.bits, hc])
        | (with_reducible refine DEv_cut _ _ _ _ _ _ _ _ _ _ _ _ (by kernel_rfl) ?_; simp [-List.reduceReplicate, Nat.add_one_le_iff, -getElem?_pos, -getElem?_neg, List.getElem?_cons_zero, List.getElem?_cons_succ, iC, hn1, m5, hwi, i1, i2, i3, i4, j1, j2, j3, j4, k1, k2, k3, k4, m1, m2, m3, m4, n1, n2, n3, n4, hlen, wC, wI_shr, wI_shr', wI_xor, wI_add, fd8, fd1024, IntKind.bits])
        | ((with_reducible refine hother _ _ rfl ?_); simp only [inBlockA, thenA, noGotoA, Nat.reduceEqDiff, if_false, if_true, ↓reduceIte])
        | ((with_reducible refine hother2 _ _ rfl ?_); simp only [inBlockA, thenA, noGotoA, Nat.reduceEqDiff, if_false, if_true, ↓reduceIte])
        | ((with_reducible refine hother3 _ _ rfl ?_); simp only [inBlockA, thenA, noGotoA, Nat.reduceEqDiff, if_false, if_true, ↓reduceIte])
        | (with_reducible refine And.intro (by omega) ?_)
        | (with_reducible change postOf _ _ _ _ _; simp [-List.reduceReplicate, Nat.add_one_le_iff, -getElem?_pos, -getElem?_neg, List.getElem?_cons_zero, List.getElem?_cons_succ, iC, hn1, m5, hwi, i1, i2, i3, i4, j1, j2, j3, j4, k1, k2, k3, k4, m1, m2, m3, m4, n1, n2, n3, n4, hlen, wC, wI_shr, wI_shr', wI_xor, wI_add, fd8, fd1024, IntKind.bits])
        | fail)
      refine next _ _ (()) (by omega) (by first | trivial | omega | assumption) (by simp [-List.reduceReplicate, keep, iC, ← hset, wC]) (by simp [-List.reduceReplicate, iC, ← hset, wC])
    · have h48 : i = 48 := by omega
      subst h48
      have hfin : spRow b (16 + 48) = (spread b).map wC := by unfold spRow spread; simp
      rw [hfin] at hlen
      have htk : ((spread b).map wC).take 64 = (spread b).map wC := List.take_of_length_le (by omega)
      rw [hfin]
      repeat' (first 
        | with_reducible refine awp_scope ?_
        | with_reducible refine awp_seq ?_
        | with_reducible refine awp_block ?_
        | (with_reducible refine awp_label ?_; try simp only [thenA, inBlockA, noGotoA])
        | (with_reducible refine awp_skip ?_; try simp only [thenA, inBlockA, noGotoA])
        | (with_reducible refine awp_exit ?_; simp only [thenA, inBlockA, noGotoA, if_true, Nat.reduceEqDiff, if_false, ↓reduceIte])
        | (with_reducible refine awp_ret ?_; (try simp only [thenA, inBlockA, noGotoA]); (try simp [-List.reduceReplicate, Nat.add_one_le_iff, -getElem?_pos, -getElem?_neg, List.getElem?_cons_zero, List.getElem?_cons_succ, iC, hlen, htk]))
        | (with_reducible refine awp_reg 61 hX [0, 2, 3, 4, 5, 6, 7, 9, 20] ?_; simp [-List.reduceReplicate, Nat.add_one_le_iff, -getElem?_pos, -getElem?_neg, List.getElem?_cons_zero, List.getElem?_cons_succ, iC, hlen, htk])
        | (with_reducible refine awp_drw 61 hX [0, 2, 3, 4, 5, 6, 7, 9, 20] Tab.mixed (by kernel_rfl) ?_; simp [-List.reduceReplicate, Nat.add_one_le_iff, -getElem?_pos, -getElem?_neg, List.getElem?_cons_zero, List.getElem?_cons_succ, iC, hlen, htk])
        | (with_reducible refine awp_if_b rfl (fun hc => ?_) (fun hc => ?_) <;> (try simp [-getElem?_pos, -getElem?_neg] at hc) <;> (try (exfalso; omega)))
        | (with_reducible refine GuardK_b (fun hc => ?_) (fun hc => ?_) <;> (try simp only [Bool.not_eq_true', Bool.not_eq_false', decide_eq_true_eq, decide_eq_false_iff_not] at hc) <;> (first | (exfalso; omega) | skip) <;> simp [-List.reduceReplicate, Nat.add_one_le_iff, -getElem?_pos, -getElem?_neg, List.getElem?_cons_zero, List.getElem?_cons_succ, iC, hlen, htk, hc])
        | (with_reducible refine DGuard_b _ _ _ _ _ _ _ _ _ _ (fun hc => ?_) (fun hc => ?_) <;> (try simp only [Bool.not_eq_true', Bool.not_eq_false', decide_eq_true_eq, decide_eq_false_iff_not] at hc) <;> (first | (exfalso; omega) | skip) <;> simp [-List.reduceReplicate, Nat.add_one_le_iff, -getElem?_pos, -getElem?_neg, List.getElem?_cons_zero, List.getElem?_cons_succ, iC, hlen, htk, hc])
        | (with_reducible refine DEv_cut _ _ _ _ _ _ _ _ _ _ _ _ (by kernel_rfl) ?_; simp [-List.reduceReplicate, Nat.add_one_le_iff, -getElem?_pos, -getElem?_neg, List.getElem?_cons_zero, List.getElem?_cons_succ, iC, hlen, htk])
        | ((with_reducible refine hother _ _ rfl ?_); simp only [inBlockA, thenA, noGotoA, Nat.reduceEqDiff, if_false, if_true, ↓reduceIte])
        | ((with_reducible refine hother2 _ _ rfl ?_); simp only [inBlockA, thenA, noGotoA, Nat.reduceEqDiff, if_false, if_true, ↓reduceIte])
        | ((with_reducible refine hother3 _ _ rfl ?_); simp only [inBlockA, thenA, noGotoA, Nat.reduceEqDiff, if_false, if_true, ↓reduceIte])
        | (with_reducible refine And.intro (by omega) ?_)
        | (with_reducible change postOf _ _ _ _ _; simp [-List.reduceReplicate, Nat.add_one_le_iff, -getElem?_pos, -getElem?_neg, List.getElem?_cons_zero, List.getElem?_cons_succ, iC, hlen, htk])
        | fail)
end Go.Av
