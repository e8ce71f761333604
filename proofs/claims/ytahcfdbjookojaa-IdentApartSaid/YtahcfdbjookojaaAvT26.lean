import Derived.Test.YtahcfdbjookojaaAvT25
set_option linter.unusedVariables false
set_option linter.unusedSimpArgs false
set_option maxRecDepth 100000
set_option maxHeartbeats 4000000
namespace Go.Av
open Go Go.Proofs Go.Proofs.Ytahcfdbjookojaa Go.RowKit
/-! ### the document's sha -/
theorem zerosB_succ (i : Nat) : zerosB i ++ [0] = zerosB (i + 1) := by unfold zerosB; rw [List.replicate_succ']
theorem pad02_den (n : Nat) (hn : n < 18446744073709551616) : DenV Try.prog 29 [.c (u64C n)] (.c (.v (.string (bsS (padL n))))) := by
  refine Den.frame rfl rfl ?_
  refine den_of Try.func29 rfl rfl (by simp [Try.ntmps29]) (fun X hX hO => ?_)
  rw [Try.ntmps29] at hX
  simp only [Try.results29]
  have hp : padL n = 128 :: (zerosB ((119 - n % 64) % 64) ++ putN (8 * n % 18446744073709551616) 8) := rfl
  have h4 : IntKind.u64.wrap ((n : Int) * 8) = ((8 * n % 18446744073709551616 : Nat) : Int) := (modU64 _).trans (by omega)
  have hm8 : 8 * n % 18446744073709551616 < 18446744073709551616 := Nat.mod_lt _ (by omega)
  have hg : (119 - n % 64) % 64 < 64 := Nat.mod_lt _ (by omega)
  have ha : n % 64 < 64 := Nat.mod_lt _ (by omega)
  have h0 : ((n : Int)).tmod 64 = ((n % 64 : Nat) : Int) := rfl
  have hgap : ∀ i, i ≤ (119 - n % 64) % 64 → (i < (119 - n % 64) % 64 ↔ (n % 64 + (1 + i) + 8) % 64 ≠ 0) := fun i hi => by omega
  generalize n % 64 = a at *
  generalize (119 - a) % 64 = gap at *
  generalize 8 * n % 18446744073709551616 = m8 at *
  have z1 : bsS [UInt8.ofNat (128 % 256 : Int).toNat] = bsS (128 :: zerosB 0) := rfl
  have z2 : bsS [UInt8.ofNat (0 % 256 : Int).toNat] = bsS [0] := rfl
  repeat' (first 
    | with_reducible refine awp_scope ?_
    | with_reducible refine awp_seq ?_
    | with_reducible refine awp_block ?_
    | (with_reducible refine awp_label ?_; try simp only [thenA, inBlockA, noGotoA])
    | (with_reducible refine awp_skip ?_; try simp only [thenA, inBlockA, noGotoA])
    | (with_reducible refine awp_exit ?_; simp only [thenA, inBlockA, noGotoA, if_true, Nat.reduceEqDiff, if_false, ↓reduceIte])
    | (with_reducible refine awp_ret ?_; (try simp only [thenA, inBlockA, noGotoA]); (try simp [-List.reduceReplicate, Nat.add_one_le_iff, -getElem?_pos, -getElem?_neg, List.getElem?_cons_zero, List.getElem?_cons_succ, u64C, z1]))
    | (with_reducible refine awp_reg 22 hX [0, 2, 3, 13] ?_; simp [-List.reduceReplicate, Nat.add_one_le_iff, -getElem?_pos, -getElem?_neg, List.getElem?_cons_zero, List.getElem?_cons_succ, u64C, z1])
    | (with_reducible refine awp_drw 22 hX [0, 2, 3, 13] Tab.mixed (by kernel_rfl) ?_; simp [-List.reduceReplicate, Nat.add_one_le_iff, -getElem?_pos, -getElem?_neg, List.getElem?_cons_zero, List.getElem?_cons_succ, u64C, z1])
    | ((with_reducible refine Den.at_ (f := 60) ?_); refine (byte01_den 128 _).det ?_; try simp [-List.reduceReplicate, Nat.add_one_le_iff, -getElem?_pos, -getElem?_neg, List.getElem?_cons_zero, List.getElem?_cons_succ, u64C, z1])
    | ((with_reducible refine drawn_at (f := 60) ?_); refine ⟨_, _, byte01_den 128 _, fun _ => rfl, ?_⟩; try simp [-List.reduceReplicate, Nat.add_one_le_iff, -getElem?_pos, -getElem?_neg, List.getElem?_cons_zero, List.getElem?_cons_succ, u64C, z1])
    | (with_reducible refine awp_if_b rfl (fun hc => ?_) (fun hc => ?_) <;> (try simp [-getElem?_pos, -getElem?_neg] at hc) <;> (try (exfalso; omega)))
    | (with_reducible refine GuardK_b (fun hc => ?_) (fun hc => ?_) <;> (try simp only [Bool.not_eq_true', Bool.not_eq_false', decide_eq_true_eq, decide_eq_false_iff_not] at hc) <;> (first | (exfalso; omega) | skip) <;> simp [-List.reduceReplicate, Nat.add_one_le_iff, -getElem?_pos, -getElem?_neg, List.getElem?_cons_zero, List.getElem?_cons_succ, u64C, z1, hc])
    | (with_reducible refine DGuard_b _ _ _ _ _ _ _ _ _ _ (fun hc => ?_) (fun hc => ?_) <;> (try simp only [Bool.not_eq_true', Bool.not_eq_false', decide_eq_true_eq, decide_eq_false_iff_not] at hc) <;> (first | (exfalso; omega) | skip) <;> simp [-List.reduceReplicate, Nat.add_one_le_iff, -getElem?_pos, -getElem?_neg, List.getElem?_cons_zero, List.getElem?_cons_succ, u64C, z1, hc])
    | (with_reducible refine DEv_cut _ _ _ _ _ _ _ _ _ _ _ _ (by kernel_rfl) ?_; simp [-List.reduceReplicate, Nat.add_one_le_iff, -getElem?_pos, -getElem?_neg, List.getElem?_cons_zero, List.getElem?_cons_succ, u64C, z1])
    | ((with_reducible refine hother _ _ rfl ?_); simp only [inBlockA, thenA, noGotoA, Nat.reduceEqDiff, if_false, if_true, ↓reduceIte])
    | ((with_reducible refine hother2 _ _ rfl ?_); simp only [inBlockA, thenA, noGotoA, Nat.reduceEqDiff, if_false, if_true, ↓reduceIte])
    | ((with_reducible refine hother3 _ _ rfl ?_); simp only [inBlockA, thenA, noGotoA, Nat.reduceEqDiff, if_false, if_true, ↓reduceIte])
    | (with_reducible refine And.intro (by omega) ?_)
    | (with_reducible change postOf _ _ _ _ _; simp [-List.reduceReplicate, Nat.add_one_le_iff, -getElem?_pos, -getElem?_neg, List.getElem?_cons_zero, List.getElem?_cons_succ, u64C, z1])
    | fail)
  refine awp_forU [0, 3] (fun i (_u : Unit) => [(3, .c (.v (.string (bsS (128 :: zerosB i)))))]) (fun i (_u : Unit) => []) (fun i (_u : Unit) => True) (gap) (()) (by first | trivial | (simp; done) | omega | (intros; simp at *; done)) (by simp [-List.reduceReplicate, keep, z1, zerosB]) (by simp [-List.reduceReplicate, z1, zerosB]) ?_
  rintro i _u Q1 hi hH next hother
  conv => arg 5; arg 1; simp only [List.cons_append, List.nil_append, keep, get, Nat.reduceEqDiff, if_true, if_false, ↓reduceIte]
  have l1 : (zerosB i).length = i := by simp [zerosB]
  have w1 := wrapU64 ((i : Int) + 1) (by omega)
  have w2 := wrapU64 ((a : Int) + ((i : Int) + 1)) (by omega)
  have w3 := wrapU64 ((a : Int) + ((i : Int) + 1) + 8) (by omega)
  have hiff := hgap i hi
  by_cases hlt : i < gap
  · have hne : ¬ (((a : Int) + ((i : Int) + 1) + 8)).tmod 64 = 0 := by
      have := hiff.1 hlt
      rw [show ((a : Int) + ((i : Int) + 1) + 8).tmod 64 = (((a + (1 + i) + 8) % 64 : Nat) : Int) by rw [show (a : Int) + ((i : Int) + 1) + 8 = ((a + (1 + i) + 8 : Nat) : Int) by omega]; rfl]
      omega
    have hz := zerosB_succ i
    have c1 : i + 1 < 9223372036854775807 := by omega
    repeat' (first 
      | with_reducible refine awp_scope ?_
      | with_reducible refine awp_seq ?_
      | with_reducible refine awp_block ?_
      | (with_reducible refine awp_label ?_; try simp only [thenA, inBlockA, noGotoA])
      | (with_reducible refine awp_skip ?_; try simp only [thenA, inBlockA, noGotoA])
      | (with_reducible refine awp_exit ?_; simp only [thenA, inBlockA, noGotoA, if_true, Nat.reduceEqDiff, if_false, ↓reduceIte])
      | (with_reducible refine awp_ret ?_; (try simp only [thenA, inBlockA, noGotoA]); (try simp [-List.reduceReplicate, Nat.add_one_le_iff, -getElem?_pos, -getElem?_neg, List.getElem?_cons_zero, List.getElem?_cons_succ, u64C, h0, l1, w1, w2, w3, hne, z2, bs_append, bs_size, hz, c1]))
      | (with_reducible refine awp_reg 22 hX [0, 2, 3, 13] ?_; simp [-List.reduceReplicate, Nat.add_one_le_iff, -getElem?_pos, -getElem?_neg, List.getElem?_cons_zero, List.getElem?_cons_succ, u64C, h0, l1, w1, w2, w3, hne, z2, bs_append, bs_size, hz, c1])
      | (with_reducible refine awp_drw 22 hX [0, 2, 3, 13] Tab.mixed (by kernel_rfl) ?_; simp [-List.reduceReplicate, Nat.add_one_le_iff, -getElem?_pos, -getElem?_neg, List.getElem?_cons_zero, List.getElem?_cons_succ, u64C, h0, l1, w1, w2, w3, hne, z2, bs_append, bs_size, hz, c1])
      | ((with_reducible refine Den.at_ (f := 60) ?_); refine (byte01_den 0 _).det ?_; try simp [-List.reduceReplicate, Nat.add_one_le_iff, -getElem?_pos, -getElem?_neg, List.getElem?_cons_zero, List.getElem?_cons_succ, u64C, h0, l1, w1, w2, w3, hne, z2, bs_append, bs_size, hz, c1])
      | ((with_reducible refine drawn_at (f := 60) ?_); refine ⟨_, _, byte01_den 0 _, fun _ => rfl, ?_⟩; try simp [-List.reduceReplicate, Nat.add_one_le_iff, -getElem?_pos, -getElem?_neg, List.getElem?_cons_zero, List.getElem?_cons_succ, u64C, h0, l1, w1, w2, w3, hne, z2, bs_append, bs_size, hz, c1])
      | (with_reducible refine awp_if_b rfl (fun hc => ?_) (fun hc => ?_) <;> (try simp [-getElem?_pos, -getElem?_neg] at hc) <;> (try (exfalso; omega)))
      | (with_reducible refine GuardK_b (fun hc => ?_) (fun hc => ?_) <;> (try simp only [Bool.not_eq_true', Bool.not_eq_false', decide_eq_true_eq, decide_eq_false_iff_not] at hc) <;> (first | (exfalso; omega) | skip) <;> simp [-List.reduceReplicate, Nat.add_one_le_iff, -getElem?_pos, -getElem?_neg, List.getElem?_cons_zero, List.getElem?_cons_succ, u64C, h0, l1, w1, w2, w3, hne, z2, bs_append, bs_size, hz, c1, hc])
      | (with_reducible refine DGuard_b _ _ _ _ _ _ _ _ _ _ (fun hc => ?_) (fun hc => ?_) <;> (try simp only [Bool.not_eq_true', Bool.not_eq_false', decide_eq_true_eq, decide_eq_false_iff_not] at hc) <;> (first | (exfalso; omega) | skip) <;> simp [-List.reduceReplicate, Nat.add_one_le_iff, -getElem?_pos, -getElem?_neg, List.getElem?_cons_zero, List.getElem?_cons_succ, u64C, h0, l1, w1, w2, w3, hne, z2, bs_append, bs_size, hz, c1, hc])
      | (with_reducible refine DEv_cut _ _ _ _ _ _ _ _ _ _ _ _ (by kernel_rfl) ?_; simp [-List.reduceReplicate, Nat.add_one_le_iff, -getElem?_pos, -getElem?_neg, List.getElem?_cons_zero, List.getElem?_cons_succ, u64C, h0, l1, w1, w2, w3, hne, z2, bs_append, bs_size, hz, c1])
      | ((with_reducible refine hother _ _ rfl ?_); simp only [inBlockA, thenA, noGotoA, Nat.reduceEqDiff, if_false, if_true, ↓reduceIte])
      | ((with_reducible refine hother2 _ _ rfl ?_); simp only [inBlockA, thenA, noGotoA, Nat.reduceEqDiff, if_false, if_true, ↓reduceIte])
      | ((with_reducible refine hother3 _ _ rfl ?_); simp only [inBlockA, thenA, noGotoA, Nat.reduceEqDiff, if_false, if_true, ↓reduceIte])
      | (with_reducible refine And.intro (by omega) ?_)
      | (with_reducible change postOf _ _ _ _ _; simp [-List.reduceReplicate, Nat.add_one_le_iff, -getElem?_pos, -getElem?_neg, List.getElem?_cons_zero, List.getElem?_cons_succ, u64C, h0, l1, w1, w2, w3, hne, z2, bs_append, bs_size, hz, c1])
      | fail)
    refine next _ _ (()) (by omega) (by first | trivial | omega | assumption) (by simp [-List.reduceReplicate, keep, u64C]) (by simp [-List.reduceReplicate, u64C])
  · obtain rfl : i = gap := by omega
    have he : (((a : Int) + ((i : Int) + 1) + 8)).tmod 64 = 0 := by
      have : (a + (1 + i) + 8) % 64 = 0 := by
        by_cases h : (a + (1 + i) + 8) % 64 = 0
        · exact h
        · exact absurd (hiff.2 h) hlt
      rw [show ((a : Int) + ((i : Int) + 1) + 8).tmod 64 = (((a + (1 + i) + 8) % 64 : Nat) : Int) by rw [show (a : Int) + ((i : Int) + 1) + 8 = ((a + (1 + i) + 8 : Nat) : Int) by omega]; rfl]
      omega
    have l2 := putN_len m8 8
    have c2 : i + 1 + 7 < 9223372036854775807 := by omega
    repeat' (first 
      | with_reducible refine awp_scope ?_
      | with_reducible refine awp_seq ?_
      | with_reducible refine awp_block ?_
      | (with_reducible refine awp_label ?_; try simp only [thenA, inBlockA, noGotoA])
      | (with_reducible refine awp_skip ?_; try simp only [thenA, inBlockA, noGotoA])
      | (with_reducible refine awp_exit ?_; simp only [thenA, inBlockA, noGotoA, if_true, Nat.reduceEqDiff, if_false, ↓reduceIte])
      | (with_reducible refine awp_ret ?_; (try simp only [thenA, inBlockA, noGotoA]); (try simp [-List.reduceReplicate, Nat.add_one_le_iff, -getElem?_pos, -getElem?_neg, List.getElem?_cons_zero, List.getElem?_cons_succ, u64C, h0, l1, l2, w1, w2, w3, he, h4, bs_append, bs_size, c2, hp]))
      | (with_reducible refine awp_reg 22 hX [0, 2, 3, 13] ?_; simp [-List.reduceReplicate, Nat.add_one_le_iff, -getElem?_pos, -getElem?_neg, List.getElem?_cons_zero, List.getElem?_cons_succ, u64C, h0, l1, l2, w1, w2, w3, he, h4, bs_append, bs_size, c2, hp])
      | (with_reducible refine awp_drw 22 hX [0, 2, 3, 13] Tab.mixed (by kernel_rfl) ?_; simp [-List.reduceReplicate, Nat.add_one_le_iff, -getElem?_pos, -getElem?_neg, List.getElem?_cons_zero, List.getElem?_cons_succ, u64C, h0, l1, l2, w1, w2, w3, he, h4, bs_append, bs_size, c2, hp])
      | ((with_reducible refine Den.at_ (f := 52) ?_); refine (put01_den m8 8 hm8 (by omega) _).det ?_; try simp [-List.reduceReplicate, Nat.add_one_le_iff, -getElem?_pos, -getElem?_neg, List.getElem?_cons_zero, List.getElem?_cons_succ, u64C, h0, l1, l2, w1, w2, w3, he, h4, bs_append, bs_size, c2, hp])
      | ((with_reducible refine drawn_at (f := 52) ?_); refine ⟨_, _, put01_den m8 8 hm8 (by omega) _, fun _ => rfl, ?_⟩; try simp [-List.reduceReplicate, Nat.add_one_le_iff, -getElem?_pos, -getElem?_neg, List.getElem?_cons_zero, List.getElem?_cons_succ, u64C, h0, l1, l2, w1, w2, w3, he, h4, bs_append, bs_size, c2, hp])
      | (with_reducible refine awp_if_b rfl (fun hc => ?_) (fun hc => ?_) <;> (try simp [-getElem?_pos, -getElem?_neg] at hc) <;> (try (exfalso; omega)))
      | (with_reducible refine GuardK_b (fun hc => ?_) (fun hc => ?_) <;> (try simp only [Bool.not_eq_true', Bool.not_eq_false', decide_eq_true_eq, decide_eq_false_iff_not] at hc) <;> (first | (exfalso; omega) | skip) <;> simp [-List.reduceReplicate, Nat.add_one_le_iff, -getElem?_pos, -getElem?_neg, List.getElem?_cons_zero, List.getElem?_cons_succ, u64C, h0, l1, l2, w1, w2, w3, he, h4, bs_append, bs_size, c2, hp, hc])
      | (with_reducible refine DGuard_b _ _ _ _ _ _ _ _ _ _ (fun hc => ?_) (fun hc => ?_) <;> (try simp only [Bool.not_eq_true', Bool.not_eq_false', decide_eq_true_eq, decide_eq_false_iff_not] at hc) <;> (first | (exfalso; omega) | skip) <;> simp [-List.reduceReplicate, Nat.add_one_le_iff, -getElem?_pos, -getElem?_neg, List.getElem?_cons_zero, List.getElem?_cons_succ, u64C, h0, l1, l2, w1, w2, w3, he, h4, bs_append, bs_size, c2, hp, hc])
      | (with_reducible refine DEv_cut _ _ _ _ _ _ _ _ _ _ _ _ (by kernel_rfl) ?_; simp [-List.reduceReplicate, Nat.add_one_le_iff, -getElem?_pos, -getElem?_neg, List.getElem?_cons_zero, List.getElem?_cons_succ, u64C, h0, l1, l2, w1, w2, w3, he, h4, bs_append, bs_size, c2, hp])
      | ((with_reducible refine hother _ _ rfl ?_); simp only [inBlockA, thenA, noGotoA, Nat.reduceEqDiff, if_false, if_true, ↓reduceIte])
      | ((with_reducible refine hother2 _ _ rfl ?_); simp only [inBlockA, thenA, noGotoA, Nat.reduceEqDiff, if_false, if_true, ↓reduceIte])
      | ((with_reducible refine hother3 _ _ rfl ?_); simp only [inBlockA, thenA, noGotoA, Nat.reduceEqDiff, if_false, if_true, ↓reduceIte])
      | (with_reducible refine And.intro (by omega) ?_)
      | (with_reducible change postOf _ _ _ _ _; simp [-List.reduceReplicate, Nat.add_one_le_iff, -getElem?_pos, -getElem?_neg, List.getElem?_cons_zero, List.getElem?_cons_succ, u64C, h0, l1, l2, w1, w2, w3, he, h4, bs_append, bs_size, c2, hp])
      | fail)
/-- The sum as it is filled, byte by byte. -/
def outTo2 (l : List W) (j : Nat) (p : List UInt8) (q : Nat) : List C := (wBytes (l.take j) ++ p.take q).map bC8 ++ List.replicate (32 - 4 * j - q) (bC8 0)
theorem outTo2_zero (l : List W) (j : Nat) (p : List UInt8) : outTo2 l j p 0 = outTo l j := by simp [outTo2, outTo]
theorem outTo2_len (l : List W) (j q : Nat) (p : List UInt8) (h : j < 8) (hq : q ≤ 4) (hp : p.length = 4) (hl : l.length = 8) : (outTo2 l j p q).length = 32 := by
  simp [outTo2, wBytes_len, hl, hp]; omega
theorem outTo2_set (l : List W) (j q : Nat) (p : List UInt8) (c : UInt8) (h : j < 8) (hq : q < 4) (hp : p.length = 4) (hl : l.length = 8) (hc : p[q]? = some c) : (outTo2 l j p q).set (4 * j + q) (bC8 c) = outTo2 l j p (q + 1) := by
  have hw : (wBytes (l.take j)).length = 4 * j := by rw [wBytes_len, List.length_take]; omega
  unfold outTo2
  rw [show 32 - 4 * j - q = (32 - 4 * j - (q + 1)) + 1 by omega, List.replicate_succ, List.set_append_right _ _ (by simp [hw, hp]; omega), List.length_map, List.length_append, hw, List.length_take, hp, show 4 * j + q - (4 * j + min q 4) = 0 by omega, List.take_add_one, hc]
  simp
set_option maxHeartbeats 2000000 in
theorem sha02_den (b : ByteArray) (hb : b.size ≤ 800000) : DenV Try.prog 20 [.c (.v (.string b))] (hashM (shaL b)) := by
  refine Den.frame rfl (lt_hash _ _) ?_
  obtain ⟨out, hout⟩ : ∃ out, out = shaL b := ⟨_, rfl⟩
  rw [← hout]
  refine den_of Try.func20 rfl rfl (by simp [Try.ntmps20]) (fun X hX hO => ?_)
  rw [Try.ntmps20] at hX
  simp only [Try.results20]
  have hpl : (padL b.size).length = 9 + (119 - b.size % 64) % 64 := by simp [padL, zerosB, putN_len]; omega
  have hts : (b ++ bsS (padL b.size)).size = b.size + (9 + (119 - b.size % 64) % 64) := by rw [ByteArray.size_append, bs_size, hpl]
  have h1 := wrapU64 (b.size : Int) (by omega)
  have h2 : b.size + (9 + (119 - b.size % 64) % 64) ≤ 9223372036854775807 := by omega
  have hsz := bs_size (padL b.size)
  obtain ⟨t, ht⟩ : ∃ t, t = b ++ bsS (padL b.size) := ⟨_, rfl⟩
  unfold shaL at hout
  rw [← ht] at hout hts
  have hk64 : t.size = 64 * (t.size / 64) := by omega
  generalize hk : t.size / 64 = k at *
  obtain ⟨f0, hf0⟩ : ∃ f0, f0 = firstS := ⟨_, rfl⟩
  rw [← hf0] at hout
  have hfd := first02_den
  rw [← hf0] at hfd
  repeat' (first 
    | with_reducible refine awp_scope ?_
    | with_reducible refine awp_seq ?_
    | with_reducible refine awp_block ?_
    | (with_reducible refine awp_label ?_; try simp only [thenA, inBlockA, noGotoA])
    | (with_reducible refine awp_skip ?_; try simp only [thenA, inBlockA, noGotoA])
    | (with_reducible refine awp_exit ?_; simp only [thenA, inBlockA, noGotoA, if_true, Nat.reduceEqDiff, if_false, ↓reduceIte])
    | (with_reducible refine awp_ret ?_; (try simp only [thenA, inBlockA, noGotoA]); (try simp [-List.reduceReplicate, Nat.add_one_le_iff, -getElem?_pos, -getElem?_neg, List.getElem?_cons_zero, List.getElem?_cons_succ, u64C, s8M, S8.l, h1, hsz, hpl, h2, ← ht]))
    | (with_reducible refine awp_reg 51 hX [0, 2, 3, 4, 5, 6, 7, 8, 19, 30, 39] ?_; simp [-List.reduceReplicate, Nat.add_one_le_iff, -getElem?_pos, -getElem?_neg, List.getElem?_cons_zero, List.getElem?_cons_succ, u64C, s8M, S8.l, h1, hsz, hpl, h2, ← ht])
    | (with_reducible refine awp_drw 51 hX [0, 2, 3, 4, 5, 6, 7, 8, 19, 30, 39] Tab.mixed (by kernel_rfl) ?_; simp [-List.reduceReplicate, Nat.add_one_le_iff, -getElem?_pos, -getElem?_neg, List.getElem?_cons_zero, List.getElem?_cons_succ, u64C, s8M, S8.l, h1, hsz, hpl, h2, ← ht])
    | (refine (hfd _).det ?_; try simp [-List.reduceReplicate, Nat.add_one_le_iff, -getElem?_pos, -getElem?_neg, List.getElem?_cons_zero, List.getElem?_cons_succ, u64C, s8M, S8.l, h1, hsz, hpl, h2, ← ht])
    | (refine ⟨_, _, hfd _, fun _ => rfl, ?_⟩; try simp [-List.reduceReplicate, Nat.add_one_le_iff, -getElem?_pos, -getElem?_neg, List.getElem?_cons_zero, List.getElem?_cons_succ, u64C, s8M, S8.l, h1, hsz, hpl, h2, ← ht])
    | ((with_reducible refine Den.at_ (f := 29) ?_); refine (pad02_den b.size (by omega) _).det ?_; try simp [-List.reduceReplicate, Nat.add_one_le_iff, -getElem?_pos, -getElem?_neg, List.getElem?_cons_zero, List.getElem?_cons_succ, u64C, s8M, S8.l, h1, hsz, hpl, h2, ← ht])
    | ((with_reducible refine drawn_at (f := 29) ?_); refine ⟨_, _, pad02_den b.size (by omega) _, fun _ => rfl, ?_⟩; try simp [-List.reduceReplicate, Nat.add_one_le_iff, -getElem?_pos, -getElem?_neg, List.getElem?_cons_zero, List.getElem?_cons_succ, u64C, s8M, S8.l, h1, hsz, hpl, h2, ← ht])
    | (with_reducible refine awp_if_b rfl (fun hc => ?_) (fun hc => ?_) <;> (try simp [-getElem?_pos, -getElem?_neg] at hc) <;> (try (exfalso; omega)))
    | (with_reducible refine GuardK_b (fun hc => ?_) (fun hc => ?_) <;> (try simp only [Bool.not_eq_true', Bool.not_eq_false', decide_eq_true_eq, decide_eq_false_iff_not] at hc) <;> (first | (exfalso; omega) | skip) <;> simp [-List.reduceReplicate, Nat.add_one_le_iff, -getElem?_pos, -getElem?_neg, List.getElem?_cons_zero, List.getElem?_cons_succ, u64C, s8M, S8.l, h1, hsz, hpl, h2, ← ht, hc])
    | (with_reducible refine DGuard_b _ _ _ _ _ _ _ _ _ _ (fun hc => ?_) (fun hc => ?_) <;> (try simp only [Bool.not_eq_true', Bool.not_eq_false', decide_eq_true_eq, decide_eq_false_iff_not] at hc) <;> (first | (exfalso; omega) | skip) <;> simp [-List.reduceReplicate, Nat.add_one_le_iff, -getElem?_pos, -getElem?_neg, List.getElem?_cons_zero, List.getElem?_cons_succ, u64C, s8M, S8.l, h1, hsz, hpl, h2, ← ht, hc])
    | (with_reducible refine DEv_cut _ _ _ _ _ _ _ _ _ _ _ _ (by kernel_rfl) ?_; simp [-List.reduceReplicate, Nat.add_one_le_iff, -getElem?_pos, -getElem?_neg, List.getElem?_cons_zero, List.getElem?_cons_succ, u64C, s8M, S8.l, h1, hsz, hpl, h2, ← ht])
    | ((with_reducible refine hother _ _ rfl ?_); simp only [inBlockA, thenA, noGotoA, Nat.reduceEqDiff, if_false, if_true, ↓reduceIte])
    | ((with_reducible refine hother2 _ _ rfl ?_); simp only [inBlockA, thenA, noGotoA, Nat.reduceEqDiff, if_false, if_true, ↓reduceIte])
    | ((with_reducible refine hother3 _ _ rfl ?_); simp only [inBlockA, thenA, noGotoA, Nat.reduceEqDiff, if_false, if_true, ↓reduceIte])
    | (with_reducible refine And.intro (by omega) ?_)
    | (with_reducible change postOf _ _ _ _ _; simp [-List.reduceReplicate, Nat.add_one_le_iff, -getElem?_pos, -getElem?_neg, List.getElem?_cons_zero, List.getElem?_cons_succ, u64C, s8M, S8.l, h1, hsz, hpl, h2, ← ht])
    | fail)
  refine awp_forU [0, 2, 3, 4] (fun i (_u : Unit) => [(4, .c (iC (64 * i : Nat)))]) (fun i (_u : Unit) => [⟨24, 1, false, 0, up (List.replicate 32 (C.v (Value.int IntKind.u8 0))), none⟩, ⟨38, 1, false, 0, up ((blocksTo f0 t i).l.map wC), none⟩]) (fun i (_u : Unit) => True) (k) (()) (by first | trivial | (simp; done) | omega | (intros; simp at *; done)) (by simp [-List.reduceReplicate, keep, iC, blocksTo, S8.l]) (by simp [-List.reduceReplicate, iC, blocksTo, S8.l]) ?_
  rintro i _u Q1 hi hH next hother
  conv => arg 5; arg 1; simp only [List.cons_append, List.nil_append, keep, get, Nat.reduceEqDiff, if_true, if_false, ↓reduceIte]
  have hwi : IntKind.i64.wrap (64 * (i : Int) + 64) = 64 * (i : Int) + 64 := wrap_in _ (by omega)
  by_cases hlt : i < k
  · have hst : blocksTo f0 t (i + 1) = mix (blocksTo f0 t i) (blk t i) := rfl
    have c1 : 64 * (i : Int) < t.size := by omega
    have c2 : 64 * (i : Int) + 64 ≤ t.size := by omega
    have t1 : (64 * (i : Int)).toNat = 64 * i := by omega
    have t2 : (64 * (i : Int) + 64).toNat = 64 * i + 64 := by omega
    have c3 : 0 ≤ 64 * (i : Int) := by omega
    have c4 : 64 * (i : Int) ≤ 64 * (i : Int) + 64 := by omega
    have hbs : (blk t i).size ≤ 9223372036854775807 := by unfold blk; rw [ext_size _ _ _ (by omega) (by omega)]; omega
    have hbl : t.extract (64 * i) (64 * i + 64) = blk t i := rfl
    rw [hst] at next
    generalize blocksTo f0 t i = v at *
    have hx : 64 * (i : Int) + 64 = 64 * ((i : Int) + 1) := by omega
    repeat' (first 
      | with_reducible refine awp_scope ?_
      | with_reducible refine awp_seq ?_
      | with_reducible refine awp_block ?_
      | (with_reducible refine awp_label ?_; try simp only [thenA, inBlockA, noGotoA])
      | (with_reducible refine awp_skip ?_; try simp only [thenA, inBlockA, noGotoA])
      | (with_reducible refine awp_exit ?_; simp only [thenA, inBlockA, noGotoA, if_true, Nat.reduceEqDiff, if_false, ↓reduceIte])
      | (with_reducible refine awp_ret ?_; (try simp only [thenA, inBlockA, noGotoA]); (try simp [-List.reduceReplicate, Nat.add_one_le_iff, -getElem?_pos, -getElem?_neg, List.getElem?_cons_zero, List.getElem?_cons_succ, S8.l, s8M, iC, hwi, c1, c2, c3, c4, t1, t2, hbl]))
      | (with_reducible refine awp_reg 51 hX [0, 2, 3, 4, 5, 6, 7, 8, 19, 30, 39] ?_; simp [-List.reduceReplicate, Nat.add_one_le_iff, -getElem?_pos, -getElem?_neg, List.getElem?_cons_zero, List.getElem?_cons_succ, S8.l, s8M, iC, hwi, c1, c2, c3, c4, t1, t2, hbl])
      | (with_reducible refine awp_drw 51 hX [0, 2, 3, 4, 5, 6, 7, 8, 19, 30, 39] Tab.mixed (by kernel_rfl) ?_; simp [-List.reduceReplicate, Nat.add_one_le_iff, -getElem?_pos, -getElem?_neg, List.getElem?_cons_zero, List.getElem?_cons_succ, S8.l, s8M, iC, hwi, c1, c2, c3, c4, t1, t2, hbl])
      | ((with_reducible refine Den.at_ (f := 25) ?_); refine (mix02_den v (blk t i) hbs _).det ?_; try simp [-List.reduceReplicate, Nat.add_one_le_iff, -getElem?_pos, -getElem?_neg, List.getElem?_cons_zero, List.getElem?_cons_succ, S8.l, s8M, iC, hwi, c1, c2, c3, c4, t1, t2, hbl])
      | ((with_reducible refine drawn_at (f := 25) ?_); refine ⟨_, _, mix02_den v (blk t i) hbs _, fun _ => rfl, ?_⟩; try simp [-List.reduceReplicate, Nat.add_one_le_iff, -getElem?_pos, -getElem?_neg, List.getElem?_cons_zero, List.getElem?_cons_succ, S8.l, s8M, iC, hwi, c1, c2, c3, c4, t1, t2, hbl])
      | (with_reducible refine awp_if_b rfl (fun hc => ?_) (fun hc => ?_) <;> (try simp [-getElem?_pos, -getElem?_neg] at hc) <;> (try (exfalso; omega)))
      | (with_reducible refine GuardK_b (fun hc => ?_) (fun hc => ?_) <;> (try simp only [Bool.not_eq_true', Bool.not_eq_false', decide_eq_true_eq, decide_eq_false_iff_not] at hc) <;> (first | (exfalso; omega) | skip) <;> simp [-List.reduceReplicate, Nat.add_one_le_iff, -getElem?_pos, -getElem?_neg, List.getElem?_cons_zero, List.getElem?_cons_succ, S8.l, s8M, iC, hwi, c1, c2, c3, c4, t1, t2, hbl, hc])
      | (with_reducible refine DGuard_b _ _ _ _ _ _ _ _ _ _ (fun hc => ?_) (fun hc => ?_) <;> (try simp only [Bool.not_eq_true', Bool.not_eq_false', decide_eq_true_eq, decide_eq_false_iff_not] at hc) <;> (first | (exfalso; omega) | skip) <;> simp [-List.reduceReplicate, Nat.add_one_le_iff, -getElem?_pos, -getElem?_neg, List.getElem?_cons_zero, List.getElem?_cons_succ, S8.l, s8M, iC, hwi, c1, c2, c3, c4, t1, t2, hbl, hc])
      | (with_reducible refine DEv_cut _ _ _ _ _ _ _ _ _ _ _ _ (by kernel_rfl) ?_; simp [-List.reduceReplicate, Nat.add_one_le_iff, -getElem?_pos, -getElem?_neg, List.getElem?_cons_zero, List.getElem?_cons_succ, S8.l, s8M, iC, hwi, c1, c2, c3, c4, t1, t2, hbl])
      | ((with_reducible refine hother _ _ rfl ?_); simp only [inBlockA, thenA, noGotoA, Nat.reduceEqDiff, if_false, if_true, ↓reduceIte])
      | ((with_reducible refine hother2 _ _ rfl ?_); simp only [inBlockA, thenA, noGotoA, Nat.reduceEqDiff, if_false, if_true, ↓reduceIte])
      | ((with_reducible refine hother3 _ _ rfl ?_); simp only [inBlockA, thenA, noGotoA, Nat.reduceEqDiff, if_false, if_true, ↓reduceIte])
      | (with_reducible refine And.intro (by omega) ?_)
      | (with_reducible change postOf _ _ _ _ _; simp [-List.reduceReplicate, Nat.add_one_le_iff, -getElem?_pos, -getElem?_neg, List.getElem?_cons_zero, List.getElem?_cons_succ, S8.l, s8M, iC, hwi, c1, c2, c3, c4, t1, t2, hbl])
      | fail)
    refine next _ _ (()) (by omega) (by first | trivial | omega | assumption) (by simp [-List.reduceReplicate, keep, iC, hx, S8.l]) (by simp [-List.reduceReplicate, iC, hx, S8.l])
  · obtain rfl : i = k := by omega
    have c1 : ¬ 64 * (i : Int) < t.size := by omega
    generalize blocksTo f0 t i = v at *
    clear next
    repeat' (first 
      | with_reducible refine awp_scope ?_
      | with_reducible refine awp_seq ?_
      | with_reducible refine awp_block ?_
      | (with_reducible refine awp_label ?_; try simp only [thenA, inBlockA, noGotoA])
      | (with_reducible refine awp_skip ?_; try simp only [thenA, inBlockA, noGotoA])
      | (with_reducible refine awp_exit ?_; simp only [thenA, inBlockA, noGotoA, if_true, Nat.reduceEqDiff, if_false, ↓reduceIte])
      | (with_reducible refine awp_ret ?_; (try simp only [thenA, inBlockA, noGotoA]); (try simp [-List.reduceReplicate, Nat.add_one_le_iff, -getElem?_pos, -getElem?_neg, List.getElem?_cons_zero, List.getElem?_cons_succ, S8.l, iC, c1]))
      | (with_reducible refine awp_reg 51 hX [0, 2, 3, 4, 5, 6, 7, 8, 19, 30, 39] ?_; simp [-List.reduceReplicate, Nat.add_one_le_iff, -getElem?_pos, -getElem?_neg, List.getElem?_cons_zero, List.getElem?_cons_succ, S8.l, iC, c1])
      | (with_reducible refine awp_drw 51 hX [0, 2, 3, 4, 5, 6, 7, 8, 19, 30, 39] Tab.mixed (by kernel_rfl) ?_; simp [-List.reduceReplicate, Nat.add_one_le_iff, -getElem?_pos, -getElem?_neg, List.getElem?_cons_zero, List.getElem?_cons_succ, S8.l, iC, c1])
      | (with_reducible refine awp_if_b rfl (fun hc => ?_) (fun hc => ?_) <;> (try simp [-getElem?_pos, -getElem?_neg] at hc) <;> (try (exfalso; omega)))
      | (with_reducible refine GuardK_b (fun hc => ?_) (fun hc => ?_) <;> (try simp only [Bool.not_eq_true', Bool.not_eq_false', decide_eq_true_eq, decide_eq_false_iff_not] at hc) <;> (first | (exfalso; omega) | skip) <;> simp [-List.reduceReplicate, Nat.add_one_le_iff, -getElem?_pos, -getElem?_neg, List.getElem?_cons_zero, List.getElem?_cons_succ, S8.l, iC, c1, hc])
      | (with_reducible refine DGuard_b _ _ _ _ _ _ _ _ _ _ (fun hc => ?_) (fun hc => ?_) <;> (try simp only [Bool.not_eq_true', Bool.not_eq_false', decide_eq_true_eq, decide_eq_false_iff_not] at hc) <;> (first | (exfalso; omega) | skip) <;> simp [-List.reduceReplicate, Nat.add_one_le_iff, -getElem?_pos, -getElem?_neg, List.getElem?_cons_zero, List.getElem?_cons_succ, S8.l, iC, c1, hc])
      | (with_reducible refine DEv_cut _ _ _ _ _ _ _ _ _ _ _ _ (by kernel_rfl) ?_; simp [-List.reduceReplicate, Nat.add_one_le_iff, -getElem?_pos, -getElem?_neg, List.getElem?_cons_zero, List.getElem?_cons_succ, S8.l, iC, c1])
      | ((with_reducible refine hother _ _ rfl ?_); simp only [inBlockA, thenA, noGotoA, Nat.reduceEqDiff, if_false, if_true, ↓reduceIte])
      | ((with_reducible refine hother2 _ _ rfl ?_); simp only [inBlockA, thenA, noGotoA, Nat.reduceEqDiff, if_false, if_true, ↓reduceIte])
      | ((with_reducible refine hother3 _ _ rfl ?_); simp only [inBlockA, thenA, noGotoA, Nat.reduceEqDiff, if_false, if_true, ↓reduceIte])
      | (with_reducible refine And.intro (by omega) ?_)
      | (with_reducible change postOf _ _ _ _ _; simp [-List.reduceReplicate, Nat.add_one_le_iff, -getElem?_pos, -getElem?_neg, List.getElem?_cons_zero, List.getElem?_cons_succ, S8.l, iC, c1])
      | fail)
    refine awp_forU [2, 3, 5, 6] (fun j (_u : Unit) => [(6, .c (iC j))]) (fun j (_u : Unit) => [⟨24, 1, false, 0, up (List.replicate 32 (C.v (Value.int IntKind.u8 0))), none⟩, ⟨38, 1, false, 0, up (v.l.map wC), none⟩, ⟨24, 1, false, 0, up (outTo v.l j), none⟩]) (fun j (_u : Unit) => True) (8) (()) (by first | trivial | (simp; done) | omega | (intros; simp at *; done)) (by simp [-List.reduceReplicate, keep, iC, S8.l, outTo, wBytes, bC8]) (by simp [-List.reduceReplicate, iC, S8.l, outTo, wBytes, bC8]) ?_
    rintro j _u Q1 hi hH next hother
    conv => arg 5; arg 1; simp only [List.cons_append, List.nil_append, keep, get, Nat.reduceEqDiff, if_true, if_false, ↓reduceIte]
    have hwj := wrap_in ((j : Int) + 1) (by omega)
    have hol := outTo_len v.l j (by show j ≤ 8; omega) rfl
    by_cases hlj : j < 8
    · have hv : [wC v.a, wC v.b, wC v.c, wC v.d, wC v.e, wC v.f, wC v.g, wC v.h][j]? = some (wC (v.l.getD j 0)) := ws_get v.l j 8 hlj rfl
      have h8 : (j : Int) < 8 := by omega
      have ht1 : v.l.take (j + 1) = v.l.take j ++ [v.l.getD j 0] := by
        rw [List.take_add_one, List.getElem?_eq_getElem (by show j < 8; omega), List.getD_eq_getElem?_getD, List.getElem?_eq_getElem (by show j < 8; omega)]
        rfl
      have hq : ∀ q, q ≤ 4 → outTo2 v.l j (putN (v.l.getD j 0).toNat 4) 4 = outTo v.l (j + 1) := fun q _ => by
        unfold outTo2 outTo
        rw [ht1, wBytes_app, List.take_of_length_le (l := putN (v.l.getD j 0).toNat 4) (by rw [putN_len]; omega), show 32 - 4 * j - 4 = 32 - 4 * (j + 1) by omega]
        simp [wBytes]
      have hq4 := hq 4 (by omega)
      have hxl := (v.l.getD j 0).isLt
      have hpl := putN_len (v.l.getD j 0).toNat 4
      have hbz := bs_size (putN (v.l.getD j 0).toNat 4)
      have hz := outTo2_zero v.l j (putN (v.l.getD j 0).toNat 4)
      generalize v.l.getD j 0 = x at *
      have hm := wrapU64 (x.toNat : Int) (by omega)
      have hwx : wI x = (x.toNat : Int) := rfl
      simp only [wC] at hv
      have next0 := next
      have hother2 := hother
      clear next hother
      repeat' (first 
        | with_reducible refine awp_scope ?_
        | with_reducible refine awp_seq ?_
        | with_reducible refine awp_block ?_
        | (with_reducible refine awp_label ?_; try simp only [thenA, inBlockA, noGotoA])
        | (with_reducible refine awp_skip ?_; try simp only [thenA, inBlockA, noGotoA])
        | (with_reducible refine awp_exit ?_; simp only [thenA, inBlockA, noGotoA, if_true, Nat.reduceEqDiff, if_false, ↓reduceIte])
        | (with_reducible refine awp_ret ?_; (try simp only [thenA, inBlockA, noGotoA]); (try simp [-List.reduceReplicate, Nat.add_one_le_iff, -getElem?_pos, -getElem?_neg, List.getElem?_cons_zero, List.getElem?_cons_succ, S8.l, iC, hlj, h8, hv, hm, wC, hwx, u64C]))
        | (with_reducible refine awp_reg 51 hX [0, 2, 3, 4, 5, 6, 7, 8, 19, 30, 39] ?_; simp [-List.reduceReplicate, Nat.add_one_le_iff, -getElem?_pos, -getElem?_neg, List.getElem?_cons_zero, List.getElem?_cons_succ, S8.l, iC, hlj, h8, hv, hm, wC, hwx, u64C])
        | (with_reducible refine awp_drw 51 hX [0, 2, 3, 4, 5, 6, 7, 8, 19, 30, 39] Tab.mixed (by kernel_rfl) ?_; simp [-List.reduceReplicate, Nat.add_one_le_iff, -getElem?_pos, -getElem?_neg, List.getElem?_cons_zero, List.getElem?_cons_succ, S8.l, iC, hlj, h8, hv, hm, wC, hwx, u64C])
        | ((with_reducible refine Den.at_ (f := 52) ?_); refine (put01_den x.toNat 4 (by omega) (by omega) _).det ?_; try simp [-List.reduceReplicate, Nat.add_one_le_iff, -getElem?_pos, -getElem?_neg, List.getElem?_cons_zero, List.getElem?_cons_succ, S8.l, iC, hlj, h8, hv, hm, wC, hwx, u64C])
        | ((with_reducible refine drawn_at (f := 52) ?_); refine ⟨_, _, put01_den x.toNat 4 (by omega) (by omega) _, fun _ => rfl, ?_⟩; try simp [-List.reduceReplicate, Nat.add_one_le_iff, -getElem?_pos, -getElem?_neg, List.getElem?_cons_zero, List.getElem?_cons_succ, S8.l, iC, hlj, h8, hv, hm, wC, hwx, u64C])
        | (with_reducible refine awp_if_b rfl (fun hc => ?_) (fun hc => ?_) <;> (try simp [-getElem?_pos, -getElem?_neg] at hc) <;> (try (exfalso; omega)))
        | (with_reducible refine GuardK_b (fun hc => ?_) (fun hc => ?_) <;> (try simp only [Bool.not_eq_true', Bool.not_eq_false', decide_eq_true_eq, decide_eq_false_iff_not] at hc) <;> (first | (exfalso; omega) | skip) <;> simp [-List.reduceReplicate, Nat.add_one_le_iff, -getElem?_pos, -getElem?_neg, List.getElem?_cons_zero, List.getElem?_cons_succ, S8.l, iC, hlj, h8, hv, hm, wC, hwx, u64C, hc])
        | (with_reducible refine DGuard_b _ _ _ _ _ _ _ _ _ _ (fun hc => ?_) (fun hc => ?_) <;> (try simp only [Bool.not_eq_true', Bool.not_eq_false', decide_eq_true_eq, decide_eq_false_iff_not] at hc) <;> (first | (exfalso; omega) | skip) <;> simp [-List.reduceReplicate, Nat.add_one_le_iff, -getElem?_pos, -getElem?_neg, List.getElem?_cons_zero, List.getElem?_cons_succ, S8.l, iC, hlj, h8, hv, hm, wC, hwx, u64C, hc])
        | (with_reducible refine DEv_cut _ _ _ _ _ _ _ _ _ _ _ _ (by kernel_rfl) ?_; simp [-List.reduceReplicate, Nat.add_one_le_iff, -getElem?_pos, -getElem?_neg, List.getElem?_cons_zero, List.getElem?_cons_succ, S8.l, iC, hlj, h8, hv, hm, wC, hwx, u64C])
        | ((with_reducible refine hother _ _ rfl ?_); simp only [inBlockA, thenA, noGotoA, Nat.reduceEqDiff, if_false, if_true, ↓reduceIte])
        | ((with_reducible refine hother2 _ _ rfl ?_); simp only [inBlockA, thenA, noGotoA, Nat.reduceEqDiff, if_false, if_true, ↓reduceIte])
        | ((with_reducible refine hother3 _ _ rfl ?_); simp only [inBlockA, thenA, noGotoA, Nat.reduceEqDiff, if_false, if_true, ↓reduceIte])
        | (with_reducible refine And.intro (by omega) ?_)
        | (with_reducible change postOf _ _ _ _ _; simp [-List.reduceReplicate, Nat.add_one_le_iff, -getElem?_pos, -getElem?_neg, List.getElem?_cons_zero, List.getElem?_cons_succ, S8.l, iC, hlj, h8, hv, hm, wC, hwx, u64C])
        | fail)
      refine awp_forU [2, 3, 5, 6, 7, 8] (fun q (_u : Unit) => [(8, .c (iC q))]) (fun q (_u : Unit) => [⟨24, 1, false, 0, up (List.replicate 32 (C.v (Value.int IntKind.u8 0))), none⟩, ⟨38, 1, false, 0, up (v.l.map wC), none⟩, ⟨24, 1, false, 0, up (outTo2 v.l j (putN x.toNat 4) q), none⟩]) (fun q (_u : Unit) => True) (4) (()) (by first | trivial | (simp; done) | omega | (intros; simp at *; done)) (by simp [-List.reduceReplicate, keep, iC, S8.l, wC, outTo2_zero]) (by simp [-List.reduceReplicate, iC, S8.l, wC, outTo2_zero]) ?_
      rintro q _u Q1 hi hH next hother
      conv => arg 5; arg 1; simp only [List.cons_append, List.nil_append, keep, get, Nat.reduceEqDiff, if_true, if_false, ↓reduceIte]
      have hwq := wrap_in ((q : Int) + 1) (by omega)
      have w4 : IntKind.i64.wrap (4 * (j : Int)) = 4 * (j : Int) := wrap_in _ (by omega)
      have w5 : IntKind.i64.wrap (4 * (j : Int) + (q : Int)) = 4 * (j : Int) + (q : Int) := wrap_in _ (by omega)
      have ho2 := outTo2_len v.l j q (putN x.toNat 4) hlj (by omega) hpl rfl
      by_cases hlq : q < 4
      · obtain ⟨c, hc⟩ := getI (putN x.toNat 4) (q : Nat) (by omega) (by omega)
        simp only [Int.toNat_natCast] at hc
        have hset := outTo2_set v.l j q (putN x.toNat 4) c hlj hlq hpl rfl hc
        have hby : byteAt (bsS (putN x.toNat 4)) q = (c.toNat : Int) := by unfold byteAt; rw [bs_toList, List.getD_eq_getElem?_getD, hc]; rfl
        have d1 : (4 * (j : Int) + (q : Int)).toNat = 4 * j + q := by omega
        have d2 : 0 ≤ 4 * (j : Int) + (q : Int) := by omega
        have d3 : 4 * (j : Int) + (q : Int) < 32 := by omega
        have d4 : 4 * j + q < 32 := by omega
        have d5 : (q : Int) < 4 := by omega
        have hbc : C.v (.int .u8 (c.toNat : Int)) = bC8 c := rfl
        rw [← hbc] at hset
        generalize outTo2 v.l j (putN x.toNat 4) q = r0 at *
        repeat' (first 
          | with_reducible refine awp_scope ?_
          | with_reducible refine awp_seq ?_
          | with_reducible refine awp_block ?_
          | (with_reducible refine awp_label ?_; try simp only [thenA, inBlockA, noGotoA])
          | (with_reducible refine awp_skip ?_; try simp only [thenA, inBlockA, noGotoA])
          | (with_reducible refine awp_exit ?_; simp only [thenA, inBlockA, noGotoA, if_true, Nat.reduceEqDiff, if_false, ↓reduceIte])
          | (with_reducible refine awp_ret ?_; (try simp only [thenA, inBlockA, noGotoA]); (try simp [-List.reduceReplicate, Nat.add_one_le_iff, -getElem?_pos, -getElem?_neg, List.getElem?_cons_zero, List.getElem?_cons_succ, S8.l, iC, hlq, hwq, w4, w5, hby, hbz, hpl, d1, d2, d3, d4, d5, ho2]))
          | (with_reducible refine awp_reg 51 hX [0, 2, 3, 4, 5, 6, 7, 8, 19, 30, 39] ?_; simp [-List.reduceReplicate, Nat.add_one_le_iff, -getElem?_pos, -getElem?_neg, List.getElem?_cons_zero, List.getElem?_cons_succ, S8.l, iC, hlq, hwq, w4, w5, hby, hbz, hpl, d1, d2, d3, d4, d5, ho2])
          | (with_reducible refine awp_drw 51 hX [0, 2, 3, 4, 5, 6, 7, 8, 19, 30, 39] Tab.mixed (by kernel_rfl) ?_; simp [-List.reduceReplicate, Nat.add_one_le_iff, -getElem?_pos, -getElem?_neg, List.getElem?_cons_zero, List.getElem?_cons_succ, S8.l, iC, hlq, hwq, w4, w5, hby, hbz, hpl, d1, d2, d3, d4, d5, ho2])
          | (with_reducible refine awp_if_b rfl (fun hc => ?_) (fun hc => ?_) <;> (try simp [-getElem?_pos, -getElem?_neg] at hc) <;> (try (exfalso; omega)))
          | (with_reducible refine GuardK_b (fun hc => ?_) (fun hc => ?_) <;> (try simp only [Bool.not_eq_true', Bool.not_eq_false', decide_eq_true_eq, decide_eq_false_iff_not] at hc) <;> (first | (exfalso; omega) | skip) <;> simp [-List.reduceReplicate, Nat.add_one_le_iff, -getElem?_pos, -getElem?_neg, List.getElem?_cons_zero, List.getElem?_cons_succ, S8.l, iC, hlq, hwq, w4, w5, hby, hbz, hpl, d1, d2, d3, d4, d5, ho2, hc])
          | (with_reducible refine DGuard_b _ _ _ _ _ _ _ _ _ _ (fun hc => ?_) (fun hc => ?_) <;> (try simp only [Bool.not_eq_true', Bool.not_eq_false', decide_eq_true_eq, decide_eq_false_iff_not] at hc) <;> (first | (exfalso; omega) | skip) <;> simp [-List.reduceReplicate, Nat.add_one_le_iff, -getElem?_pos, -getElem?_neg, List.getElem?_cons_zero, List.getElem?_cons_succ, S8.l, iC, hlq, hwq, w4, w5, hby, hbz, hpl, d1, d2, d3, d4, d5, ho2, hc])
          | (with_reducible refine DEv_cut _ _ _ _ _ _ _ _ _ _ _ _ (by kernel_rfl) ?_; simp [-List.reduceReplicate, Nat.add_one_le_iff, -getElem?_pos, -getElem?_neg, List.getElem?_cons_zero, List.getElem?_cons_succ, S8.l, iC, hlq, hwq, w4, w5, hby, hbz, hpl, d1, d2, d3, d4, d5, ho2])
          | ((with_reducible refine hother _ _ rfl ?_); simp only [inBlockA, thenA, noGotoA, Nat.reduceEqDiff, if_false, if_true, ↓reduceIte])
          | ((with_reducible refine hother2 _ _ rfl ?_); simp only [inBlockA, thenA, noGotoA, Nat.reduceEqDiff, if_false, if_true, ↓reduceIte])
          | ((with_reducible refine hother3 _ _ rfl ?_); simp only [inBlockA, thenA, noGotoA, Nat.reduceEqDiff, if_false, if_true, ↓reduceIte])
          | (with_reducible refine And.intro (by omega) ?_)
          | (with_reducible change postOf _ _ _ _ _; simp [-List.reduceReplicate, Nat.add_one_le_iff, -getElem?_pos, -getElem?_neg, List.getElem?_cons_zero, List.getElem?_cons_succ, S8.l, iC, hlq, hwq, w4, w5, hby, hbz, hpl, d1, d2, d3, d4, d5, ho2])
          | fail)
        simp only [S8.l] at hset
        refine next _ _ (()) (by omega) (by first | trivial | omega | assumption) (by simp [-List.reduceReplicate, keep, iC, ← hset, S8.l]) (by simp [-List.reduceReplicate, iC, ← hset, S8.l])
      · obtain rfl : q = 4 := by omega
        rw [hq4]
        clear next
        repeat' (first 
          | with_reducible refine awp_scope ?_
          | with_reducible refine awp_seq ?_
          | with_reducible refine awp_block ?_
          | (with_reducible refine awp_label ?_; try simp only [thenA, inBlockA, noGotoA])
          | (with_reducible refine awp_skip ?_; try simp only [thenA, inBlockA, noGotoA])
          | (with_reducible refine awp_exit ?_; simp only [thenA, inBlockA, noGotoA, if_true, Nat.reduceEqDiff, if_false, ↓reduceIte])
          | (with_reducible refine awp_ret ?_; (try simp only [thenA, inBlockA, noGotoA]); (try simp [-List.reduceReplicate, Nat.add_one_le_iff, -getElem?_pos, -getElem?_neg, List.getElem?_cons_zero, List.getElem?_cons_succ, S8.l, iC, hwj]))
          | (with_reducible refine awp_reg 51 hX [0, 2, 3, 4, 5, 6, 7, 8, 19, 30, 39] ?_; simp [-List.reduceReplicate, Nat.add_one_le_iff, -getElem?_pos, -getElem?_neg, List.getElem?_cons_zero, List.getElem?_cons_succ, S8.l, iC, hwj])
          | (with_reducible refine awp_drw 51 hX [0, 2, 3, 4, 5, 6, 7, 8, 19, 30, 39] Tab.mixed (by kernel_rfl) ?_; simp [-List.reduceReplicate, Nat.add_one_le_iff, -getElem?_pos, -getElem?_neg, List.getElem?_cons_zero, List.getElem?_cons_succ, S8.l, iC, hwj])
          | (with_reducible refine awp_if_b rfl (fun hc => ?_) (fun hc => ?_) <;> (try simp [-getElem?_pos, -getElem?_neg] at hc) <;> (try (exfalso; omega)))
          | (with_reducible refine GuardK_b (fun hc => ?_) (fun hc => ?_) <;> (try simp only [Bool.not_eq_true', Bool.not_eq_false', decide_eq_true_eq, decide_eq_false_iff_not] at hc) <;> (first | (exfalso; omega) | skip) <;> simp [-List.reduceReplicate, Nat.add_one_le_iff, -getElem?_pos, -getElem?_neg, List.getElem?_cons_zero, List.getElem?_cons_succ, S8.l, iC, hwj, hc])
          | (with_reducible refine DGuard_b _ _ _ _ _ _ _ _ _ _ (fun hc => ?_) (fun hc => ?_) <;> (try simp only [Bool.not_eq_true', Bool.not_eq_false', decide_eq_true_eq, decide_eq_false_iff_not] at hc) <;> (first | (exfalso; omega) | skip) <;> simp [-List.reduceReplicate, Nat.add_one_le_iff, -getElem?_pos, -getElem?_neg, List.getElem?_cons_zero, List.getElem?_cons_succ, S8.l, iC, hwj, hc])
          | (with_reducible refine DEv_cut _ _ _ _ _ _ _ _ _ _ _ _ (by kernel_rfl) ?_; simp [-List.reduceReplicate, Nat.add_one_le_iff, -getElem?_pos, -getElem?_neg, List.getElem?_cons_zero, List.getElem?_cons_succ, S8.l, iC, hwj])
          | ((with_reducible refine hother _ _ rfl ?_); simp only [inBlockA, thenA, noGotoA, Nat.reduceEqDiff, if_false, if_true, ↓reduceIte])
          | ((with_reducible refine hother2 _ _ rfl ?_); simp only [inBlockA, thenA, noGotoA, Nat.reduceEqDiff, if_false, if_true, ↓reduceIte])
          | ((with_reducible refine hother3 _ _ rfl ?_); simp only [inBlockA, thenA, noGotoA, Nat.reduceEqDiff, if_false, if_true, ↓reduceIte])
          | (with_reducible refine And.intro (by omega) ?_)
          | (with_reducible change postOf _ _ _ _ _; simp [-List.reduceReplicate, Nat.add_one_le_iff, -getElem?_pos, -getElem?_neg, List.getElem?_cons_zero, List.getElem?_cons_succ, S8.l, iC, hwj])
          | fail)
        refine next0 _ _ (()) (by omega) (by first | trivial | omega | assumption) (by simp [-List.reduceReplicate, keep, iC, S8.l]) (by simp [-List.reduceReplicate, iC, S8.l])
    · obtain rfl : j = 8 := by omega
      have hfin : outTo v.l 8 = (wBytes v.l).map bC8 := by
        unfold outTo
        rw [List.take_of_length_le (by show 8 ≤ 8; omega)]
        simp
      have hl32 : (wBytes v.l).length = 32 := wBytes_len v.l
      have htk : ((wBytes v.l).map bC8).take 32 = (wBytes v.l).map bC8 := List.take_of_length_le (by simp [hl32])
      rw [hfin]
      repeat' (first 
        | with_reducible refine awp_scope ?_
        | with_reducible refine awp_seq ?_
        | with_reducible refine awp_block ?_
        | (with_reducible refine awp_label ?_; try simp only [thenA, inBlockA, noGotoA])
        | (with_reducible refine awp_skip ?_; try simp only [thenA, inBlockA, noGotoA])
        | (with_reducible refine awp_exit ?_; simp only [thenA, inBlockA, noGotoA, if_true, Nat.reduceEqDiff, if_false, ↓reduceIte])
        | (with_reducible refine awp_ret ?_; (try simp only [thenA, inBlockA, noGotoA]); (try simp [-List.reduceReplicate, Nat.add_one_le_iff, -getElem?_pos, -getElem?_neg, List.getElem?_cons_zero, List.getElem?_cons_succ, iC, hl32, htk]))
        | (with_reducible refine awp_reg 51 hX [0, 2, 3, 4, 5, 6, 7, 8, 19, 30, 39] ?_; simp [-List.reduceReplicate, Nat.add_one_le_iff, -getElem?_pos, -getElem?_neg, List.getElem?_cons_zero, List.getElem?_cons_succ, iC, hl32, htk])
        | (with_reducible refine awp_drw 51 hX [0, 2, 3, 4, 5, 6, 7, 8, 19, 30, 39] Tab.mixed (by kernel_rfl) ?_; simp [-List.reduceReplicate, Nat.add_one_le_iff, -getElem?_pos, -getElem?_neg, List.getElem?_cons_zero, List.getElem?_cons_succ, iC, hl32, htk])
        | (with_reducible refine awp_if_b rfl (fun hc => ?_) (fun hc => ?_) <;> (try simp [-getElem?_pos, -getElem?_neg] at hc) <;> (try (exfalso; omega)))
        | (with_reducible refine GuardK_b (fun hc => ?_) (fun hc => ?_) <;> (try simp only [Bool.not_eq_true', Bool.not_eq_false', decide_eq_true_eq, decide_eq_false_iff_not] at hc) <;> (first | (exfalso; omega) | skip) <;> simp [-List.reduceReplicate, Nat.add_one_le_iff, -getElem?_pos, -getElem?_neg, List.getElem?_cons_zero, List.getElem?_cons_succ, iC, hl32, htk, hc])
        | (with_reducible refine DGuard_b _ _ _ _ _ _ _ _ _ _ (fun hc => ?_) (fun hc => ?_) <;> (try simp only [Bool.not_eq_true', Bool.not_eq_false', decide_eq_true_eq, decide_eq_false_iff_not] at hc) <;> (first | (exfalso; omega) | skip) <;> simp [-List.reduceReplicate, Nat.add_one_le_iff, -getElem?_pos, -getElem?_neg, List.getElem?_cons_zero, List.getElem?_cons_succ, iC, hl32, htk, hc])
        | (with_reducible refine DEv_cut _ _ _ _ _ _ _ _ _ _ _ _ (by kernel_rfl) ?_; simp [-List.reduceReplicate, Nat.add_one_le_iff, -getElem?_pos, -getElem?_neg, List.getElem?_cons_zero, List.getElem?_cons_succ, iC, hl32, htk])
        | ((with_reducible refine hother _ _ rfl ?_); simp only [inBlockA, thenA, noGotoA, Nat.reduceEqDiff, if_false, if_true, ↓reduceIte])
        | ((with_reducible refine hother2 _ _ rfl ?_); simp only [inBlockA, thenA, noGotoA, Nat.reduceEqDiff, if_false, if_true, ↓reduceIte])
        | ((with_reducible refine hother3 _ _ rfl ?_); simp only [inBlockA, thenA, noGotoA, Nat.reduceEqDiff, if_false, if_true, ↓reduceIte])
        | (with_reducible refine And.intro (by omega) ?_)
        | (with_reducible change postOf _ _ _ _ _; simp [-List.reduceReplicate, Nat.add_one_le_iff, -getElem?_pos, -getElem?_neg, List.getElem?_cons_zero, List.getElem?_cons_succ, iC, hl32, htk])
        | fail)
      rw [hout]
      rfl
end Go.Av
