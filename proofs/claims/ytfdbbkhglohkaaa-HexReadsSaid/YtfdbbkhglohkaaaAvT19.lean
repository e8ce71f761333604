import Derived.Test.YtfdbbkhglohkaaaAvT18
set_option linter.unusedVariables false
set_option linter.unusedSimpArgs false
set_option maxRecDepth 100000
set_option maxHeartbeats 4000000
namespace Go.Av
open Go Go.Proofs Go.Proofs.Ytfdbbkhglohkaaa
/-! ### figures and bytes are inverse -/
def pr : List UInt8 → List UInt8
  | a :: b :: r => UInt8.ofNat (16 * figB a + figB b).toNat :: pr r
  | _ => []
def hx : List UInt8 → List UInt8
  | [] => []
  | b :: r => UInt8.ofNat (fig (b.toNat / 16)).toNat :: UInt8.ofNat (fig (b.toNat % 16)).toNat :: hx r
theorem strI_data (xs : List Int) : (strI xs).data.toList = xs.map fun n => UInt8.ofNat n.toNat := by simp [strI]
theorem hexTo_hx (l : List UInt8) : (hexTo l l.length).map (fun n => UInt8.ofNat n.toNat) = hx l := by
  unfold hexTo
  rw [List.take_length]
  induction l with
  | nil => rfl
  | cons b r ih => rw [List.flatMap_cons, List.map_append, ih]; rfl
theorem pairsTo_pr : ∀ (l : List UInt8), (pairsTo l l.length).map (fun n => UInt8.ofNat n.toNat) = pr l
  | [] => rfl
  | [a] => by simp [pr, pairsTo]
  | a :: b :: r => by
    have ih := pairsTo_pr r
    unfold pairsTo at *
    have e : (a :: b :: r).length / 2 = r.length / 2 + 1 := by simp only [List.length_cons]; omega
    rw [e, List.range_succ_eq_map, List.map_cons, List.map_cons, List.map_map, List.map_map, pr]
    congr 1
    rw [← ih, List.map_map]
    apply List.map_congr_left
    intro j _
    simp only [Function.comp, Nat.succ_eq_add_one]
    rw [show 2 * (j + 1) = 2 * j + 1 + 1 by omega, show 2 * j + 1 + 1 + 1 = (2 * j + 1) + 1 + 1 by omega]
    rfl
theorem hex1 : ∀ b : Fin 256, figB (UInt8.ofNat (fig (b.val / 16)).toNat) = (b.val / 16 : Nat) ∧ figB (UInt8.ofNat (fig (b.val % 16)).toNat) = (b.val % 16 : Nat) := by decide +kernel
theorem hex2 : ∀ a : Fin 256, figB (UInt8.ofNat a.val) ≤ 15 → UInt8.ofNat (fig (figB (UInt8.ofNat a.val)).toNat).toNat = UInt8.ofNat a.val := by decide +kernel
theorem hex3 : ∀ a b : Fin 16, (UInt8.ofNat (16 * a.val + b.val)).toNat / 16 = a.val ∧ (UInt8.ofNat (16 * a.val + b.val)).toNat % 16 = b.val := by decide +kernel
theorem pr_hx : ∀ l : List UInt8, pr (hx l) = l
  | [] => rfl
  | b :: r => by
    have h := hex1 ⟨b.toNat, b.toNat_lt⟩
    simp only at h
    rw [hx, pr, pr_hx r, h.1, h.2]
    congr 1
    rw [show (16 * ((b.toNat / 16 : Nat) : Int) + ((b.toNat % 16 : Nat) : Int)).toNat = b.toNat by omega]
    simp
theorem hx_all : ∀ l : List UInt8, allB (hx l) = true
  | [] => rfl
  | b :: r => by
    have h := hex1 ⟨b.toNat, b.toNat_lt⟩
    simp only at h
    have ih := hx_all r
    unfold allB at *
    rw [hx, List.all_cons, List.all_cons, ih, h.1, h.2]
    have := b.toNat_lt
    simp
    omega
theorem hx_len : ∀ l : List UInt8, (hx l).length = 2 * l.length
  | [] => rfl
  | b :: r => by simp only [hx, List.length_cons, hx_len r]; omega
theorem hx_pr : ∀ l : List UInt8, allB l = true → l.length % 2 = 0 → hx (pr l) = l
  | [], _, _ => rfl
  | [a], _, h => by simp at h
  | a :: b :: r, h, h2 => by
    unfold allB at h
    simp only [List.all_cons, Bool.and_eq_true, decide_eq_true_eq] at h
    obtain ⟨ha, hb, hr⟩ := h
    have ih := hx_pr r hr (by simp only [List.length_cons] at h2; omega)
    have la := figV_lo (a.toNat : Int)
    have lb := figV_lo (b.toNat : Int)
    change 0 ≤ figB a ∧ figB a ≤ 16 at la
    change 0 ≤ figB b ∧ figB b ≤ 16 at lb
    have h3 := hex3 ⟨(figB a).toNat, by omega⟩ ⟨(figB b).toNat, by omega⟩
    simp only at h3
    have e : (16 * figB a + figB b).toNat = 16 * (figB a).toNat + (figB b).toNat := by omega
    have h4 := hex2 ⟨a.toNat, a.toNat_lt⟩
    have h5 := hex2 ⟨b.toNat, b.toNat_lt⟩
    simp only [UInt8.ofNat_toNat] at h4 h5
    rw [pr, hx, ih, e, h3.1, h3.2, h4 ha, h5 hb]
theorem ba_ext {a b : ByteArray} (h : a.data.toList = b.data.toList) : a = b := by
  obtain ⟨a⟩ := a
  obtain ⟨b⟩ := b
  simp only [ByteArray.mk.injEq]
  exact Array.toList_inj.1 h
theorem size_list (s : ByteArray) : s.size = s.data.toList.length := by simp
theorem hexS_data (s : ByteArray) (h : s.data.toList ≠ []) : (hexS s).data.toList = hx s.data.toList := by
  unfold hexS
  rw [if_neg h, strI_data, hexTo_hx]
theorem bytes_hex (s : ByteArray) : bytesR (hexS s) = (s, true) := by
  by_cases h : s.data.toList = []
  · have e : hexS s = ⟨#[45]⟩ := by unfold hexS; rw [if_pos h]
    rw [e]
    unfold bytesR
    rw [if_pos rfl]
    congr 1
    exact (ba_ext (by rw [h])).symm
  · have hd := hexS_data s h
    have hl := hx_len s.data.toList
    have hp : 0 < s.data.toList.length := List.length_pos_iff.2 h
    have hs : (hexS s).size = 2 * s.data.toList.length := by rw [size_list, hd, hl]
    unfold bytesR
    rw [hd, hs, if_neg (fun e => by have := congrArg List.length e; simp only [hl, List.length_cons, List.length_nil] at this; omega), if_neg (by
      rintro (e | e)
      · have := congrArg List.length e; simp only [hl, List.length_nil] at this; omega
      · omega), if_pos (hx_all _)]
    congr 1
    apply ba_ext
    rw [strI_data, ← hl, pairsTo_pr, pr_hx]
theorem hex_bytes (s : ByteArray) (h : (bytesR s).2 = true) : hexS (bytesR s).1 = s := by
  unfold bytesR at *
  split at h
  · rename_i h1
    rw [if_pos h1]
    apply ba_ext
    rw [h1]
    rfl
  · rename_i h1
    rw [if_neg h1]
    split at h
    · simp at h
    · rename_i h2
      rw [if_neg h2]
      split at h
      · rename_i h3
        rw [if_pos h3]
        simp only [not_or, Classical.not_not] at h2
        have hl : s.size = s.data.toList.length := size_list s
        apply ba_ext
        have e : (strI (pairsTo s.data.toList s.size)).data.toList = pr s.data.toList := by rw [strI_data, hl, pairsTo_pr]
        have hp := hx_pr s.data.toList h3 (by rw [← hl]; omega)
        rw [hexS_data, e, hp]
        rw [e]
        intro e2
        rw [e2] at hp
        exact h2.1 hp.symm
      · simp at h
/-! ### the laws -/
theorem awake10_den : DenV Try.prog 34 [] (.c (bC true)) := by
  intro ob
  refine den_of Try.func34 rfl rfl (by simp [Try.ntmps34]) (fun X hX hO => ?_)
  rw [Try.ntmps34] at hX
  simp only [Try.results34]
  have e1 : bytesR ⟨#[54, 65]⟩ = (⟨#[]⟩, false) := by decide +kernel
  have e2 : hexS ⟨#[97, 48]⟩ = ⟨#[54, 49, 51, 48]⟩ := by decide +kernel
  repeat' (first 
    | with_reducible refine awp_scope ?_
    | with_reducible refine awp_seq ?_
    | with_reducible refine awp_block ?_
    | (with_reducible refine awp_label ?_; try simp only [thenA, inBlockA, noGotoA])
    | (with_reducible refine awp_skip ?_; try simp only [thenA, inBlockA, noGotoA])
    | (with_reducible refine awp_exit ?_; simp only [thenA, inBlockA, noGotoA, if_true, Nat.reduceEqDiff, if_false, ↓reduceIte])
    | (with_reducible refine awp_ret ?_; (try simp only [thenA, inBlockA, noGotoA]); (try simp [-List.reduceReplicate, Nat.add_one_le_iff, -getElem?_pos, -getElem?_neg, List.getElem?_cons_zero, List.getElem?_cons_succ, bC, e1, e2, pairC]))
    | (with_reducible refine awp_reg 13 hX [0, 2] ?_; simp [-List.reduceReplicate, Nat.add_one_le_iff, -getElem?_pos, -getElem?_neg, List.getElem?_cons_zero, List.getElem?_cons_succ, bC, e1, e2, pairC])
    | (with_reducible refine awp_drw 13 hX [0, 2] Tab.mixed (by kernel_rfl) ?_; simp [-List.reduceReplicate, Nat.add_one_le_iff, -getElem?_pos, -getElem?_neg, List.getElem?_cons_zero, List.getElem?_cons_succ, bC, e1, e2, pairC])
    | (refine (hexBytes_den _ (by decide) _).det ?_; try simp [-List.reduceReplicate, Nat.add_one_le_iff, -getElem?_pos, -getElem?_neg, List.getElem?_cons_zero, List.getElem?_cons_succ, bC, e1, e2, pairC])
    | (refine ⟨_, _, hexBytes_den _ (by decide) _, fun _ => rfl, ?_⟩; try simp [-List.reduceReplicate, Nat.add_one_le_iff, -getElem?_pos, -getElem?_neg, List.getElem?_cons_zero, List.getElem?_cons_succ, bC, e1, e2, pairC])
    | (refine (hexText_den _ _ (by decide)).det ?_; try simp [-List.reduceReplicate, Nat.add_one_le_iff, -getElem?_pos, -getElem?_neg, List.getElem?_cons_zero, List.getElem?_cons_succ, bC, e1, e2, pairC])
    | (refine ⟨_, _, hexText_den _ _ (by decide), fun _ => rfl, ?_⟩; try simp [-List.reduceReplicate, Nat.add_one_le_iff, -getElem?_pos, -getElem?_neg, List.getElem?_cons_zero, List.getElem?_cons_succ, bC, e1, e2, pairC])
    | (with_reducible refine awp_if_b rfl (fun hc => ?_) (fun hc => ?_) <;> (try simp [-getElem?_pos, -getElem?_neg] at hc) <;> (try (exfalso; omega)))
    | (with_reducible refine GuardK_b (fun hc => ?_) (fun hc => ?_) <;> (try simp only [Bool.not_eq_true', Bool.not_eq_false', decide_eq_true_eq, decide_eq_false_iff_not] at hc) <;> (first | (exfalso; omega) | skip) <;> simp [-List.reduceReplicate, Nat.add_one_le_iff, -getElem?_pos, -getElem?_neg, List.getElem?_cons_zero, List.getElem?_cons_succ, bC, e1, e2, pairC, hc])
    | (with_reducible refine DGuard_b _ _ _ _ _ _ _ _ _ _ (fun hc => ?_) (fun hc => ?_) <;> (try simp only [Bool.not_eq_true', Bool.not_eq_false', decide_eq_true_eq, decide_eq_false_iff_not] at hc) <;> (first | (exfalso; omega) | skip) <;> simp [-List.reduceReplicate, Nat.add_one_le_iff, -getElem?_pos, -getElem?_neg, List.getElem?_cons_zero, List.getElem?_cons_succ, bC, e1, e2, pairC, hc])
    | (with_reducible refine DEv_cut _ _ _ _ _ _ _ _ _ _ _ _ (by kernel_rfl) ?_; simp [-List.reduceReplicate, Nat.add_one_le_iff, -getElem?_pos, -getElem?_neg, List.getElem?_cons_zero, List.getElem?_cons_succ, bC, e1, e2, pairC])
    | (refine hother _ _ rfl ?_; simp only [inBlockA, thenA, noGotoA, Nat.reduceEqDiff, if_false, if_true, ↓reduceIte])
    | (refine hother2 _ _ rfl ?_; simp only [inBlockA, thenA, noGotoA, Nat.reduceEqDiff, if_false, if_true, ↓reduceIte])
    | (refine hother3 _ _ rfl ?_; simp only [inBlockA, thenA, noGotoA, Nat.reduceEqDiff, if_false, if_true, ↓reduceIte])
    | (refine And.intro (by omega) ?_)
    | (with_reducible change postOf _ _ _ _ _; simp [-List.reduceReplicate, Nat.add_one_le_iff, -getElem?_pos, -getElem?_neg, List.getElem?_cons_zero, List.getElem?_cons_succ, bC, e1, e2, pairC])
    | fail)
theorem hexTells_den (s : ByteArray) (ob : List Ob) : Den Try.prog 10 [.c (.v (.string s))] ob (fun r ob' => r = .c (bC true) ∧ ob' = ob) := by
  refine den_of Try.func10 rfl rfl (by simp [Try.ntmps10]) (fun X hX hO => ?_)
  rw [Try.ntmps10] at hX
  simp only [Try.results10]
  by_cases h : 5000 < s.size
  · repeat' (first 
      | with_reducible refine awp_scope ?_
      | with_reducible refine awp_seq ?_
      | with_reducible refine awp_block ?_
      | (with_reducible refine awp_label ?_; try simp only [thenA, inBlockA, noGotoA])
      | (with_reducible refine awp_skip ?_; try simp only [thenA, inBlockA, noGotoA])
      | (with_reducible refine awp_exit ?_; simp only [thenA, inBlockA, noGotoA, if_true, Nat.reduceEqDiff, if_false, ↓reduceIte])
      | (with_reducible refine awp_ret ?_; (try simp only [thenA, inBlockA, noGotoA]); (try simp [-List.reduceReplicate, Nat.add_one_le_iff, -getElem?_pos, -getElem?_neg, List.getElem?_cons_zero, List.getElem?_cons_succ, bC, h]))
      | (with_reducible refine awp_reg 16 hX [0, 2] ?_; simp [-List.reduceReplicate, Nat.add_one_le_iff, -getElem?_pos, -getElem?_neg, List.getElem?_cons_zero, List.getElem?_cons_succ, bC, h])
      | (with_reducible refine awp_drw 16 hX [0, 2] Tab.mixed (by kernel_rfl) ?_; simp [-List.reduceReplicate, Nat.add_one_le_iff, -getElem?_pos, -getElem?_neg, List.getElem?_cons_zero, List.getElem?_cons_succ, bC, h])
      | (refine (awake10_den _).det ?_; try simp [-List.reduceReplicate, Nat.add_one_le_iff, -getElem?_pos, -getElem?_neg, List.getElem?_cons_zero, List.getElem?_cons_succ, bC, h])
      | (refine ⟨_, _, awake10_den _, fun _ => rfl, ?_⟩; try simp [-List.reduceReplicate, Nat.add_one_le_iff, -getElem?_pos, -getElem?_neg, List.getElem?_cons_zero, List.getElem?_cons_succ, bC, h])
      | (with_reducible refine awp_if_b rfl (fun hc => ?_) (fun hc => ?_) <;> (try simp [-getElem?_pos, -getElem?_neg] at hc) <;> (try (exfalso; omega)))
      | (with_reducible refine GuardK_b (fun hc => ?_) (fun hc => ?_) <;> (try simp only [Bool.not_eq_true', Bool.not_eq_false', decide_eq_true_eq, decide_eq_false_iff_not] at hc) <;> (first | (exfalso; omega) | skip) <;> simp [-List.reduceReplicate, Nat.add_one_le_iff, -getElem?_pos, -getElem?_neg, List.getElem?_cons_zero, List.getElem?_cons_succ, bC, h, hc])
      | (with_reducible refine DGuard_b _ _ _ _ _ _ _ _ _ _ (fun hc => ?_) (fun hc => ?_) <;> (try simp only [Bool.not_eq_true', Bool.not_eq_false', decide_eq_true_eq, decide_eq_false_iff_not] at hc) <;> (first | (exfalso; omega) | skip) <;> simp [-List.reduceReplicate, Nat.add_one_le_iff, -getElem?_pos, -getElem?_neg, List.getElem?_cons_zero, List.getElem?_cons_succ, bC, h, hc])
      | (with_reducible refine DEv_cut _ _ _ _ _ _ _ _ _ _ _ _ (by kernel_rfl) ?_; simp [-List.reduceReplicate, Nat.add_one_le_iff, -getElem?_pos, -getElem?_neg, List.getElem?_cons_zero, List.getElem?_cons_succ, bC, h])
      | (refine hother _ _ rfl ?_; simp only [inBlockA, thenA, noGotoA, Nat.reduceEqDiff, if_false, if_true, ↓reduceIte])
      | (refine hother2 _ _ rfl ?_; simp only [inBlockA, thenA, noGotoA, Nat.reduceEqDiff, if_false, if_true, ↓reduceIte])
      | (refine hother3 _ _ rfl ?_; simp only [inBlockA, thenA, noGotoA, Nat.reduceEqDiff, if_false, if_true, ↓reduceIte])
      | (refine And.intro (by omega) ?_)
      | (with_reducible change postOf _ _ _ _ _; simp [-List.reduceReplicate, Nat.add_one_le_iff, -getElem?_pos, -getElem?_neg, List.getElem?_cons_zero, List.getElem?_cons_succ, bC, h])
      | fail)
  · repeat' (first 
      | with_reducible refine awp_scope ?_
      | with_reducible refine awp_seq ?_
      | with_reducible refine awp_block ?_
      | (with_reducible refine awp_label ?_; try simp only [thenA, inBlockA, noGotoA])
      | (with_reducible refine awp_skip ?_; try simp only [thenA, inBlockA, noGotoA])
      | (with_reducible refine awp_exit ?_; simp only [thenA, inBlockA, noGotoA, if_true, Nat.reduceEqDiff, if_false, ↓reduceIte])
      | (with_reducible refine awp_ret ?_; (try simp only [thenA, inBlockA, noGotoA]); (try simp [-List.reduceReplicate, Nat.add_one_le_iff, -getElem?_pos, -getElem?_neg, List.getElem?_cons_zero, List.getElem?_cons_succ, bC, h]))
      | (with_reducible refine awp_reg 16 hX [0, 2] ?_; simp [-List.reduceReplicate, Nat.add_one_le_iff, -getElem?_pos, -getElem?_neg, List.getElem?_cons_zero, List.getElem?_cons_succ, bC, h])
      | (with_reducible refine awp_drw 16 hX [0, 2] Tab.mixed (by kernel_rfl) ?_; simp [-List.reduceReplicate, Nat.add_one_le_iff, -getElem?_pos, -getElem?_neg, List.getElem?_cons_zero, List.getElem?_cons_succ, bC, h])
      | (refine (hexText_den _ _ (by omega)).det ?_; try simp [-List.reduceReplicate, Nat.add_one_le_iff, -getElem?_pos, -getElem?_neg, List.getElem?_cons_zero, List.getElem?_cons_succ, bC, h])
      | (refine ⟨_, _, hexText_den _ _ (by omega), fun _ => rfl, ?_⟩; try simp [-List.reduceReplicate, Nat.add_one_le_iff, -getElem?_pos, -getElem?_neg, List.getElem?_cons_zero, List.getElem?_cons_succ, bC, h])
      | (refine (hexText10_den _ _ (by omega)).det ?_; try simp [-List.reduceReplicate, Nat.add_one_le_iff, -getElem?_pos, -getElem?_neg, List.getElem?_cons_zero, List.getElem?_cons_succ, bC, h])
      | (refine ⟨_, _, hexText10_den _ _ (by omega), fun _ => rfl, ?_⟩; try simp [-List.reduceReplicate, Nat.add_one_le_iff, -getElem?_pos, -getElem?_neg, List.getElem?_cons_zero, List.getElem?_cons_succ, bC, h])
      | (refine (awake10_den _).det ?_; try simp [-List.reduceReplicate, Nat.add_one_le_iff, -getElem?_pos, -getElem?_neg, List.getElem?_cons_zero, List.getElem?_cons_succ, bC, h])
      | (refine ⟨_, _, awake10_den _, fun _ => rfl, ?_⟩; try simp [-List.reduceReplicate, Nat.add_one_le_iff, -getElem?_pos, -getElem?_neg, List.getElem?_cons_zero, List.getElem?_cons_succ, bC, h])
      | (with_reducible refine awp_if_b rfl (fun hc => ?_) (fun hc => ?_) <;> (try simp [-getElem?_pos, -getElem?_neg] at hc) <;> (try (exfalso; omega)))
      | (with_reducible refine GuardK_b (fun hc => ?_) (fun hc => ?_) <;> (try simp only [Bool.not_eq_true', Bool.not_eq_false', decide_eq_true_eq, decide_eq_false_iff_not] at hc) <;> (first | (exfalso; omega) | skip) <;> simp [-List.reduceReplicate, Nat.add_one_le_iff, -getElem?_pos, -getElem?_neg, List.getElem?_cons_zero, List.getElem?_cons_succ, bC, h, hc])
      | (with_reducible refine DGuard_b _ _ _ _ _ _ _ _ _ _ (fun hc => ?_) (fun hc => ?_) <;> (try simp only [Bool.not_eq_true', Bool.not_eq_false', decide_eq_true_eq, decide_eq_false_iff_not] at hc) <;> (first | (exfalso; omega) | skip) <;> simp [-List.reduceReplicate, Nat.add_one_le_iff, -getElem?_pos, -getElem?_neg, List.getElem?_cons_zero, List.getElem?_cons_succ, bC, h, hc])
      | (with_reducible refine DEv_cut _ _ _ _ _ _ _ _ _ _ _ _ (by kernel_rfl) ?_; simp [-List.reduceReplicate, Nat.add_one_le_iff, -getElem?_pos, -getElem?_neg, List.getElem?_cons_zero, List.getElem?_cons_succ, bC, h])
      | (refine hother _ _ rfl ?_; simp only [inBlockA, thenA, noGotoA, Nat.reduceEqDiff, if_false, if_true, ↓reduceIte])
      | (refine hother2 _ _ rfl ?_; simp only [inBlockA, thenA, noGotoA, Nat.reduceEqDiff, if_false, if_true, ↓reduceIte])
      | (refine hother3 _ _ rfl ?_; simp only [inBlockA, thenA, noGotoA, Nat.reduceEqDiff, if_false, if_true, ↓reduceIte])
      | (refine And.intro (by omega) ?_)
      | (with_reducible change postOf _ _ _ _ _; simp [-List.reduceReplicate, Nat.add_one_le_iff, -getElem?_pos, -getElem?_neg, List.getElem?_cons_zero, List.getElem?_cons_succ, bC, h])
      | fail)
theorem hexS_size (s : ByteArray) (h : s.size ≤ 5000) : (hexS s).size ≤ 10000 := by
  by_cases e : s.data.toList = []
  · unfold hexS; rw [if_pos e]; decide
  · rw [size_list, hexS_data s e, hx_len]; rw [size_list] at h; omega
theorem bytesR_size (s : ByteArray) (h : s.size ≤ 5000) : (bytesR s).1.size ≤ 5000 := by
  have hp := pairsTo_len s.data.toList s.size
  unfold bytesR
  repeat' split
  all_goals try exact Nat.zero_le _
  simp only
  rw [size_list, strI_data, List.length_map, hp]
  omega
theorem hexBack_den (s : ByteArray) (ob : List Ob) : Den Try.prog 11 [.c (.v (.string s))] ob (fun r ob' => r = .c (bC true) ∧ ob' = ob) := by
  refine den_of Try.func11 rfl rfl (by simp [Try.ntmps11]) (fun X hX hO => ?_)
  rw [Try.ntmps11] at hX
  simp only [Try.results11]
  by_cases h : 5000 < s.size
  · repeat' (first 
      | with_reducible refine awp_scope ?_
      | with_reducible refine awp_seq ?_
      | with_reducible refine awp_block ?_
      | (with_reducible refine awp_label ?_; try simp only [thenA, inBlockA, noGotoA])
      | (with_reducible refine awp_skip ?_; try simp only [thenA, inBlockA, noGotoA])
      | (with_reducible refine awp_exit ?_; simp only [thenA, inBlockA, noGotoA, if_true, Nat.reduceEqDiff, if_false, ↓reduceIte])
      | (with_reducible refine awp_ret ?_; (try simp only [thenA, inBlockA, noGotoA]); (try simp [-List.reduceReplicate, Nat.add_one_le_iff, -getElem?_pos, -getElem?_neg, List.getElem?_cons_zero, List.getElem?_cons_succ, bC, h]))
      | (with_reducible refine awp_reg 41 hX [0, 2, 3, 4, 5, 6, 9] ?_; simp [-List.reduceReplicate, Nat.add_one_le_iff, -getElem?_pos, -getElem?_neg, List.getElem?_cons_zero, List.getElem?_cons_succ, bC, h])
      | (with_reducible refine awp_drw 41 hX [0, 2, 3, 4, 5, 6, 9] Tab.mixed (by kernel_rfl) ?_; simp [-List.reduceReplicate, Nat.add_one_le_iff, -getElem?_pos, -getElem?_neg, List.getElem?_cons_zero, List.getElem?_cons_succ, bC, h])
      | (refine (awake10_den _).det ?_; try simp [-List.reduceReplicate, Nat.add_one_le_iff, -getElem?_pos, -getElem?_neg, List.getElem?_cons_zero, List.getElem?_cons_succ, bC, h])
      | (refine ⟨_, _, awake10_den _, fun _ => rfl, ?_⟩; try simp [-List.reduceReplicate, Nat.add_one_le_iff, -getElem?_pos, -getElem?_neg, List.getElem?_cons_zero, List.getElem?_cons_succ, bC, h])
      | (with_reducible refine awp_if_b rfl (fun hc => ?_) (fun hc => ?_) <;> (try simp [-getElem?_pos, -getElem?_neg] at hc) <;> (try (exfalso; omega)))
      | (with_reducible refine GuardK_b (fun hc => ?_) (fun hc => ?_) <;> (try simp only [Bool.not_eq_true', Bool.not_eq_false', decide_eq_true_eq, decide_eq_false_iff_not] at hc) <;> (first | (exfalso; omega) | skip) <;> simp [-List.reduceReplicate, Nat.add_one_le_iff, -getElem?_pos, -getElem?_neg, List.getElem?_cons_zero, List.getElem?_cons_succ, bC, h, hc])
      | (with_reducible refine DGuard_b _ _ _ _ _ _ _ _ _ _ (fun hc => ?_) (fun hc => ?_) <;> (try simp only [Bool.not_eq_true', Bool.not_eq_false', decide_eq_true_eq, decide_eq_false_iff_not] at hc) <;> (first | (exfalso; omega) | skip) <;> simp [-List.reduceReplicate, Nat.add_one_le_iff, -getElem?_pos, -getElem?_neg, List.getElem?_cons_zero, List.getElem?_cons_succ, bC, h, hc])
      | (with_reducible refine DEv_cut _ _ _ _ _ _ _ _ _ _ _ _ (by kernel_rfl) ?_; simp [-List.reduceReplicate, Nat.add_one_le_iff, -getElem?_pos, -getElem?_neg, List.getElem?_cons_zero, List.getElem?_cons_succ, bC, h])
      | (refine hother _ _ rfl ?_; simp only [inBlockA, thenA, noGotoA, Nat.reduceEqDiff, if_false, if_true, ↓reduceIte])
      | (refine hother2 _ _ rfl ?_; simp only [inBlockA, thenA, noGotoA, Nat.reduceEqDiff, if_false, if_true, ↓reduceIte])
      | (refine hother3 _ _ rfl ?_; simp only [inBlockA, thenA, noGotoA, Nat.reduceEqDiff, if_false, if_true, ↓reduceIte])
      | (refine And.intro (by omega) ?_)
      | (with_reducible change postOf _ _ _ _ _; simp [-List.reduceReplicate, Nat.add_one_le_iff, -getElem?_pos, -getElem?_neg, List.getElem?_cons_zero, List.getElem?_cons_succ, bC, h])
      | fail)
  · have h1 := hexS_size s (by omega)
    have h2 := bytesR_size s (by omega)
    have e1 := bytes_hex s
    have e2 := hex_bytes s
    cases hb : (bytesR s).2
    · repeat' (first 
        | with_reducible refine awp_scope ?_
        | with_reducible refine awp_seq ?_
        | with_reducible refine awp_block ?_
        | (with_reducible refine awp_label ?_; try simp only [thenA, inBlockA, noGotoA])
        | (with_reducible refine awp_skip ?_; try simp only [thenA, inBlockA, noGotoA])
        | (with_reducible refine awp_exit ?_; simp only [thenA, inBlockA, noGotoA, if_true, Nat.reduceEqDiff, if_false, ↓reduceIte])
        | (with_reducible refine awp_ret ?_; (try simp only [thenA, inBlockA, noGotoA]); (try simp [-List.reduceReplicate, Nat.add_one_le_iff, -getElem?_pos, -getElem?_neg, List.getElem?_cons_zero, List.getElem?_cons_succ, bC, h, e1, hb, pairC]))
        | (with_reducible refine awp_reg 41 hX [0, 2, 3, 4, 5, 6, 9] ?_; simp [-List.reduceReplicate, Nat.add_one_le_iff, -getElem?_pos, -getElem?_neg, List.getElem?_cons_zero, List.getElem?_cons_succ, bC, h, e1, hb, pairC])
        | (with_reducible refine awp_drw 41 hX [0, 2, 3, 4, 5, 6, 9] Tab.mixed (by kernel_rfl) ?_; simp [-List.reduceReplicate, Nat.add_one_le_iff, -getElem?_pos, -getElem?_neg, List.getElem?_cons_zero, List.getElem?_cons_succ, bC, h, e1, hb, pairC])
        | (refine (hexText_den _ _ (by omega)).det ?_; try simp [-List.reduceReplicate, Nat.add_one_le_iff, -getElem?_pos, -getElem?_neg, List.getElem?_cons_zero, List.getElem?_cons_succ, bC, h, e1, hb, pairC])
        | (refine ⟨_, _, hexText_den _ _ (by omega), fun _ => rfl, ?_⟩; try simp [-List.reduceReplicate, Nat.add_one_le_iff, -getElem?_pos, -getElem?_neg, List.getElem?_cons_zero, List.getElem?_cons_succ, bC, h, e1, hb, pairC])
        | (refine (hexBytes_den _ (by omega) _).det ?_; try simp [-List.reduceReplicate, Nat.add_one_le_iff, -getElem?_pos, -getElem?_neg, List.getElem?_cons_zero, List.getElem?_cons_succ, bC, h, e1, hb, pairC])
        | (refine ⟨_, _, hexBytes_den _ (by omega) _, fun _ => rfl, ?_⟩; try simp [-List.reduceReplicate, Nat.add_one_le_iff, -getElem?_pos, -getElem?_neg, List.getElem?_cons_zero, List.getElem?_cons_succ, bC, h, e1, hb, pairC])
        | (refine (awake10_den _).det ?_; try simp [-List.reduceReplicate, Nat.add_one_le_iff, -getElem?_pos, -getElem?_neg, List.getElem?_cons_zero, List.getElem?_cons_succ, bC, h, e1, hb, pairC])
        | (refine ⟨_, _, awake10_den _, fun _ => rfl, ?_⟩; try simp [-List.reduceReplicate, Nat.add_one_le_iff, -getElem?_pos, -getElem?_neg, List.getElem?_cons_zero, List.getElem?_cons_succ, bC, h, e1, hb, pairC])
        | (with_reducible refine awp_if_b rfl (fun hc => ?_) (fun hc => ?_) <;> (try simp [-getElem?_pos, -getElem?_neg] at hc) <;> (try (exfalso; omega)))
        | (with_reducible refine GuardK_b (fun hc => ?_) (fun hc => ?_) <;> (try simp only [Bool.not_eq_true', Bool.not_eq_false', decide_eq_true_eq, decide_eq_false_iff_not] at hc) <;> (first | (exfalso; omega) | skip) <;> simp [-List.reduceReplicate, Nat.add_one_le_iff, -getElem?_pos, -getElem?_neg, List.getElem?_cons_zero, List.getElem?_cons_succ, bC, h, e1, hb, pairC, hc])
        | (with_reducible refine DGuard_b _ _ _ _ _ _ _ _ _ _ (fun hc => ?_) (fun hc => ?_) <;> (try simp only [Bool.not_eq_true', Bool.not_eq_false', decide_eq_true_eq, decide_eq_false_iff_not] at hc) <;> (first | (exfalso; omega) | skip) <;> simp [-List.reduceReplicate, Nat.add_one_le_iff, -getElem?_pos, -getElem?_neg, List.getElem?_cons_zero, List.getElem?_cons_succ, bC, h, e1, hb, pairC, hc])
        | (with_reducible refine DEv_cut _ _ _ _ _ _ _ _ _ _ _ _ (by kernel_rfl) ?_; simp [-List.reduceReplicate, Nat.add_one_le_iff, -getElem?_pos, -getElem?_neg, List.getElem?_cons_zero, List.getElem?_cons_succ, bC, h, e1, hb, pairC])
        | (refine hother _ _ rfl ?_; simp only [inBlockA, thenA, noGotoA, Nat.reduceEqDiff, if_false, if_true, ↓reduceIte])
        | (refine hother2 _ _ rfl ?_; simp only [inBlockA, thenA, noGotoA, Nat.reduceEqDiff, if_false, if_true, ↓reduceIte])
        | (refine hother3 _ _ rfl ?_; simp only [inBlockA, thenA, noGotoA, Nat.reduceEqDiff, if_false, if_true, ↓reduceIte])
        | (refine And.intro (by omega) ?_)
        | (with_reducible change postOf _ _ _ _ _; simp [-List.reduceReplicate, Nat.add_one_le_iff, -getElem?_pos, -getElem?_neg, List.getElem?_cons_zero, List.getElem?_cons_succ, bC, h, e1, hb, pairC])
        | fail)
    · have e3 := e2 hb
      repeat' (first 
        | with_reducible refine awp_scope ?_
        | with_reducible refine awp_seq ?_
        | with_reducible refine awp_block ?_
        | (with_reducible refine awp_label ?_; try simp only [thenA, inBlockA, noGotoA])
        | (with_reducible refine awp_skip ?_; try simp only [thenA, inBlockA, noGotoA])
        | (with_reducible refine awp_exit ?_; simp only [thenA, inBlockA, noGotoA, if_true, Nat.reduceEqDiff, if_false, ↓reduceIte])
        | (with_reducible refine awp_ret ?_; (try simp only [thenA, inBlockA, noGotoA]); (try simp [-List.reduceReplicate, Nat.add_one_le_iff, -getElem?_pos, -getElem?_neg, List.getElem?_cons_zero, List.getElem?_cons_succ, bC, h, e1, hb, e3, pairC]))
        | (with_reducible refine awp_reg 41 hX [0, 2, 3, 4, 5, 6, 9] ?_; simp [-List.reduceReplicate, Nat.add_one_le_iff, -getElem?_pos, -getElem?_neg, List.getElem?_cons_zero, List.getElem?_cons_succ, bC, h, e1, hb, e3, pairC])
        | (with_reducible refine awp_drw 41 hX [0, 2, 3, 4, 5, 6, 9] Tab.mixed (by kernel_rfl) ?_; simp [-List.reduceReplicate, Nat.add_one_le_iff, -getElem?_pos, -getElem?_neg, List.getElem?_cons_zero, List.getElem?_cons_succ, bC, h, e1, hb, e3, pairC])
        | (refine (hexText_den _ _ (by omega)).det ?_; try simp [-List.reduceReplicate, Nat.add_one_le_iff, -getElem?_pos, -getElem?_neg, List.getElem?_cons_zero, List.getElem?_cons_succ, bC, h, e1, hb, e3, pairC])
        | (refine ⟨_, _, hexText_den _ _ (by omega), fun _ => rfl, ?_⟩; try simp [-List.reduceReplicate, Nat.add_one_le_iff, -getElem?_pos, -getElem?_neg, List.getElem?_cons_zero, List.getElem?_cons_succ, bC, h, e1, hb, e3, pairC])
        | (refine (hexBytes_den _ (by omega) _).det ?_; try simp [-List.reduceReplicate, Nat.add_one_le_iff, -getElem?_pos, -getElem?_neg, List.getElem?_cons_zero, List.getElem?_cons_succ, bC, h, e1, hb, e3, pairC])
        | (refine ⟨_, _, hexBytes_den _ (by omega) _, fun _ => rfl, ?_⟩; try simp [-List.reduceReplicate, Nat.add_one_le_iff, -getElem?_pos, -getElem?_neg, List.getElem?_cons_zero, List.getElem?_cons_succ, bC, h, e1, hb, e3, pairC])
        | (refine (awake10_den _).det ?_; try simp [-List.reduceReplicate, Nat.add_one_le_iff, -getElem?_pos, -getElem?_neg, List.getElem?_cons_zero, List.getElem?_cons_succ, bC, h, e1, hb, e3, pairC])
        | (refine ⟨_, _, awake10_den _, fun _ => rfl, ?_⟩; try simp [-List.reduceReplicate, Nat.add_one_le_iff, -getElem?_pos, -getElem?_neg, List.getElem?_cons_zero, List.getElem?_cons_succ, bC, h, e1, hb, e3, pairC])
        | (with_reducible refine awp_if_b rfl (fun hc => ?_) (fun hc => ?_) <;> (try simp [-getElem?_pos, -getElem?_neg] at hc) <;> (try (exfalso; omega)))
        | (with_reducible refine GuardK_b (fun hc => ?_) (fun hc => ?_) <;> (try simp only [Bool.not_eq_true', Bool.not_eq_false', decide_eq_true_eq, decide_eq_false_iff_not] at hc) <;> (first | (exfalso; omega) | skip) <;> simp [-List.reduceReplicate, Nat.add_one_le_iff, -getElem?_pos, -getElem?_neg, List.getElem?_cons_zero, List.getElem?_cons_succ, bC, h, e1, hb, e3, pairC, hc])
        | (with_reducible refine DGuard_b _ _ _ _ _ _ _ _ _ _ (fun hc => ?_) (fun hc => ?_) <;> (try simp only [Bool.not_eq_true', Bool.not_eq_false', decide_eq_true_eq, decide_eq_false_iff_not] at hc) <;> (first | (exfalso; omega) | skip) <;> simp [-List.reduceReplicate, Nat.add_one_le_iff, -getElem?_pos, -getElem?_neg, List.getElem?_cons_zero, List.getElem?_cons_succ, bC, h, e1, hb, e3, pairC, hc])
        | (with_reducible refine DEv_cut _ _ _ _ _ _ _ _ _ _ _ _ (by kernel_rfl) ?_; simp [-List.reduceReplicate, Nat.add_one_le_iff, -getElem?_pos, -getElem?_neg, List.getElem?_cons_zero, List.getElem?_cons_succ, bC, h, e1, hb, e3, pairC])
        | (refine hother _ _ rfl ?_; simp only [inBlockA, thenA, noGotoA, Nat.reduceEqDiff, if_false, if_true, ↓reduceIte])
        | (refine hother2 _ _ rfl ?_; simp only [inBlockA, thenA, noGotoA, Nat.reduceEqDiff, if_false, if_true, ↓reduceIte])
        | (refine hother3 _ _ rfl ?_; simp only [inBlockA, thenA, noGotoA, Nat.reduceEqDiff, if_false, if_true, ↓reduceIte])
        | (refine And.intro (by omega) ?_)
        | (with_reducible change postOf _ _ _ _ _; simp [-List.reduceReplicate, Nat.add_one_le_iff, -getElem?_pos, -getElem?_neg, List.getElem?_cons_zero, List.getElem?_cons_succ, bC, h, e1, hb, e3, pairC])
        | fail)
theorem hexReads_den (s : ByteArray) (ob : List Ob) : Den Try.prog 13 [.c (.v (.string s))] ob (fun r ob' => r = .c (bC true) ∧ ob' = ob) := by
  refine Den.dropC ?_
  refine den_of Try.func13 rfl rfl (by simp [Try.ntmps13]) (fun X hX hO => ?_)
  rw [Try.ntmps13] at hX
  simp only [Try.results13]
  by_cases h : 5000 < s.size
  · repeat' (first 
      | with_reducible refine awp_scope ?_
      | with_reducible refine awp_seq ?_
      | with_reducible refine awp_block ?_
      | (with_reducible refine awp_label ?_; try simp only [thenA, inBlockA, noGotoA])
      | (with_reducible refine awp_skip ?_; try simp only [thenA, inBlockA, noGotoA])
      | (with_reducible refine awp_exit ?_; simp only [thenA, inBlockA, noGotoA, if_true, Nat.reduceEqDiff, if_false, ↓reduceIte])
      | (with_reducible refine awp_ret ?_; (try simp only [thenA, inBlockA, noGotoA]); (try simp [-List.reduceReplicate, Nat.add_one_le_iff, -getElem?_pos, -getElem?_neg, List.getElem?_cons_zero, List.getElem?_cons_succ, bC, h]))
      | (with_reducible refine awp_reg 65 hX [0, 2, 3, 4, 5, 6, 7, 8, 11, 53] ?_; simp [-List.reduceReplicate, Nat.add_one_le_iff, -getElem?_pos, -getElem?_neg, List.getElem?_cons_zero, List.getElem?_cons_succ, bC, h])
      | (with_reducible refine awp_drw 65 hX [0, 2, 3, 4, 5, 6, 7, 8, 11, 53] Tab.mixed (by kernel_rfl) ?_; simp [-List.reduceReplicate, Nat.add_one_le_iff, -getElem?_pos, -getElem?_neg, List.getElem?_cons_zero, List.getElem?_cons_succ, bC, h])
      | (refine (awake10_den _).det ?_; try simp [-List.reduceReplicate, Nat.add_one_le_iff, -getElem?_pos, -getElem?_neg, List.getElem?_cons_zero, List.getElem?_cons_succ, bC, h])
      | (refine ⟨_, _, awake10_den _, fun _ => rfl, ?_⟩; try simp [-List.reduceReplicate, Nat.add_one_le_iff, -getElem?_pos, -getElem?_neg, List.getElem?_cons_zero, List.getElem?_cons_succ, bC, h])
      | (with_reducible refine awp_if_b rfl (fun hc => ?_) (fun hc => ?_) <;> (try simp [-getElem?_pos, -getElem?_neg] at hc) <;> (try (exfalso; omega)))
      | (with_reducible refine GuardK_b (fun hc => ?_) (fun hc => ?_) <;> (try simp only [Bool.not_eq_true', Bool.not_eq_false', decide_eq_true_eq, decide_eq_false_iff_not] at hc) <;> (first | (exfalso; omega) | skip) <;> simp [-List.reduceReplicate, Nat.add_one_le_iff, -getElem?_pos, -getElem?_neg, List.getElem?_cons_zero, List.getElem?_cons_succ, bC, h, hc])
      | (with_reducible refine DGuard_b _ _ _ _ _ _ _ _ _ _ (fun hc => ?_) (fun hc => ?_) <;> (try simp only [Bool.not_eq_true', Bool.not_eq_false', decide_eq_true_eq, decide_eq_false_iff_not] at hc) <;> (first | (exfalso; omega) | skip) <;> simp [-List.reduceReplicate, Nat.add_one_le_iff, -getElem?_pos, -getElem?_neg, List.getElem?_cons_zero, List.getElem?_cons_succ, bC, h, hc])
      | (with_reducible refine DEv_cut _ _ _ _ _ _ _ _ _ _ _ _ (by kernel_rfl) ?_; simp [-List.reduceReplicate, Nat.add_one_le_iff, -getElem?_pos, -getElem?_neg, List.getElem?_cons_zero, List.getElem?_cons_succ, bC, h])
      | (refine hother _ _ rfl ?_; simp only [inBlockA, thenA, noGotoA, Nat.reduceEqDiff, if_false, if_true, ↓reduceIte])
      | (refine hother2 _ _ rfl ?_; simp only [inBlockA, thenA, noGotoA, Nat.reduceEqDiff, if_false, if_true, ↓reduceIte])
      | (refine hother3 _ _ rfl ?_; simp only [inBlockA, thenA, noGotoA, Nat.reduceEqDiff, if_false, if_true, ↓reduceIte])
      | (refine And.intro (by omega) ?_)
      | (with_reducible change postOf _ _ _ _ _; simp [-List.reduceReplicate, Nat.add_one_le_iff, -getElem?_pos, -getElem?_neg, List.getElem?_cons_zero, List.getElem?_cons_succ, bC, h])
      | fail)
  · cases h1 : (bytesR s).2
    · have e : sumR s = (List.replicate 32 0, false) := by unfold sumR; rw [if_neg (by simp [h1])]
      repeat' (first 
        | with_reducible refine awp_scope ?_
        | with_reducible refine awp_seq ?_
        | with_reducible refine awp_block ?_
        | (with_reducible refine awp_label ?_; try simp only [thenA, inBlockA, noGotoA])
        | (with_reducible refine awp_skip ?_; try simp only [thenA, inBlockA, noGotoA])
        | (with_reducible refine awp_exit ?_; simp only [thenA, inBlockA, noGotoA, if_true, Nat.reduceEqDiff, if_false, ↓reduceIte])
        | (with_reducible refine awp_ret ?_; (try simp only [thenA, inBlockA, noGotoA]); (try simp [-List.reduceReplicate, Nat.add_one_le_iff, -getElem?_pos, -getElem?_neg, List.getElem?_cons_zero, List.getElem?_cons_succ, bC, h, e, h1, pairC, hashM, eq_zero_hash]))
        | (with_reducible refine awp_reg 65 hX [0, 2, 3, 4, 5, 6, 7, 8, 11, 53] ?_; simp [-List.reduceReplicate, Nat.add_one_le_iff, -getElem?_pos, -getElem?_neg, List.getElem?_cons_zero, List.getElem?_cons_succ, bC, h, e, h1, pairC, hashM, eq_zero_hash])
        | (with_reducible refine awp_drw 65 hX [0, 2, 3, 4, 5, 6, 7, 8, 11, 53] Tab.mixed (by kernel_rfl) ?_; simp [-List.reduceReplicate, Nat.add_one_le_iff, -getElem?_pos, -getElem?_neg, List.getElem?_cons_zero, List.getElem?_cons_succ, bC, h, e, h1, pairC, hashM, eq_zero_hash])
        | (refine (hexBytes_den _ (by omega) _).det ?_; try simp [-List.reduceReplicate, Nat.add_one_le_iff, -getElem?_pos, -getElem?_neg, List.getElem?_cons_zero, List.getElem?_cons_succ, bC, h, e, h1, pairC, hashM, eq_zero_hash])
        | (refine ⟨_, _, hexBytes_den _ (by omega) _, fun _ => rfl, ?_⟩; try simp [-List.reduceReplicate, Nat.add_one_le_iff, -getElem?_pos, -getElem?_neg, List.getElem?_cons_zero, List.getElem?_cons_succ, bC, h, e, h1, pairC, hashM, eq_zero_hash])
        | (refine (bytes10_den _ (by omega) _).det ?_; try simp [-List.reduceReplicate, Nat.add_one_le_iff, -getElem?_pos, -getElem?_neg, List.getElem?_cons_zero, List.getElem?_cons_succ, bC, h, e, h1, pairC, hashM, eq_zero_hash])
        | (refine ⟨_, _, bytes10_den _ (by omega) _, fun _ => rfl, ?_⟩; try simp [-List.reduceReplicate, Nat.add_one_le_iff, -getElem?_pos, -getElem?_neg, List.getElem?_cons_zero, List.getElem?_cons_succ, bC, h, e, h1, pairC, hashM, eq_zero_hash])
        | (refine (hexSum_den _ (by omega) _).det ?_; try simp [-List.reduceReplicate, Nat.add_one_le_iff, -getElem?_pos, -getElem?_neg, List.getElem?_cons_zero, List.getElem?_cons_succ, bC, h, e, h1, pairC, hashM, eq_zero_hash])
        | (refine ⟨_, _, hexSum_den _ (by omega) _, fun _ => rfl, ?_⟩; try simp [-List.reduceReplicate, Nat.add_one_le_iff, -getElem?_pos, -getElem?_neg, List.getElem?_cons_zero, List.getElem?_cons_succ, bC, h, e, h1, pairC, hashM, eq_zero_hash])
        | (refine (awake10_den _).det ?_; try simp [-List.reduceReplicate, Nat.add_one_le_iff, -getElem?_pos, -getElem?_neg, List.getElem?_cons_zero, List.getElem?_cons_succ, bC, h, e, h1, pairC, hashM, eq_zero_hash])
        | (refine ⟨_, _, awake10_den _, fun _ => rfl, ?_⟩; try simp [-List.reduceReplicate, Nat.add_one_le_iff, -getElem?_pos, -getElem?_neg, List.getElem?_cons_zero, List.getElem?_cons_succ, bC, h, e, h1, pairC, hashM, eq_zero_hash])
        | (with_reducible refine awp_if_b rfl (fun hc => ?_) (fun hc => ?_) <;> (try simp [-getElem?_pos, -getElem?_neg] at hc) <;> (try (exfalso; omega)))
        | (with_reducible refine GuardK_b (fun hc => ?_) (fun hc => ?_) <;> (try simp only [Bool.not_eq_true', Bool.not_eq_false', decide_eq_true_eq, decide_eq_false_iff_not] at hc) <;> (first | (exfalso; omega) | skip) <;> simp [-List.reduceReplicate, Nat.add_one_le_iff, -getElem?_pos, -getElem?_neg, List.getElem?_cons_zero, List.getElem?_cons_succ, bC, h, e, h1, pairC, hashM, eq_zero_hash, hc])
        | (with_reducible refine DGuard_b _ _ _ _ _ _ _ _ _ _ (fun hc => ?_) (fun hc => ?_) <;> (try simp only [Bool.not_eq_true', Bool.not_eq_false', decide_eq_true_eq, decide_eq_false_iff_not] at hc) <;> (first | (exfalso; omega) | skip) <;> simp [-List.reduceReplicate, Nat.add_one_le_iff, -getElem?_pos, -getElem?_neg, List.getElem?_cons_zero, List.getElem?_cons_succ, bC, h, e, h1, pairC, hashM, eq_zero_hash, hc])
        | (with_reducible refine DEv_cut _ _ _ _ _ _ _ _ _ _ _ _ (by kernel_rfl) ?_; simp [-List.reduceReplicate, Nat.add_one_le_iff, -getElem?_pos, -getElem?_neg, List.getElem?_cons_zero, List.getElem?_cons_succ, bC, h, e, h1, pairC, hashM, eq_zero_hash])
        | (refine hother _ _ rfl ?_; simp only [inBlockA, thenA, noGotoA, Nat.reduceEqDiff, if_false, if_true, ↓reduceIte])
        | (refine hother2 _ _ rfl ?_; simp only [inBlockA, thenA, noGotoA, Nat.reduceEqDiff, if_false, if_true, ↓reduceIte])
        | (refine hother3 _ _ rfl ?_; simp only [inBlockA, thenA, noGotoA, Nat.reduceEqDiff, if_false, if_true, ↓reduceIte])
        | (refine And.intro (by omega) ?_)
        | (with_reducible change postOf _ _ _ _ _; simp [-List.reduceReplicate, Nat.add_one_le_iff, -getElem?_pos, -getElem?_neg, List.getElem?_cons_zero, List.getElem?_cons_succ, bC, h, e, h1, pairC, hashM, eq_zero_hash])
        | fail)
    · by_cases h2 : (bytesR s).1.size = 32
      · have e : sumR s = ((bytesR s).1.data.toList, true) := by unfold sumR; rw [if_pos ⟨h1, h2⟩]
        have hl : (bytesR s).1.data.toList.length = 32 := by simp [h2]
        have htk : ((bytesR s).1.data.toList.map bC8).take 32 = (bytesR s).1.data.toList.map bC8 := List.take_of_length_le (by simp [hl])
        repeat' (first 
          | with_reducible refine awp_scope ?_
          | with_reducible refine awp_seq ?_
          | with_reducible refine awp_block ?_
          | (with_reducible refine awp_label ?_; try simp only [thenA, inBlockA, noGotoA])
          | (with_reducible refine awp_skip ?_; try simp only [thenA, inBlockA, noGotoA])
          | (with_reducible refine awp_exit ?_; simp only [thenA, inBlockA, noGotoA, if_true, Nat.reduceEqDiff, if_false, ↓reduceIte])
          | (with_reducible refine awp_ret ?_; (try simp only [thenA, inBlockA, noGotoA]); (try simp [-List.reduceReplicate, Nat.add_one_le_iff, -getElem?_pos, -getElem?_neg, List.getElem?_cons_zero, List.getElem?_cons_succ, bC, h, e, h1, h2, pairC, hashM, htk]))
          | (with_reducible refine awp_reg 65 hX [0, 2, 3, 4, 5, 6, 7, 8, 11, 53] ?_; simp [-List.reduceReplicate, Nat.add_one_le_iff, -getElem?_pos, -getElem?_neg, List.getElem?_cons_zero, List.getElem?_cons_succ, bC, h, e, h1, h2, pairC, hashM, htk])
          | (with_reducible refine awp_drw 65 hX [0, 2, 3, 4, 5, 6, 7, 8, 11, 53] Tab.mixed (by kernel_rfl) ?_; simp [-List.reduceReplicate, Nat.add_one_le_iff, -getElem?_pos, -getElem?_neg, List.getElem?_cons_zero, List.getElem?_cons_succ, bC, h, e, h1, h2, pairC, hashM, htk])
          | (refine (hexBytes_den _ (by omega) _).det ?_; try simp [-List.reduceReplicate, Nat.add_one_le_iff, -getElem?_pos, -getElem?_neg, List.getElem?_cons_zero, List.getElem?_cons_succ, bC, h, e, h1, h2, pairC, hashM, htk])
          | (refine ⟨_, _, hexBytes_den _ (by omega) _, fun _ => rfl, ?_⟩; try simp [-List.reduceReplicate, Nat.add_one_le_iff, -getElem?_pos, -getElem?_neg, List.getElem?_cons_zero, List.getElem?_cons_succ, bC, h, e, h1, h2, pairC, hashM, htk])
          | (refine (bytes10_den _ (by omega) _).det ?_; try simp [-List.reduceReplicate, Nat.add_one_le_iff, -getElem?_pos, -getElem?_neg, List.getElem?_cons_zero, List.getElem?_cons_succ, bC, h, e, h1, h2, pairC, hashM, htk])
          | (refine ⟨_, _, bytes10_den _ (by omega) _, fun _ => rfl, ?_⟩; try simp [-List.reduceReplicate, Nat.add_one_le_iff, -getElem?_pos, -getElem?_neg, List.getElem?_cons_zero, List.getElem?_cons_succ, bC, h, e, h1, h2, pairC, hashM, htk])
          | (refine (hexSum_den _ (by omega) _).det ?_; try simp [-List.reduceReplicate, Nat.add_one_le_iff, -getElem?_pos, -getElem?_neg, List.getElem?_cons_zero, List.getElem?_cons_succ, bC, h, e, h1, h2, pairC, hashM, htk])
          | (refine ⟨_, _, hexSum_den _ (by omega) _, fun _ => rfl, ?_⟩; try simp [-List.reduceReplicate, Nat.add_one_le_iff, -getElem?_pos, -getElem?_neg, List.getElem?_cons_zero, List.getElem?_cons_succ, bC, h, e, h1, h2, pairC, hashM, htk])
          | (refine (raw_den (bytesR s).1.data.toList hl _).det ?_; try simp [-List.reduceReplicate, Nat.add_one_le_iff, -getElem?_pos, -getElem?_neg, List.getElem?_cons_zero, List.getElem?_cons_succ, bC, h, e, h1, h2, pairC, hashM, htk])
          | (refine ⟨_, _, raw_den (bytesR s).1.data.toList hl _, fun _ => rfl, ?_⟩; try simp [-List.reduceReplicate, Nat.add_one_le_iff, -getElem?_pos, -getElem?_neg, List.getElem?_cons_zero, List.getElem?_cons_succ, bC, h, e, h1, h2, pairC, hashM, htk])
          | (refine (awake10_den _).det ?_; try simp [-List.reduceReplicate, Nat.add_one_le_iff, -getElem?_pos, -getElem?_neg, List.getElem?_cons_zero, List.getElem?_cons_succ, bC, h, e, h1, h2, pairC, hashM, htk])
          | (refine ⟨_, _, awake10_den _, fun _ => rfl, ?_⟩; try simp [-List.reduceReplicate, Nat.add_one_le_iff, -getElem?_pos, -getElem?_neg, List.getElem?_cons_zero, List.getElem?_cons_succ, bC, h, e, h1, h2, pairC, hashM, htk])
          | (with_reducible refine awp_if_b rfl (fun hc => ?_) (fun hc => ?_) <;> (try simp [-getElem?_pos, -getElem?_neg] at hc) <;> (try (exfalso; omega)))
          | (with_reducible refine GuardK_b (fun hc => ?_) (fun hc => ?_) <;> (try simp only [Bool.not_eq_true', Bool.not_eq_false', decide_eq_true_eq, decide_eq_false_iff_not] at hc) <;> (first | (exfalso; omega) | skip) <;> simp [-List.reduceReplicate, Nat.add_one_le_iff, -getElem?_pos, -getElem?_neg, List.getElem?_cons_zero, List.getElem?_cons_succ, bC, h, e, h1, h2, pairC, hashM, htk, hc])
          | (with_reducible refine DGuard_b _ _ _ _ _ _ _ _ _ _ (fun hc => ?_) (fun hc => ?_) <;> (try simp only [Bool.not_eq_true', Bool.not_eq_false', decide_eq_true_eq, decide_eq_false_iff_not] at hc) <;> (first | (exfalso; omega) | skip) <;> simp [-List.reduceReplicate, Nat.add_one_le_iff, -getElem?_pos, -getElem?_neg, List.getElem?_cons_zero, List.getElem?_cons_succ, bC, h, e, h1, h2, pairC, hashM, htk, hc])
          | (with_reducible refine DEv_cut _ _ _ _ _ _ _ _ _ _ _ _ (by kernel_rfl) ?_; simp [-List.reduceReplicate, Nat.add_one_le_iff, -getElem?_pos, -getElem?_neg, List.getElem?_cons_zero, List.getElem?_cons_succ, bC, h, e, h1, h2, pairC, hashM, htk])
          | (refine hother _ _ rfl ?_; simp only [inBlockA, thenA, noGotoA, Nat.reduceEqDiff, if_false, if_true, ↓reduceIte])
          | (refine hother2 _ _ rfl ?_; simp only [inBlockA, thenA, noGotoA, Nat.reduceEqDiff, if_false, if_true, ↓reduceIte])
          | (refine hother3 _ _ rfl ?_; simp only [inBlockA, thenA, noGotoA, Nat.reduceEqDiff, if_false, if_true, ↓reduceIte])
          | (refine And.intro (by omega) ?_)
          | (with_reducible change postOf _ _ _ _ _; simp [-List.reduceReplicate, Nat.add_one_le_iff, -getElem?_pos, -getElem?_neg, List.getElem?_cons_zero, List.getElem?_cons_succ, bC, h, e, h1, h2, pairC, hashM, htk])
          | fail)
      · have e : sumR s = (List.replicate 32 0, false) := by unfold sumR; rw [if_neg (by simp [h2])]
        have h3 : ¬ ((bytesR s).1.size : Int) = 32 := by omega
        repeat' (first 
          | with_reducible refine awp_scope ?_
          | with_reducible refine awp_seq ?_
          | with_reducible refine awp_block ?_
          | (with_reducible refine awp_label ?_; try simp only [thenA, inBlockA, noGotoA])
          | (with_reducible refine awp_skip ?_; try simp only [thenA, inBlockA, noGotoA])
          | (with_reducible refine awp_exit ?_; simp only [thenA, inBlockA, noGotoA, if_true, Nat.reduceEqDiff, if_false, ↓reduceIte])
          | (with_reducible refine awp_ret ?_; (try simp only [thenA, inBlockA, noGotoA]); (try simp [-List.reduceReplicate, Nat.add_one_le_iff, -getElem?_pos, -getElem?_neg, List.getElem?_cons_zero, List.getElem?_cons_succ, bC, h, e, h1, h2, h3, pairC, hashM, eq_zero_hash]))
          | (with_reducible refine awp_reg 65 hX [0, 2, 3, 4, 5, 6, 7, 8, 11, 53] ?_; simp [-List.reduceReplicate, Nat.add_one_le_iff, -getElem?_pos, -getElem?_neg, List.getElem?_cons_zero, List.getElem?_cons_succ, bC, h, e, h1, h2, h3, pairC, hashM, eq_zero_hash])
          | (with_reducible refine awp_drw 65 hX [0, 2, 3, 4, 5, 6, 7, 8, 11, 53] Tab.mixed (by kernel_rfl) ?_; simp [-List.reduceReplicate, Nat.add_one_le_iff, -getElem?_pos, -getElem?_neg, List.getElem?_cons_zero, List.getElem?_cons_succ, bC, h, e, h1, h2, h3, pairC, hashM, eq_zero_hash])
          | (refine (hexBytes_den _ (by omega) _).det ?_; try simp [-List.reduceReplicate, Nat.add_one_le_iff, -getElem?_pos, -getElem?_neg, List.getElem?_cons_zero, List.getElem?_cons_succ, bC, h, e, h1, h2, h3, pairC, hashM, eq_zero_hash])
          | (refine ⟨_, _, hexBytes_den _ (by omega) _, fun _ => rfl, ?_⟩; try simp [-List.reduceReplicate, Nat.add_one_le_iff, -getElem?_pos, -getElem?_neg, List.getElem?_cons_zero, List.getElem?_cons_succ, bC, h, e, h1, h2, h3, pairC, hashM, eq_zero_hash])
          | (refine (bytes10_den _ (by omega) _).det ?_; try simp [-List.reduceReplicate, Nat.add_one_le_iff, -getElem?_pos, -getElem?_neg, List.getElem?_cons_zero, List.getElem?_cons_succ, bC, h, e, h1, h2, h3, pairC, hashM, eq_zero_hash])
          | (refine ⟨_, _, bytes10_den _ (by omega) _, fun _ => rfl, ?_⟩; try simp [-List.reduceReplicate, Nat.add_one_le_iff, -getElem?_pos, -getElem?_neg, List.getElem?_cons_zero, List.getElem?_cons_succ, bC, h, e, h1, h2, h3, pairC, hashM, eq_zero_hash])
          | (refine (hexSum_den _ (by omega) _).det ?_; try simp [-List.reduceReplicate, Nat.add_one_le_iff, -getElem?_pos, -getElem?_neg, List.getElem?_cons_zero, List.getElem?_cons_succ, bC, h, e, h1, h2, h3, pairC, hashM, eq_zero_hash])
          | (refine ⟨_, _, hexSum_den _ (by omega) _, fun _ => rfl, ?_⟩; try simp [-List.reduceReplicate, Nat.add_one_le_iff, -getElem?_pos, -getElem?_neg, List.getElem?_cons_zero, List.getElem?_cons_succ, bC, h, e, h1, h2, h3, pairC, hashM, eq_zero_hash])
          | (refine (awake10_den _).det ?_; try simp [-List.reduceReplicate, Nat.add_one_le_iff, -getElem?_pos, -getElem?_neg, List.getElem?_cons_zero, List.getElem?_cons_succ, bC, h, e, h1, h2, h3, pairC, hashM, eq_zero_hash])
          | (refine ⟨_, _, awake10_den _, fun _ => rfl, ?_⟩; try simp [-List.reduceReplicate, Nat.add_one_le_iff, -getElem?_pos, -getElem?_neg, List.getElem?_cons_zero, List.getElem?_cons_succ, bC, h, e, h1, h2, h3, pairC, hashM, eq_zero_hash])
          | (with_reducible refine awp_if_b rfl (fun hc => ?_) (fun hc => ?_) <;> (try simp [-getElem?_pos, -getElem?_neg] at hc) <;> (try (exfalso; omega)))
          | (with_reducible refine GuardK_b (fun hc => ?_) (fun hc => ?_) <;> (try simp only [Bool.not_eq_true', Bool.not_eq_false', decide_eq_true_eq, decide_eq_false_iff_not] at hc) <;> (first | (exfalso; omega) | skip) <;> simp [-List.reduceReplicate, Nat.add_one_le_iff, -getElem?_pos, -getElem?_neg, List.getElem?_cons_zero, List.getElem?_cons_succ, bC, h, e, h1, h2, h3, pairC, hashM, eq_zero_hash, hc])
          | (with_reducible refine DGuard_b _ _ _ _ _ _ _ _ _ _ (fun hc => ?_) (fun hc => ?_) <;> (try simp only [Bool.not_eq_true', Bool.not_eq_false', decide_eq_true_eq, decide_eq_false_iff_not] at hc) <;> (first | (exfalso; omega) | skip) <;> simp [-List.reduceReplicate, Nat.add_one_le_iff, -getElem?_pos, -getElem?_neg, List.getElem?_cons_zero, List.getElem?_cons_succ, bC, h, e, h1, h2, h3, pairC, hashM, eq_zero_hash, hc])
          | (with_reducible refine DEv_cut _ _ _ _ _ _ _ _ _ _ _ _ (by kernel_rfl) ?_; simp [-List.reduceReplicate, Nat.add_one_le_iff, -getElem?_pos, -getElem?_neg, List.getElem?_cons_zero, List.getElem?_cons_succ, bC, h, e, h1, h2, h3, pairC, hashM, eq_zero_hash])
          | (refine hother _ _ rfl ?_; simp only [inBlockA, thenA, noGotoA, Nat.reduceEqDiff, if_false, if_true, ↓reduceIte])
          | (refine hother2 _ _ rfl ?_; simp only [inBlockA, thenA, noGotoA, Nat.reduceEqDiff, if_false, if_true, ↓reduceIte])
          | (refine hother3 _ _ rfl ?_; simp only [inBlockA, thenA, noGotoA, Nat.reduceEqDiff, if_false, if_true, ↓reduceIte])
          | (refine And.intro (by omega) ?_)
          | (with_reducible change postOf _ _ _ _ _; simp [-List.reduceReplicate, Nat.add_one_le_iff, -getElem?_pos, -getElem?_neg, List.getElem?_cons_zero, List.getElem?_cons_succ, bC, h, e, h1, h2, h3, pairC, hashM, eq_zero_hash])
          | fail)
end Go.Av
