import Derived.Test.YtfdbbkhglohkaaaAvT15
import Derived.Test.YtfdbbkhglohkaaaAv23
set_option linter.unusedVariables false
set_option linter.unusedSimpArgs false
set_option maxRecDepth 100000
set_option maxHeartbeats 4000000
namespace Go.Av
open Go Go.Proofs Go.Proofs.Ytfdbbkhglohkaaa
def allB (l : List UInt8) : Bool := l.all fun b => decide (figB b ≤ 15)
def bytesR (s : ByteArray) : ByteArray × Bool :=
  if s.data.toList = [45] then (⟨#[]⟩, true) else if s.data.toList = [] ∨ s.size % 2 ≠ 0 then (⟨#[]⟩, false) else
    if allB s.data.toList = true then (strI (pairsTo s.data.toList s.size), true) else (⟨#[]⟩, false)
def pairC (p : ByteArray × Bool) : M := .tup [.c (.v (.string p.1)), .c (.v (.bool p.2))]
theorem dash : (⟨#[45]⟩ : ByteArray).toList = [45] := by rw [toList_data]
theorem decode_hi (s : ByteArray) (i : Nat) (h : 128 ≤ (s.get! i).toNat) : ∃ r n, Utf8.decode s i = (r, n) ∧ 128 ≤ r ∧ r ≤ 2147483647 := by
  unfold Utf8.decode
  simp only [Nat.add_zero]
  rw [if_neg (by omega)]
  have e : Utf8.runeError = 65533 := rfl
  have l0 := (s.get! i).toNat_lt
  repeat' split
  all_goals refine ⟨_, _, rfl, ?_, ?_⟩
  all_goals (simp only [Bool.and_eq_true, decide_eq_true_eq] at *)
  all_goals omega
theorem byte_get (s : ByteArray) (i : Nat) (c : UInt8) (hc : s.data.toList[i]? = some c) : s.get! i = c := by
  have h : i < s.data.size := by
    have := (List.getElem?_eq_some_iff.1 hc).1
    simpa using this
  obtain ⟨d⟩ := s
  show d[i]! = c
  simp only at h
  rw [getElem!_pos d i h]
  have := (List.getElem?_eq_some_iff.1 hc).2
  simpa using this
theorem figB_lt (b : UInt8) (h : figB b ≤ 15) : b.toNat < 128 := by
  by_cases e : b.toNat < 128
  · exact e
  · have := figV_hi (b.toNat : Int) (by omega)
    unfold figB at h
    omega
theorem hiB_in (l : List UInt8) (i : Nat) (h : okTo l i) (hi : i ≤ l.length) : 0 ≤ hiB l i ∧ hiB l i ≤ 15 := by
  cases i with
  | zero => simp [hiB]
  | succ i =>
    obtain ⟨b, hb⟩ := getI l (i : Nat) (by omega) (by omega)
    simp only [Int.toNat_natCast] at hb
    have h1 := h i b (by omega) hb
    have h2 := figV_lo (b.toNat : Int)
    have e : hiB l (i + 1) = figB b := by simp only [hiB, List.getD_eq_getElem?_getD, hb]; rfl
    rw [e]
    exact ⟨h2.1, h1⟩
theorem okTo_succ {l : List UInt8} {i : Nat} {c : UInt8} (h : okTo l i) (hc : l[i]? = some c) (hf : figB c ≤ 15) : okTo l (i + 1) := by
  intro j b hj hb
  by_cases e : j = i
  · subst e
    rw [hc] at hb
    obtain rfl := Option.some.inj hb
    exact hf
  · exact h j b (by omega) hb
theorem or4' (a b : Int) (ha : 0 ≤ a ∧ a ≤ 15) (hb : 0 ≤ b ∧ b ≤ 15) : orI .i64 (a * 16) b = 16 * a + b := by
  have := or4 ⟨a.toNat, by omega⟩ ⟨b.toNat, by omega⟩
  simp only at this
  rw [show ((a.toNat : Nat) : Int) = a by omega, show ((b.toNat : Nat) : Int) = b by omega] at this
  exact this
theorem hexBytes_den (s : ByteArray) (hn : s.size ≤ 1000000) : DenV Try.prog 35 [.c (.v (.string s))] (pairC (bytesR s)) := by
  intro ob
  refine Den.dropM rfl ?_
  refine den_of Try.func35 rfl rfl (by simp [Try.ntmps35]) (fun X hX hO => ?_)
  rw [Try.ntmps35] at hX
  simp only [Try.results35]
  have hsz : s.data.toList.length = s.size := by simp
  have htl := toList_data s
  by_cases h0 : s.data.toList = [45]
  · repeat' (first 
      | with_reducible refine awp_scope ?_
      | with_reducible refine awp_seq ?_
      | with_reducible refine awp_block ?_
      | (with_reducible refine awp_label ?_; try simp only [thenA, inBlockA, noGotoA])
      | (with_reducible refine awp_skip ?_; try simp only [thenA, inBlockA, noGotoA])
      | (with_reducible refine awp_exit ?_; simp only [thenA, inBlockA, noGotoA, if_true, Nat.reduceEqDiff, if_false, ↓reduceIte])
      | (with_reducible refine awp_ret ?_; (try simp only [thenA, inBlockA, noGotoA]); (try simp [-List.reduceReplicate, Nat.add_one_le_iff, -getElem?_pos, -getElem?_neg, List.getElem?_cons_zero, List.getElem?_cons_succ, bytesR, pairC, h0, htl, dash]))
      | (with_reducible refine awp_reg 47 hX [0, 2, 3, 4, 5, 6, 8, 9, 11, 19, 25, 26, 27, 32, 33] ?_; simp [-List.reduceReplicate, Nat.add_one_le_iff, -getElem?_pos, -getElem?_neg, List.getElem?_cons_zero, List.getElem?_cons_succ, bytesR, pairC, h0, htl, dash])
      | (with_reducible refine awp_drw 47 hX [0, 2, 3, 4, 5, 6, 8, 9, 11, 19, 25, 26, 27, 32, 33] Tab.mixed (by kernel_rfl) ?_; simp [-List.reduceReplicate, Nat.add_one_le_iff, -getElem?_pos, -getElem?_neg, List.getElem?_cons_zero, List.getElem?_cons_succ, bytesR, pairC, h0, htl, dash])
      | (with_reducible refine awp_if_b rfl (fun hc => ?_) (fun hc => ?_) <;> (try simp [-getElem?_pos, -getElem?_neg] at hc) <;> (try (exfalso; omega)))
      | (with_reducible refine GuardK_b (fun hc => ?_) (fun hc => ?_) <;> (try simp only [Bool.not_eq_true', Bool.not_eq_false', decide_eq_true_eq, decide_eq_false_iff_not] at hc) <;> (first | (exfalso; omega) | skip) <;> simp [-List.reduceReplicate, Nat.add_one_le_iff, -getElem?_pos, -getElem?_neg, List.getElem?_cons_zero, List.getElem?_cons_succ, bytesR, pairC, h0, htl, dash, hc])
      | (with_reducible refine DGuard_b _ _ _ _ _ _ _ _ _ _ (fun hc => ?_) (fun hc => ?_) <;> (try simp only [Bool.not_eq_true', Bool.not_eq_false', decide_eq_true_eq, decide_eq_false_iff_not] at hc) <;> (first | (exfalso; omega) | skip) <;> simp [-List.reduceReplicate, Nat.add_one_le_iff, -getElem?_pos, -getElem?_neg, List.getElem?_cons_zero, List.getElem?_cons_succ, bytesR, pairC, h0, htl, dash, hc])
      | (with_reducible refine DEv_cut _ _ _ _ _ _ _ _ _ _ _ _ (by kernel_rfl) ?_; simp [-List.reduceReplicate, Nat.add_one_le_iff, -getElem?_pos, -getElem?_neg, List.getElem?_cons_zero, List.getElem?_cons_succ, bytesR, pairC, h0, htl, dash])
      | (refine hother _ _ rfl ?_; simp only [inBlockA, thenA, noGotoA, Nat.reduceEqDiff, if_false, if_true, ↓reduceIte])
      | (refine hother2 _ _ rfl ?_; simp only [inBlockA, thenA, noGotoA, Nat.reduceEqDiff, if_false, if_true, ↓reduceIte])
      | (refine hother3 _ _ rfl ?_; simp only [inBlockA, thenA, noGotoA, Nat.reduceEqDiff, if_false, if_true, ↓reduceIte])
      | (refine And.intro (by omega) ?_)
      | (with_reducible change postOf _ _ _ _ _; simp [-List.reduceReplicate, Nat.add_one_le_iff, -getElem?_pos, -getElem?_neg, List.getElem?_cons_zero, List.getElem?_cons_succ, bytesR, pairC, h0, htl, dash])
      | fail)
  by_cases h1 : s.data.toList = []
  · repeat' (first 
      | with_reducible refine awp_scope ?_
      | with_reducible refine awp_seq ?_
      | with_reducible refine awp_block ?_
      | (with_reducible refine awp_label ?_; try simp only [thenA, inBlockA, noGotoA])
      | (with_reducible refine awp_skip ?_; try simp only [thenA, inBlockA, noGotoA])
      | (with_reducible refine awp_exit ?_; simp only [thenA, inBlockA, noGotoA, if_true, Nat.reduceEqDiff, if_false, ↓reduceIte])
      | (with_reducible refine awp_ret ?_; (try simp only [thenA, inBlockA, noGotoA]); (try simp [-List.reduceReplicate, Nat.add_one_le_iff, -getElem?_pos, -getElem?_neg, List.getElem?_cons_zero, List.getElem?_cons_succ, bytesR, pairC, h0, h1, htl, dash]))
      | (with_reducible refine awp_reg 47 hX [0, 2, 3, 4, 5, 6, 8, 9, 11, 19, 25, 26, 27, 32, 33] ?_; simp [-List.reduceReplicate, Nat.add_one_le_iff, -getElem?_pos, -getElem?_neg, List.getElem?_cons_zero, List.getElem?_cons_succ, bytesR, pairC, h0, h1, htl, dash])
      | (with_reducible refine awp_drw 47 hX [0, 2, 3, 4, 5, 6, 8, 9, 11, 19, 25, 26, 27, 32, 33] Tab.mixed (by kernel_rfl) ?_; simp [-List.reduceReplicate, Nat.add_one_le_iff, -getElem?_pos, -getElem?_neg, List.getElem?_cons_zero, List.getElem?_cons_succ, bytesR, pairC, h0, h1, htl, dash])
      | (with_reducible refine awp_if_b rfl (fun hc => ?_) (fun hc => ?_) <;> (try simp [-getElem?_pos, -getElem?_neg] at hc) <;> (try (exfalso; omega)))
      | (with_reducible refine GuardK_b (fun hc => ?_) (fun hc => ?_) <;> (try simp only [Bool.not_eq_true', Bool.not_eq_false', decide_eq_true_eq, decide_eq_false_iff_not] at hc) <;> (first | (exfalso; omega) | skip) <;> simp [-List.reduceReplicate, Nat.add_one_le_iff, -getElem?_pos, -getElem?_neg, List.getElem?_cons_zero, List.getElem?_cons_succ, bytesR, pairC, h0, h1, htl, dash, hc])
      | (with_reducible refine DGuard_b _ _ _ _ _ _ _ _ _ _ (fun hc => ?_) (fun hc => ?_) <;> (try simp only [Bool.not_eq_true', Bool.not_eq_false', decide_eq_true_eq, decide_eq_false_iff_not] at hc) <;> (first | (exfalso; omega) | skip) <;> simp [-List.reduceReplicate, Nat.add_one_le_iff, -getElem?_pos, -getElem?_neg, List.getElem?_cons_zero, List.getElem?_cons_succ, bytesR, pairC, h0, h1, htl, dash, hc])
      | (with_reducible refine DEv_cut _ _ _ _ _ _ _ _ _ _ _ _ (by kernel_rfl) ?_; simp [-List.reduceReplicate, Nat.add_one_le_iff, -getElem?_pos, -getElem?_neg, List.getElem?_cons_zero, List.getElem?_cons_succ, bytesR, pairC, h0, h1, htl, dash])
      | (refine hother _ _ rfl ?_; simp only [inBlockA, thenA, noGotoA, Nat.reduceEqDiff, if_false, if_true, ↓reduceIte])
      | (refine hother2 _ _ rfl ?_; simp only [inBlockA, thenA, noGotoA, Nat.reduceEqDiff, if_false, if_true, ↓reduceIte])
      | (refine hother3 _ _ rfl ?_; simp only [inBlockA, thenA, noGotoA, Nat.reduceEqDiff, if_false, if_true, ↓reduceIte])
      | (refine And.intro (by omega) ?_)
      | (with_reducible change postOf _ _ _ _ _; simp [-List.reduceReplicate, Nat.add_one_le_iff, -getElem?_pos, -getElem?_neg, List.getElem?_cons_zero, List.getElem?_cons_succ, bytesR, pairC, h0, h1, htl, dash])
      | fail)
  have d1 : ((s.size : Int)).tmod 2 = ((s.size % 2 : Nat) : Int) := rfl
  have d2 : ((s.size : Int)).tdiv 2 = ((s.size / 2 : Nat) : Int) := rfl
  have w2 := wrap_in ((s.size / 2 : Nat) : Int) (by omega)
  by_cases h2 : s.size % 2 = 0
  · have hd2 : s.size / 2 ≤ 1000000 := by omega
    have hok : allB s.data.toList = true → bytesR s = (strI (pairsTo s.data.toList s.size), true) := fun h => by simp only [bytesR, h0, h1, h2, h]; simp
    have hbad : allB s.data.toList = false → bytesR s = (⟨#[]⟩, false) := fun h => by simp only [bytesR, h0, h1, h2, h]; simp
    generalize hq : s.size / 2 = q at *
    repeat' (first 
      | with_reducible refine awp_scope ?_
      | with_reducible refine awp_seq ?_
      | with_reducible refine awp_block ?_
      | (with_reducible refine awp_label ?_; try simp only [thenA, inBlockA, noGotoA])
      | (with_reducible refine awp_skip ?_; try simp only [thenA, inBlockA, noGotoA])
      | (with_reducible refine awp_exit ?_; simp only [thenA, inBlockA, noGotoA, if_true, Nat.reduceEqDiff, if_false, ↓reduceIte])
      | (with_reducible refine awp_ret ?_; (try simp only [thenA, inBlockA, noGotoA]); (try simp [-List.reduceReplicate, Nat.add_one_le_iff, -getElem?_pos, -getElem?_neg, List.getElem?_cons_zero, List.getElem?_cons_succ, pairC, h0, h1, h2, htl, dash, d1, d2, w2]))
      | (with_reducible refine awp_reg 47 hX [0, 2, 3, 4, 5, 6, 8, 9, 11, 19, 25, 26, 27, 32, 33] ?_; simp [-List.reduceReplicate, Nat.add_one_le_iff, -getElem?_pos, -getElem?_neg, List.getElem?_cons_zero, List.getElem?_cons_succ, pairC, h0, h1, h2, htl, dash, d1, d2, w2])
      | (with_reducible refine awp_drw 47 hX [0, 2, 3, 4, 5, 6, 8, 9, 11, 19, 25, 26, 27, 32, 33] Tab.mixed (by kernel_rfl) ?_; simp [-List.reduceReplicate, Nat.add_one_le_iff, -getElem?_pos, -getElem?_neg, List.getElem?_cons_zero, List.getElem?_cons_succ, pairC, h0, h1, h2, htl, dash, d1, d2, w2])
      | (with_reducible refine awp_if_b rfl (fun hc => ?_) (fun hc => ?_) <;> (try simp [-getElem?_pos, -getElem?_neg] at hc) <;> (try (exfalso; omega)))
      | (with_reducible refine GuardK_b (fun hc => ?_) (fun hc => ?_) <;> (try simp only [Bool.not_eq_true', Bool.not_eq_false', decide_eq_true_eq, decide_eq_false_iff_not] at hc) <;> (first | (exfalso; omega) | skip) <;> simp [-List.reduceReplicate, Nat.add_one_le_iff, -getElem?_pos, -getElem?_neg, List.getElem?_cons_zero, List.getElem?_cons_succ, pairC, h0, h1, h2, htl, dash, d1, d2, w2, hc])
      | (with_reducible refine DGuard_b _ _ _ _ _ _ _ _ _ _ (fun hc => ?_) (fun hc => ?_) <;> (try simp only [Bool.not_eq_true', Bool.not_eq_false', decide_eq_true_eq, decide_eq_false_iff_not] at hc) <;> (first | (exfalso; omega) | skip) <;> simp [-List.reduceReplicate, Nat.add_one_le_iff, -getElem?_pos, -getElem?_neg, List.getElem?_cons_zero, List.getElem?_cons_succ, pairC, h0, h1, h2, htl, dash, d1, d2, w2, hc])
      | (with_reducible refine DEv_cut _ _ _ _ _ _ _ _ _ _ _ _ (by kernel_rfl) ?_; simp [-List.reduceReplicate, Nat.add_one_le_iff, -getElem?_pos, -getElem?_neg, List.getElem?_cons_zero, List.getElem?_cons_succ, pairC, h0, h1, h2, htl, dash, d1, d2, w2])
      | (refine hother _ _ rfl ?_; simp only [inBlockA, thenA, noGotoA, Nat.reduceEqDiff, if_false, if_true, ↓reduceIte])
      | (refine hother2 _ _ rfl ?_; simp only [inBlockA, thenA, noGotoA, Nat.reduceEqDiff, if_false, if_true, ↓reduceIte])
      | (refine hother3 _ _ rfl ?_; simp only [inBlockA, thenA, noGotoA, Nat.reduceEqDiff, if_false, if_true, ↓reduceIte])
      | (refine And.intro (by omega) ?_)
      | (with_reducible change postOf _ _ _ _ _; simp [-List.reduceReplicate, Nat.add_one_le_iff, -getElem?_pos, -getElem?_neg, List.getElem?_cons_zero, List.getElem?_cons_succ, pairC, h0, h1, h2, htl, dash, d1, d2, w2])
      | fail)
    refine awp_forU [4, 5, 6, 25] (fun i (g : Nat) => [(4, .ms ob.length g 0 (pairsTo s.data.toList i).length), (5, .c (iC (hiB s.data.toList i))), (6, .c (bC (decide (i % 2 = 1))))]) (fun i (g : Nat) => ob ++ [⟨5, 1, false, g, up ((pairsTo s.data.toList i).map u8C), none⟩, iterOb s i]) (fun i (g : Nat) => (∀ (j : Nat) b, j < i → s.data.toList[j]? = some b → figB b ≤ 15)) (s.size) (0) (by first | trivial | (simp; done) | omega | (intros; simp at *; done)) (by simp [-List.reduceReplicate, keep, okTo, iC, bC, hiB, pairsTo, iterOb]) (by simp [-List.reduceReplicate, okTo, iC, bC, hiB, pairsTo, iterOb]) ?_
    rintro i g Q1 hi hH next hother
    conv => arg 5; arg 1; simp only [List.cons_append, List.nil_append, keep, get, Nat.reduceEqDiff, if_true, if_false, ↓reduceIte]
    have hpl := pairsTo_len s.data.toList i
    by_cases hlt : i < s.size
    · obtain ⟨c, hc⟩ := getI s.data.toList (i : Nat) (by omega) (by omega)
      simp only [Int.toNat_natCast] at hc
      have hg := byte_get s i c hc
      have bad : ¬ figB c ≤ 15 → bytesR s = (⟨#[]⟩, false) := fun h => hbad (by
        unfold allB
        rw [List.all_eq_false]
        exact ⟨c, List.mem_of_getElem? hc, by simpa using h⟩)
      by_cases hf : figB c ≤ 15
      · have hasc := figB_lt c hf
        have hdec : Utf8.decode s i = (c.toNat, 1) := by unfold Utf8.decode; simp only [Nat.add_zero, hg]; rw [if_pos hasc]
        have hh := hiB_in s.data.toList i hH (by omega)
        have hf0 : 0 ≤ figB c := (figV_lo (c.toNat : Int)).1
        have hor := or4' (hiB s.data.toList i) (figB c) hh ⟨hf0, hf⟩
        have hs1 : hiB s.data.toList (i + 1) = figB c := by simp only [hiB, List.getD_eq_getElem?_getD, hc]; rfl
        have w3 := wrap_in (hiB s.data.toList i * 16) (by omega)
        have w4 : IntKind.u8.wrap (16 * hiB s.data.toList i + figB c) = 16 * hiB s.data.toList i + figB c := by simp [IntKind.wrap, IntKind.signed, IntKind.bits]; omega
        have hfg : figV (c.toNat : Int) = figB c := rfl
        have hnf : ¬ (15 < figB c) := by omega
        have hok' := okTo_succ hH hc hf
        by_cases ho : i % 2 = 1
        · have hps := pairsTo_odd s.data.toList i ho
          have hi1 : hiB s.data.toList i = figB (s.data.toList.getD (i - 1) 0) := by
            obtain ⟨k, rfl⟩ : ∃ k, i = k + 1 := ⟨i - 1, by omega⟩
            rfl
          have hgc : s.data.toList.getD i 0 = c := by rw [List.getD_eq_getElem?_getD, hc]; rfl
          rw [hgc, ← hi1] at hps
          repeat' (first 
            | with_reducible refine awp_scope ?_
            | with_reducible refine awp_seq ?_
            | with_reducible refine awp_block ?_
            | (with_reducible refine awp_label ?_; try simp only [thenA, inBlockA, noGotoA])
            | (with_reducible refine awp_skip ?_; try simp only [thenA, inBlockA, noGotoA])
            | (with_reducible refine awp_exit ?_; simp only [thenA, inBlockA, noGotoA, if_true, Nat.reduceEqDiff, if_false, ↓reduceIte])
            | (with_reducible refine awp_ret ?_; (try simp only [thenA, inBlockA, noGotoA]); (try simp [-List.reduceReplicate, Nat.add_one_le_iff, -getElem?_pos, -getElem?_neg, List.getElem?_cons_zero, List.getElem?_cons_succ, iC, bC, hlt, hdec, ho, hfg, hnf, w3, w4, hor, roomB, IntKind.bits]))
            | (with_reducible refine awp_reg 47 hX [0, 2, 3, 4, 5, 6, 8, 9, 11, 19, 25, 26, 27, 32, 33] ?_; simp [-List.reduceReplicate, Nat.add_one_le_iff, -getElem?_pos, -getElem?_neg, List.getElem?_cons_zero, List.getElem?_cons_succ, iC, bC, hlt, hdec, ho, hfg, hnf, w3, w4, hor, roomB, IntKind.bits])
            | (with_reducible refine awp_drw 47 hX [0, 2, 3, 4, 5, 6, 8, 9, 11, 19, 25, 26, 27, 32, 33] Tab.mixed (by kernel_rfl) ?_; simp [-List.reduceReplicate, Nat.add_one_le_iff, -getElem?_pos, -getElem?_neg, List.getElem?_cons_zero, List.getElem?_cons_succ, iC, bC, hlt, hdec, ho, hfg, hnf, w3, w4, hor, roomB, IntKind.bits])
            | (refine (figure_den _ (by omega) _).det ?_; try simp [-List.reduceReplicate, Nat.add_one_le_iff, -getElem?_pos, -getElem?_neg, List.getElem?_cons_zero, List.getElem?_cons_succ, iC, bC, hlt, hdec, ho, hfg, hnf, w3, w4, hor, roomB, IntKind.bits])
            | (refine ⟨_, _, figure_den _ (by omega) _, fun _ => rfl, ?_⟩; try simp [-List.reduceReplicate, Nat.add_one_le_iff, -getElem?_pos, -getElem?_neg, List.getElem?_cons_zero, List.getElem?_cons_succ, iC, bC, hlt, hdec, ho, hfg, hnf, w3, w4, hor, roomB, IntKind.bits])
            | (with_reducible refine awp_if_b rfl (fun hc => ?_) (fun hc => ?_) <;> (try simp [-getElem?_pos, -getElem?_neg] at hc) <;> (try (exfalso; omega)))
            | (with_reducible refine GuardK_b (fun hc => ?_) (fun hc => ?_) <;> (try simp only [Bool.not_eq_true', Bool.not_eq_false', decide_eq_true_eq, decide_eq_false_iff_not] at hc) <;> (first | (exfalso; omega) | skip) <;> simp [-List.reduceReplicate, Nat.add_one_le_iff, -getElem?_pos, -getElem?_neg, List.getElem?_cons_zero, List.getElem?_cons_succ, iC, bC, hlt, hdec, ho, hfg, hnf, w3, w4, hor, roomB, IntKind.bits, hc])
            | (with_reducible refine DGuard_b _ _ _ _ _ _ _ _ _ _ (fun hc => ?_) (fun hc => ?_) <;> (try simp only [Bool.not_eq_true', Bool.not_eq_false', decide_eq_true_eq, decide_eq_false_iff_not] at hc) <;> (first | (exfalso; omega) | skip) <;> simp [-List.reduceReplicate, Nat.add_one_le_iff, -getElem?_pos, -getElem?_neg, List.getElem?_cons_zero, List.getElem?_cons_succ, iC, bC, hlt, hdec, ho, hfg, hnf, w3, w4, hor, roomB, IntKind.bits, hc])
            | (with_reducible refine DEv_cut _ _ _ _ _ _ _ _ _ _ _ _ (by kernel_rfl) ?_; simp [-List.reduceReplicate, Nat.add_one_le_iff, -getElem?_pos, -getElem?_neg, List.getElem?_cons_zero, List.getElem?_cons_succ, iC, bC, hlt, hdec, ho, hfg, hnf, w3, w4, hor, roomB, IntKind.bits])
            | (refine hother _ _ rfl ?_; simp only [inBlockA, thenA, noGotoA, Nat.reduceEqDiff, if_false, if_true, ↓reduceIte])
            | (refine hother2 _ _ rfl ?_; simp only [inBlockA, thenA, noGotoA, Nat.reduceEqDiff, if_false, if_true, ↓reduceIte])
            | (refine hother3 _ _ rfl ?_; simp only [inBlockA, thenA, noGotoA, Nat.reduceEqDiff, if_false, if_true, ↓reduceIte])
            | (refine And.intro (by omega) ?_)
            | (with_reducible change postOf _ _ _ _ _; simp [-List.reduceReplicate, Nat.add_one_le_iff, -getElem?_pos, -getElem?_neg, List.getElem?_cons_zero, List.getElem?_cons_succ, iC, bC, hlt, hdec, ho, hfg, hnf, w3, w4, hor, roomB, IntKind.bits])
            | fail)
          have e2 : ¬ (i + 1) % 2 = 1 := by omega
          refine next _ _ (g + 1) (by omega) (by first | trivial | omega | assumption) (by simp [-List.reduceReplicate, keep, iC, bC, hps, hs1, e2, u8C, iterOb]) (by simp [-List.reduceReplicate, iC, bC, hps, hs1, e2, u8C, iterOb])
        · have hps := pairsTo_even s.data.toList i (by omega)
          repeat' (first 
            | with_reducible refine awp_scope ?_
            | with_reducible refine awp_seq ?_
            | with_reducible refine awp_block ?_
            | (with_reducible refine awp_label ?_; try simp only [thenA, inBlockA, noGotoA])
            | (with_reducible refine awp_skip ?_; try simp only [thenA, inBlockA, noGotoA])
            | (with_reducible refine awp_exit ?_; simp only [thenA, inBlockA, noGotoA, if_true, Nat.reduceEqDiff, if_false, ↓reduceIte])
            | (with_reducible refine awp_ret ?_; (try simp only [thenA, inBlockA, noGotoA]); (try simp [-List.reduceReplicate, Nat.add_one_le_iff, -getElem?_pos, -getElem?_neg, List.getElem?_cons_zero, List.getElem?_cons_succ, iC, bC, hlt, hdec, ho, hfg, hnf]))
            | (with_reducible refine awp_reg 47 hX [0, 2, 3, 4, 5, 6, 8, 9, 11, 19, 25, 26, 27, 32, 33] ?_; simp [-List.reduceReplicate, Nat.add_one_le_iff, -getElem?_pos, -getElem?_neg, List.getElem?_cons_zero, List.getElem?_cons_succ, iC, bC, hlt, hdec, ho, hfg, hnf])
            | (with_reducible refine awp_drw 47 hX [0, 2, 3, 4, 5, 6, 8, 9, 11, 19, 25, 26, 27, 32, 33] Tab.mixed (by kernel_rfl) ?_; simp [-List.reduceReplicate, Nat.add_one_le_iff, -getElem?_pos, -getElem?_neg, List.getElem?_cons_zero, List.getElem?_cons_succ, iC, bC, hlt, hdec, ho, hfg, hnf])
            | (refine (figure_den _ (by omega) _).det ?_; try simp [-List.reduceReplicate, Nat.add_one_le_iff, -getElem?_pos, -getElem?_neg, List.getElem?_cons_zero, List.getElem?_cons_succ, iC, bC, hlt, hdec, ho, hfg, hnf])
            | (refine ⟨_, _, figure_den _ (by omega) _, fun _ => rfl, ?_⟩; try simp [-List.reduceReplicate, Nat.add_one_le_iff, -getElem?_pos, -getElem?_neg, List.getElem?_cons_zero, List.getElem?_cons_succ, iC, bC, hlt, hdec, ho, hfg, hnf])
            | (with_reducible refine awp_if_b rfl (fun hc => ?_) (fun hc => ?_) <;> (try simp [-getElem?_pos, -getElem?_neg] at hc) <;> (try (exfalso; omega)))
            | (with_reducible refine GuardK_b (fun hc => ?_) (fun hc => ?_) <;> (try simp only [Bool.not_eq_true', Bool.not_eq_false', decide_eq_true_eq, decide_eq_false_iff_not] at hc) <;> (first | (exfalso; omega) | skip) <;> simp [-List.reduceReplicate, Nat.add_one_le_iff, -getElem?_pos, -getElem?_neg, List.getElem?_cons_zero, List.getElem?_cons_succ, iC, bC, hlt, hdec, ho, hfg, hnf, hc])
            | (with_reducible refine DGuard_b _ _ _ _ _ _ _ _ _ _ (fun hc => ?_) (fun hc => ?_) <;> (try simp only [Bool.not_eq_true', Bool.not_eq_false', decide_eq_true_eq, decide_eq_false_iff_not] at hc) <;> (first | (exfalso; omega) | skip) <;> simp [-List.reduceReplicate, Nat.add_one_le_iff, -getElem?_pos, -getElem?_neg, List.getElem?_cons_zero, List.getElem?_cons_succ, iC, bC, hlt, hdec, ho, hfg, hnf, hc])
            | (with_reducible refine DEv_cut _ _ _ _ _ _ _ _ _ _ _ _ (by kernel_rfl) ?_; simp [-List.reduceReplicate, Nat.add_one_le_iff, -getElem?_pos, -getElem?_neg, List.getElem?_cons_zero, List.getElem?_cons_succ, iC, bC, hlt, hdec, ho, hfg, hnf])
            | (refine hother _ _ rfl ?_; simp only [inBlockA, thenA, noGotoA, Nat.reduceEqDiff, if_false, if_true, ↓reduceIte])
            | (refine hother2 _ _ rfl ?_; simp only [inBlockA, thenA, noGotoA, Nat.reduceEqDiff, if_false, if_true, ↓reduceIte])
            | (refine hother3 _ _ rfl ?_; simp only [inBlockA, thenA, noGotoA, Nat.reduceEqDiff, if_false, if_true, ↓reduceIte])
            | (refine And.intro (by omega) ?_)
            | (with_reducible change postOf _ _ _ _ _; simp [-List.reduceReplicate, Nat.add_one_le_iff, -getElem?_pos, -getElem?_neg, List.getElem?_cons_zero, List.getElem?_cons_succ, iC, bC, hlt, hdec, ho, hfg, hnf])
            | fail)
          have e2 : (i + 1) % 2 = 1 := by omega
          refine next _ _ (g) (by omega) (by first | trivial | omega | assumption) (by simp [-List.reduceReplicate, keep, iC, bC, hps, hs1, e2, u8C, iterOb]) (by simp [-List.reduceReplicate, iC, bC, hps, hs1, e2, u8C, iterOb])
      · have hb := bad hf
        obtain ⟨r, n, hdec, hr2, hr3⟩ : ∃ r n, Utf8.decode s i = (r, n) ∧ r ≤ 2147483647 ∧ 15 < figV (r : Int) := by
          by_cases hasc : c.toNat < 128
          · exact ⟨c.toNat, 1, by unfold Utf8.decode; simp only [Nat.add_zero, hg]; rw [if_pos hasc], by omega, by unfold figB at hf; omega⟩
          · obtain ⟨r, n, h1, h2, h3⟩ := decode_hi s i (by rw [hg]; omega)
            exact ⟨r, n, h1, h3, by rw [figV_hi _ (by omega)]; omega⟩
        repeat' (first 
          | with_reducible refine awp_scope ?_
          | with_reducible refine awp_seq ?_
          | with_reducible refine awp_block ?_
          | (with_reducible refine awp_label ?_; try simp only [thenA, inBlockA, noGotoA])
          | (with_reducible refine awp_skip ?_; try simp only [thenA, inBlockA, noGotoA])
          | (with_reducible refine awp_exit ?_; simp only [thenA, inBlockA, noGotoA, if_true, Nat.reduceEqDiff, if_false, ↓reduceIte])
          | (with_reducible refine awp_ret ?_; (try simp only [thenA, inBlockA, noGotoA]); (try simp [-List.reduceReplicate, Nat.add_one_le_iff, -getElem?_pos, -getElem?_neg, List.getElem?_cons_zero, List.getElem?_cons_succ, iC, bC, hlt, hdec, hb, hr3, pairC]))
          | (with_reducible refine awp_reg 47 hX [0, 2, 3, 4, 5, 6, 8, 9, 11, 19, 25, 26, 27, 32, 33] ?_; simp [-List.reduceReplicate, Nat.add_one_le_iff, -getElem?_pos, -getElem?_neg, List.getElem?_cons_zero, List.getElem?_cons_succ, iC, bC, hlt, hdec, hb, hr3, pairC])
          | (with_reducible refine awp_drw 47 hX [0, 2, 3, 4, 5, 6, 8, 9, 11, 19, 25, 26, 27, 32, 33] Tab.mixed (by kernel_rfl) ?_; simp [-List.reduceReplicate, Nat.add_one_le_iff, -getElem?_pos, -getElem?_neg, List.getElem?_cons_zero, List.getElem?_cons_succ, iC, bC, hlt, hdec, hb, hr3, pairC])
          | (refine (figure_den _ (by omega) _).det ?_; try simp [-List.reduceReplicate, Nat.add_one_le_iff, -getElem?_pos, -getElem?_neg, List.getElem?_cons_zero, List.getElem?_cons_succ, iC, bC, hlt, hdec, hb, hr3, pairC])
          | (refine ⟨_, _, figure_den _ (by omega) _, fun _ => rfl, ?_⟩; try simp [-List.reduceReplicate, Nat.add_one_le_iff, -getElem?_pos, -getElem?_neg, List.getElem?_cons_zero, List.getElem?_cons_succ, iC, bC, hlt, hdec, hb, hr3, pairC])
          | (with_reducible refine awp_if_b rfl (fun hc => ?_) (fun hc => ?_) <;> (try simp [-getElem?_pos, -getElem?_neg] at hc) <;> (try (exfalso; omega)))
          | (with_reducible refine GuardK_b (fun hc => ?_) (fun hc => ?_) <;> (try simp only [Bool.not_eq_true', Bool.not_eq_false', decide_eq_true_eq, decide_eq_false_iff_not] at hc) <;> (first | (exfalso; omega) | skip) <;> simp [-List.reduceReplicate, Nat.add_one_le_iff, -getElem?_pos, -getElem?_neg, List.getElem?_cons_zero, List.getElem?_cons_succ, iC, bC, hlt, hdec, hb, hr3, pairC, hc])
          | (with_reducible refine DGuard_b _ _ _ _ _ _ _ _ _ _ (fun hc => ?_) (fun hc => ?_) <;> (try simp only [Bool.not_eq_true', Bool.not_eq_false', decide_eq_true_eq, decide_eq_false_iff_not] at hc) <;> (first | (exfalso; omega) | skip) <;> simp [-List.reduceReplicate, Nat.add_one_le_iff, -getElem?_pos, -getElem?_neg, List.getElem?_cons_zero, List.getElem?_cons_succ, iC, bC, hlt, hdec, hb, hr3, pairC, hc])
          | (with_reducible refine DEv_cut _ _ _ _ _ _ _ _ _ _ _ _ (by kernel_rfl) ?_; simp [-List.reduceReplicate, Nat.add_one_le_iff, -getElem?_pos, -getElem?_neg, List.getElem?_cons_zero, List.getElem?_cons_succ, iC, bC, hlt, hdec, hb, hr3, pairC])
          | (refine hother _ _ rfl ?_; simp only [inBlockA, thenA, noGotoA, Nat.reduceEqDiff, if_false, if_true, ↓reduceIte])
          | (refine hother2 _ _ rfl ?_; simp only [inBlockA, thenA, noGotoA, Nat.reduceEqDiff, if_false, if_true, ↓reduceIte])
          | (refine hother3 _ _ rfl ?_; simp only [inBlockA, thenA, noGotoA, Nat.reduceEqDiff, if_false, if_true, ↓reduceIte])
          | (refine And.intro (by omega) ?_)
          | (with_reducible change postOf _ _ _ _ _; simp [-List.reduceReplicate, Nat.add_one_le_iff, -getElem?_pos, -getElem?_neg, List.getElem?_cons_zero, List.getElem?_cons_succ, iC, bC, hlt, hdec, hb, hr3, pairC])
          | fail)
    · have his : i = s.size := by omega
      subst his
      have hall : bytesR s = _ := hok (by
        unfold allB
        rw [List.all_eq_true]
        intro b hb
        obtain ⟨j, hj⟩ := List.mem_iff_getElem?.1 hb
        simpa using hH j b (by have := (List.getElem?_eq_some_iff.1 hj).1; omega) hj)
      have hbm := bytesM_u8 (pairsTo s.data.toList s.size)
      have htk : (List.map u8C (pairsTo s.data.toList s.size)).take (pairsTo s.data.toList s.size).length = List.map u8C (pairsTo s.data.toList s.size) := by rw [List.take_of_length_le (by simp)]
      repeat' (first 
        | with_reducible refine awp_scope ?_
        | with_reducible refine awp_seq ?_
        | with_reducible refine awp_block ?_
        | (with_reducible refine awp_label ?_; try simp only [thenA, inBlockA, noGotoA])
        | (with_reducible refine awp_skip ?_; try simp only [thenA, inBlockA, noGotoA])
        | (with_reducible refine awp_exit ?_; simp only [thenA, inBlockA, noGotoA, if_true, Nat.reduceEqDiff, if_false, ↓reduceIte])
        | (with_reducible refine awp_ret ?_; (try simp only [thenA, inBlockA, noGotoA]); (try simp [-List.reduceReplicate, Nat.add_one_le_iff, -getElem?_pos, -getElem?_neg, List.getElem?_cons_zero, List.getElem?_cons_succ, iC, bC, hlt, hall, pairC, hbm, strI, htk]))
        | (with_reducible refine awp_reg 47 hX [0, 2, 3, 4, 5, 6, 8, 9, 11, 19, 25, 26, 27, 32, 33] ?_; simp [-List.reduceReplicate, Nat.add_one_le_iff, -getElem?_pos, -getElem?_neg, List.getElem?_cons_zero, List.getElem?_cons_succ, iC, bC, hlt, hall, pairC, hbm, strI, htk])
        | (with_reducible refine awp_drw 47 hX [0, 2, 3, 4, 5, 6, 8, 9, 11, 19, 25, 26, 27, 32, 33] Tab.mixed (by kernel_rfl) ?_; simp [-List.reduceReplicate, Nat.add_one_le_iff, -getElem?_pos, -getElem?_neg, List.getElem?_cons_zero, List.getElem?_cons_succ, iC, bC, hlt, hall, pairC, hbm, strI, htk])
        | (with_reducible refine awp_if_b rfl (fun hc => ?_) (fun hc => ?_) <;> (try simp [-getElem?_pos, -getElem?_neg] at hc) <;> (try (exfalso; omega)))
        | (with_reducible refine GuardK_b (fun hc => ?_) (fun hc => ?_) <;> (try simp only [Bool.not_eq_true', Bool.not_eq_false', decide_eq_true_eq, decide_eq_false_iff_not] at hc) <;> (first | (exfalso; omega) | skip) <;> simp [-List.reduceReplicate, Nat.add_one_le_iff, -getElem?_pos, -getElem?_neg, List.getElem?_cons_zero, List.getElem?_cons_succ, iC, bC, hlt, hall, pairC, hbm, strI, htk, hc])
        | (with_reducible refine DGuard_b _ _ _ _ _ _ _ _ _ _ (fun hc => ?_) (fun hc => ?_) <;> (try simp only [Bool.not_eq_true', Bool.not_eq_false', decide_eq_true_eq, decide_eq_false_iff_not] at hc) <;> (first | (exfalso; omega) | skip) <;> simp [-List.reduceReplicate, Nat.add_one_le_iff, -getElem?_pos, -getElem?_neg, List.getElem?_cons_zero, List.getElem?_cons_succ, iC, bC, hlt, hall, pairC, hbm, strI, htk, hc])
        | (with_reducible refine DEv_cut _ _ _ _ _ _ _ _ _ _ _ _ (by kernel_rfl) ?_; simp [-List.reduceReplicate, Nat.add_one_le_iff, -getElem?_pos, -getElem?_neg, List.getElem?_cons_zero, List.getElem?_cons_succ, iC, bC, hlt, hall, pairC, hbm, strI, htk])
        | (refine hother _ _ rfl ?_; simp only [inBlockA, thenA, noGotoA, Nat.reduceEqDiff, if_false, if_true, ↓reduceIte])
        | (refine hother2 _ _ rfl ?_; simp only [inBlockA, thenA, noGotoA, Nat.reduceEqDiff, if_false, if_true, ↓reduceIte])
        | (refine hother3 _ _ rfl ?_; simp only [inBlockA, thenA, noGotoA, Nat.reduceEqDiff, if_false, if_true, ↓reduceIte])
        | (refine And.intro (by omega) ?_)
        | (with_reducible change postOf _ _ _ _ _; simp [-List.reduceReplicate, Nat.add_one_le_iff, -getElem?_pos, -getElem?_neg, List.getElem?_cons_zero, List.getElem?_cons_succ, iC, bC, hlt, hall, pairC, hbm, strI, htk])
        | fail)
  · have h3 : s.size % 2 = 1 := by omega
    repeat' (first 
      | with_reducible refine awp_scope ?_
      | with_reducible refine awp_seq ?_
      | with_reducible refine awp_block ?_
      | (with_reducible refine awp_label ?_; try simp only [thenA, inBlockA, noGotoA])
      | (with_reducible refine awp_skip ?_; try simp only [thenA, inBlockA, noGotoA])
      | (with_reducible refine awp_exit ?_; simp only [thenA, inBlockA, noGotoA, if_true, Nat.reduceEqDiff, if_false, ↓reduceIte])
      | (with_reducible refine awp_ret ?_; (try simp only [thenA, inBlockA, noGotoA]); (try simp [-List.reduceReplicate, Nat.add_one_le_iff, -getElem?_pos, -getElem?_neg, List.getElem?_cons_zero, List.getElem?_cons_succ, bytesR, pairC, h0, h1, h3, htl, dash, d1]))
      | (with_reducible refine awp_reg 47 hX [0, 2, 3, 4, 5, 6, 8, 9, 11, 19, 25, 26, 27, 32, 33] ?_; simp [-List.reduceReplicate, Nat.add_one_le_iff, -getElem?_pos, -getElem?_neg, List.getElem?_cons_zero, List.getElem?_cons_succ, bytesR, pairC, h0, h1, h3, htl, dash, d1])
      | (with_reducible refine awp_drw 47 hX [0, 2, 3, 4, 5, 6, 8, 9, 11, 19, 25, 26, 27, 32, 33] Tab.mixed (by kernel_rfl) ?_; simp [-List.reduceReplicate, Nat.add_one_le_iff, -getElem?_pos, -getElem?_neg, List.getElem?_cons_zero, List.getElem?_cons_succ, bytesR, pairC, h0, h1, h3, htl, dash, d1])
      | (with_reducible refine awp_if_b rfl (fun hc => ?_) (fun hc => ?_) <;> (try simp [-getElem?_pos, -getElem?_neg] at hc) <;> (try (exfalso; omega)))
      | (with_reducible refine GuardK_b (fun hc => ?_) (fun hc => ?_) <;> (try simp only [Bool.not_eq_true', Bool.not_eq_false', decide_eq_true_eq, decide_eq_false_iff_not] at hc) <;> (first | (exfalso; omega) | skip) <;> simp [-List.reduceReplicate, Nat.add_one_le_iff, -getElem?_pos, -getElem?_neg, List.getElem?_cons_zero, List.getElem?_cons_succ, bytesR, pairC, h0, h1, h3, htl, dash, d1, hc])
      | (with_reducible refine DGuard_b _ _ _ _ _ _ _ _ _ _ (fun hc => ?_) (fun hc => ?_) <;> (try simp only [Bool.not_eq_true', Bool.not_eq_false', decide_eq_true_eq, decide_eq_false_iff_not] at hc) <;> (first | (exfalso; omega) | skip) <;> simp [-List.reduceReplicate, Nat.add_one_le_iff, -getElem?_pos, -getElem?_neg, List.getElem?_cons_zero, List.getElem?_cons_succ, bytesR, pairC, h0, h1, h3, htl, dash, d1, hc])
      | (with_reducible refine DEv_cut _ _ _ _ _ _ _ _ _ _ _ _ (by kernel_rfl) ?_; simp [-List.reduceReplicate, Nat.add_one_le_iff, -getElem?_pos, -getElem?_neg, List.getElem?_cons_zero, List.getElem?_cons_succ, bytesR, pairC, h0, h1, h3, htl, dash, d1])
      | (refine hother _ _ rfl ?_; simp only [inBlockA, thenA, noGotoA, Nat.reduceEqDiff, if_false, if_true, ↓reduceIte])
      | (refine hother2 _ _ rfl ?_; simp only [inBlockA, thenA, noGotoA, Nat.reduceEqDiff, if_false, if_true, ↓reduceIte])
      | (refine hother3 _ _ rfl ?_; simp only [inBlockA, thenA, noGotoA, Nat.reduceEqDiff, if_false, if_true, ↓reduceIte])
      | (refine And.intro (by omega) ?_)
      | (with_reducible change postOf _ _ _ _ _; simp [-List.reduceReplicate, Nat.add_one_le_iff, -getElem?_pos, -getElem?_neg, List.getElem?_cons_zero, List.getElem?_cons_succ, bytesR, pairC, h0, h1, h3, htl, dash, d1])
      | fail)
end Go.Av
