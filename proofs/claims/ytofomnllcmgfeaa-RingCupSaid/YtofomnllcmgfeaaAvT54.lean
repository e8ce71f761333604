import Derived.Test.YtofomnllcmgfeaaAvT44
import Derived.Test.YtofomnllcmgfeaaAvT52
set_option linter.unusedVariables false
set_option linter.unusedSimpArgs false
set_option maxRecDepth 100000
set_option maxHeartbeats 4000000
namespace Go.Av
open Go Go.Proofs Go.Proofs.Ytofomnllcmgfeaa Go.RowKit
/-! ### ring: who wins the cup is in the least dominating set -/
open Go.Rg
theorem cup_top (keys : List ByteArray) (v : List (List Int)) (hk : keys.length = v.length) (h0 : 0 < v.length) (hs : Sound (bq v) v.length) (b : Nat → Bool) (hD : Dom (bq v) v.length b) (d : Nat) (hd : d < v.length) (hbd : b d = true) : ∃ w : Nat, winI keys v = (w : Int) ∧ w < v.length ∧ b w = true := by
  obtain ⟨w, hw, ew, hm⟩ := win_min keys v (by omega)
  rw [hk, Nat.min_self] at hw hm
  refine ⟨w, ew, hw, ?_⟩
  cases hb : b w with
  | true => rfl
  | false =>
    exfalso
    have e1 : ∀ j : Nat, winsTo v (j : Int) v.length = (Rg.posF (fun k : Nat => !decide ((k : Int) = (j : Int)) && beats v j k) v.length).length := fun j => rfl
    have hsub : Sub v.length (fun k : Nat => !decide ((k : Int) = (w : Int)) && beats v w k) (fun k : Nat => !decide ((k : Int) = (d : Int)) && beats v d k) := fun k hkn h => by
      simp only [Bool.and_eq_true, Bool.not_eq_true', decide_eq_false_iff_not] at h ⊢
      obtain ⟨h1, h2⟩ := h
      have hkb : b k = false := by
        cases hbk : b k with
        | false => rfl
        | true =>
          have := hs k w hkn hw (hD k w hkn hw hbk hb)
          unfold bq at this
          rw [h2] at this
          simp at this
      refine ⟨fun e => ?_, hD d k hd hkn hbd hkb⟩
      have : k = d := by omega
      subst this
      rw [hbd] at hkb; simp at hkb
    obtain ⟨s1, s2⟩ := pos_sub hsub
    have hr := hm d hd
    rw [rlt_eq] at hr
    have hle : winsTo v d v.length ≤ winsTo v w v.length := by
      by_cases e : winsTo v d v.length = winsTo v w v.length
      · omega
      · rw [if_neg e] at hr
        simp only [decide_eq_false_iff_not] at hr
        omega
    rw [e1, e1] at hle
    have := s2 (by omega) w hw
    have hdw := hD d w hd hw hbd hb
    unfold bq at hdw
    have hne : ¬ (w : Int) = (d : Int) := fun e => by
      have : w = d := by omega
      subst this
      rw [hbd] at hb; simp at hb
    simp [hdw, hne] at this
set_option maxHeartbeats 4000000 in
theorem ringCup_den (keys : List ByteArray) (v : List (List Int)) (ob : List Ob) : Den Try.prog 9 [.c (strsC keys), .c (rowsC v)] ob (fun r ob' => r = .c (bC true) ∧ ob' = ob) := by
  refine Den.frame rfl rfl ?_ ob
  have aw := awake46_den
  by_cases hg : great v = true
  · skip
    refine den_of Try.func9 rfl rfl (by simp [Try.ntmps9]) (fun X hX hO => ?_)
    rw [Try.ntmps9] at hX
    simp only [Try.results9]
    repeat' (first 
     | (with_reducible first | refine awp_scope ?_ | refine awp_seq ?_ | refine awp_block ?_)
     | ((with_reducible first | refine awp_label ?_ | refine awp_skip ?_); try simp only [thenA, inBlockA, noGotoA])
     | (with_reducible refine awp_exit ?_; simp only [thenA, inBlockA, noGotoA, if_true, Nat.reduceEqDiff, if_false, ↓reduceIte])
     | (with_reducible refine awp_ret ?_; (try simp only [thenA, inBlockA, noGotoA]); (try simp [-List.reduceReplicate, Nat.add_one_le_iff, -getElem?_pos, -getElem?_neg, List.getElem?_cons_zero, List.getElem?_cons_succ, bC, hg]))
     | ((with_reducible first | refine awp_reg 46 hX [0, 1, 4, 5, 6, 7, 26, 36, 44] ?_ | change postOf _ _ _ _ _); simp [-List.reduceReplicate, Nat.add_one_le_iff, -getElem?_pos, -getElem?_neg, List.getElem?_cons_zero, List.getElem?_cons_succ, bC, hg])
     | ((first | ((with_reducible refine Den.at_ (f := 21) ?_); refine (great_den _ _).det ?_) | (refine (aw _).det ?_)); try simp [-List.reduceReplicate, Nat.add_one_le_iff, -getElem?_pos, -getElem?_neg, List.getElem?_cons_zero, List.getElem?_cons_succ, bC, hg])
     | (with_reducible refine awp_if_b rfl (fun hc => ?_) (fun hc => ?_) <;> (try simp [-getElem?_pos, -getElem?_neg] at hc) <;> (try (exfalso; omega)))
     | ((with_reducible first | refine GuardK_b (fun hc => ?_) (fun hc => ?_)) <;> (try simp only [Bool.not_eq_true', Bool.not_eq_false', decide_eq_true_eq, decide_eq_false_iff_not] at hc) <;> (first | (exfalso; omega) | skip) <;> simp [-List.reduceReplicate, Nat.add_one_le_iff, -getElem?_pos, -getElem?_neg, List.getElem?_cons_zero, List.getElem?_cons_succ, bC, hg, hc])
     | ((with_reducible first | refine hother _ _ rfl ?_); simp only [inBlockA, thenA, noGotoA, Nat.reduceEqDiff, if_false, if_true, ↓reduceIte])
     | (with_reducible refine And.intro (by omega) ?_)
     | fail)
  · obtain ⟨hv, _⟩ := great_no v (by simpa using hg)
    have hg2 : great v = false := by simpa using hg
    have gd := great_den v []
    rw [hg2] at gd
    by_cases h0 : v.length = 0
    · obtain rfl : v = [] := List.length_eq_zero_iff.1 h0
      unfold rowsC at *
      refine den_of Try.func9 rfl rfl (by simp [Try.ntmps9]) (fun X hX hO => ?_)
      rw [Try.ntmps9] at hX
      simp only [Try.results9]
      repeat' (first 
       | (with_reducible first | refine awp_scope ?_ | refine awp_seq ?_ | refine awp_block ?_)
       | ((with_reducible first | refine awp_label ?_ | refine awp_skip ?_); try simp only [thenA, inBlockA, noGotoA])
       | (with_reducible refine awp_exit ?_; simp only [thenA, inBlockA, noGotoA, if_true, Nat.reduceEqDiff, if_false, ↓reduceIte])
       | (with_reducible refine awp_ret ?_; (try simp only [thenA, inBlockA, noGotoA]); (try simp [-List.reduceReplicate, Nat.add_one_le_iff, -getElem?_pos, -getElem?_neg, List.getElem?_cons_zero, List.getElem?_cons_succ, bC]))
       | ((with_reducible first | refine awp_reg 46 hX [0, 1, 4, 5, 6, 7, 26, 36, 44] ?_ | change postOf _ _ _ _ _); simp [-List.reduceReplicate, Nat.add_one_le_iff, -getElem?_pos, -getElem?_neg, List.getElem?_cons_zero, List.getElem?_cons_succ, bC])
       | ((first | (refine (gd).det ?_) | (refine (aw _).det ?_)); try simp [-List.reduceReplicate, Nat.add_one_le_iff, -getElem?_pos, -getElem?_neg, List.getElem?_cons_zero, List.getElem?_cons_succ, bC])
       | (with_reducible refine awp_if_b rfl (fun hc => ?_) (fun hc => ?_) <;> (try simp [-getElem?_pos, -getElem?_neg] at hc) <;> (try (exfalso; omega)))
       | ((with_reducible first | refine GuardK_b (fun hc => ?_) (fun hc => ?_)) <;> (try simp only [Bool.not_eq_true', Bool.not_eq_false', decide_eq_true_eq, decide_eq_false_iff_not] at hc) <;> (first | (exfalso; omega) | skip) <;> simp [-List.reduceReplicate, Nat.add_one_le_iff, -getElem?_pos, -getElem?_neg, List.getElem?_cons_zero, List.getElem?_cons_succ, bC, hc])
       | ((with_reducible first | refine hother _ _ rfl ?_); simp only [inBlockA, thenA, noGotoA, Nat.reduceEqDiff, if_false, if_true, ↓reduceIte])
       | (with_reducible refine And.intro (by omega) ?_)
       | fail)
    · by_cases hk : keys.length = v.length
      · have sd := sound_den v (by omega)
        cases hs : sndTo v v.length
        · rw [hs] at sd
          unfold rowsC strsC at *
          rw [hk]
          refine den_of Try.func9 rfl rfl (by simp [Try.ntmps9]) (fun X hX hO => ?_)
          rw [Try.ntmps9] at hX
          simp only [Try.results9]
          repeat' (first 
           | (with_reducible first | refine awp_scope ?_ | refine awp_seq ?_ | refine awp_block ?_)
           | ((with_reducible first | refine awp_label ?_ | refine awp_skip ?_); try simp only [thenA, inBlockA, noGotoA])
           | (with_reducible refine awp_exit ?_; simp only [thenA, inBlockA, noGotoA, if_true, Nat.reduceEqDiff, if_false, ↓reduceIte])
           | (with_reducible refine awp_ret ?_; (try simp only [thenA, inBlockA, noGotoA]); (try simp [-List.reduceReplicate, Nat.add_one_le_iff, -getElem?_pos, -getElem?_neg, List.getElem?_cons_zero, List.getElem?_cons_succ, bC, h0]))
           | ((with_reducible first | refine awp_reg 46 hX [0, 1, 4, 5, 6, 7, 26, 36, 44] ?_ | change postOf _ _ _ _ _); simp [-List.reduceReplicate, Nat.add_one_le_iff, -getElem?_pos, -getElem?_neg, List.getElem?_cons_zero, List.getElem?_cons_succ, bC, h0])
           | ((first | (refine (gd).det ?_) | (refine (sd _).det ?_) | (refine (aw _).det ?_)); try simp [-List.reduceReplicate, Nat.add_one_le_iff, -getElem?_pos, -getElem?_neg, List.getElem?_cons_zero, List.getElem?_cons_succ, bC, h0])
           | (with_reducible refine awp_if_b rfl (fun hc => ?_) (fun hc => ?_) <;> (try simp [-getElem?_pos, -getElem?_neg] at hc) <;> (try (exfalso; omega)))
           | ((with_reducible first | refine GuardK_b (fun hc => ?_) (fun hc => ?_)) <;> (try simp only [Bool.not_eq_true', Bool.not_eq_false', decide_eq_true_eq, decide_eq_false_iff_not] at hc) <;> (first | (exfalso; omega) | skip) <;> simp [-List.reduceReplicate, Nat.add_one_le_iff, -getElem?_pos, -getElem?_neg, List.getElem?_cons_zero, List.getElem?_cons_succ, bC, h0, hc])
           | ((with_reducible first | refine hother _ _ rfl ?_); simp only [inBlockA, thenA, noGotoA, Nat.reduceEqDiff, if_false, if_true, ↓reduceIte])
           | (with_reducible refine And.intro (by omega) ?_)
           | fail)
        · rw [hs] at sd
          have td := top_den v (by omega) []
          have wd := winner_den keys v (by omega) (by omega)
          have ct := cup_top keys v hk (by omega) (snd_iff v hs)
          unfold rowsC strsC at *
          rw [hk] at wd ⊢
          refine den_of Try.func9 rfl rfl (by simp [Try.ntmps9]) (fun X hX hO => ?_)
          rw [Try.ntmps9] at hX
          simp only [Try.results9]
          repeat' (first 
           | (with_reducible first | refine awp_scope ?_ | refine awp_seq ?_ | refine awp_block ?_)
           | ((with_reducible first | refine awp_label ?_ | refine awp_skip ?_); try simp only [thenA, inBlockA, noGotoA])
           | (with_reducible refine awp_exit ?_; simp only [thenA, inBlockA, noGotoA, if_true, Nat.reduceEqDiff, if_false, ↓reduceIte])
           | (with_reducible refine awp_ret ?_; (try simp only [thenA, inBlockA, noGotoA]); (try simp [-List.reduceReplicate, Nat.add_one_le_iff, -getElem?_pos, -getElem?_neg, List.getElem?_cons_zero, List.getElem?_cons_succ, bC, h0]))
           | ((with_reducible first | refine awp_reg 46 hX [0, 1, 4, 5, 6, 7, 26, 36, 44] ?_ | change postOf _ _ _ _ _); simp [-List.reduceReplicate, Nat.add_one_le_iff, -getElem?_pos, -getElem?_neg, List.getElem?_cons_zero, List.getElem?_cons_succ, bC, h0])
           | ((first | (refine (gd).det ?_) | (refine (sd _).det ?_) | (refine (wd _).det ?_)); try simp [-List.reduceReplicate, Nat.add_one_le_iff, -getElem?_pos, -getElem?_neg, List.getElem?_cons_zero, List.getElem?_cons_succ, bC, h0])
           | (with_reducible refine awp_if_b rfl (fun hc => ?_) (fun hc => ?_) <;> (try simp [-getElem?_pos, -getElem?_neg] at hc) <;> (try (exfalso; omega)))
           | ((with_reducible first | refine GuardK_b (fun hc => ?_) (fun hc => ?_)) <;> (try simp only [Bool.not_eq_true', Bool.not_eq_false', decide_eq_true_eq, decide_eq_false_iff_not] at hc) <;> (first | (exfalso; omega) | skip) <;> simp [-List.reduceReplicate, Nat.add_one_le_iff, -getElem?_pos, -getElem?_neg, List.getElem?_cons_zero, List.getElem?_cons_succ, bC, h0, hc])
           | ((with_reducible first | refine hother _ _ rfl ?_); simp only [inBlockA, thenA, noGotoA, Nat.reduceEqDiff, if_false, if_true, ↓reduceIte])
           | (with_reducible refine And.intro (by omega) ?_)
           | fail)
          refine td.mono ?_
          rintro _ _ ⟨b, hB, rfl, rfl⟩
          obtain ⟨b', rfl, hT, hlb⟩ := bestI_top (by omega) hB
          obtain ⟨hD, _, d, hd, hbd⟩ := top_dom hT
          obtain ⟨w, ew, hw, hbw⟩ := ct (gb b') hD d hd hbd
          simp only [Option.getD_some, hlb]
          rw [ew]
          have hmem : w ∈ posF (gb b') v.length := List.mem_filter.2 ⟨List.mem_range.2 hw, hbw⟩
          have hpl := posF_len (gb b') v.length
          generalize posF (gb b') v.length = p at *
          obtain ⟨at_, hat⟩ := List.getElem?_of_mem hmem
          have hal := (List.getElem?_eq_some_iff.1 hat).1
          clear hT hD hbd hbw hB ct td
          repeat' (first 
           | (with_reducible first | refine awp_scope ?_ | refine awp_seq ?_ | refine awp_block ?_)
           | ((with_reducible first | refine awp_label ?_ | refine awp_skip ?_); try simp only [thenA, inBlockA, noGotoA])
           | (with_reducible refine awp_exit ?_; simp only [thenA, inBlockA, noGotoA, if_true, Nat.reduceEqDiff, if_false, ↓reduceIte])
           | (with_reducible refine awp_ret ?_; (try simp only [thenA, inBlockA, noGotoA]); (try simp [-List.reduceReplicate, Nat.add_one_le_iff, -getElem?_pos, -getElem?_neg, List.getElem?_cons_zero, List.getElem?_cons_succ, intsC, iC]))
           | ((with_reducible first | refine awp_reg 46 hX [0, 1, 4, 5, 6, 7, 26, 36, 44] ?_ | change postOf _ _ _ _ _); simp [-List.reduceReplicate, Nat.add_one_le_iff, -getElem?_pos, -getElem?_neg, List.getElem?_cons_zero, List.getElem?_cons_succ, intsC, iC])
           | (with_reducible refine awp_if_b rfl (fun hc => ?_) (fun hc => ?_) <;> (try simp [-getElem?_pos, -getElem?_neg] at hc) <;> (try (exfalso; omega)))
           | ((with_reducible first | refine GuardK_b (fun hc => ?_) (fun hc => ?_)) <;> (try simp only [Bool.not_eq_true', Bool.not_eq_false', decide_eq_true_eq, decide_eq_false_iff_not] at hc) <;> (first | (exfalso; omega) | skip) <;> simp [-List.reduceReplicate, Nat.add_one_le_iff, -getElem?_pos, -getElem?_neg, List.getElem?_cons_zero, List.getElem?_cons_succ, intsC, iC, hc])
           | ((with_reducible first | refine hother _ _ rfl ?_); simp only [inBlockA, thenA, noGotoA, Nat.reduceEqDiff, if_false, if_true, ↓reduceIte])
           | (with_reducible refine And.intro (by omega) ?_)
           | fail)
          refine awp_forU [5, 6, 7] (fun i (_u : Unit) => [(7, .c (iC i))]) (fun i (_u : Unit) => []) (fun i (_u : Unit) => i ≤ at_) (p.length) (()) (by first | trivial | (simp; done) | omega | (intros; simp at *; done)) (by simp [-List.reduceReplicate, keep, iC]) (by simp [-List.reduceReplicate, iC]) ?_
          rintro i _u Q1 hi hH next hother
          conv => arg 5; arg 1; simp only [List.cons_append, List.nil_append, keep, get, Nat.reduceEqDiff, if_true, if_false, ↓reduceIte]
          by_cases hil : i < p.length
          · obtain ⟨x, hx⟩ : ∃ x, p[i]? = some x := ⟨_, List.getElem?_eq_getElem hil⟩
            have hwi := wrap_in ((i : Int) + 1) (by omega)
            by_cases c : x = w
            · subst c
              repeat' (first 
               | (with_reducible first | refine awp_scope ?_ | refine awp_seq ?_ | refine awp_block ?_)
               | ((with_reducible first | refine awp_label ?_ | refine awp_skip ?_); try simp only [thenA, inBlockA, noGotoA])
               | (with_reducible refine awp_exit ?_; simp only [thenA, inBlockA, noGotoA, if_true, Nat.reduceEqDiff, if_false, ↓reduceIte])
               | (with_reducible refine awp_ret ?_; (try simp only [thenA, inBlockA, noGotoA]); (try simp [-List.reduceReplicate, Nat.add_one_le_iff, -getElem?_pos, -getElem?_neg, List.getElem?_cons_zero, List.getElem?_cons_succ, intsC, iC, bC, hil, hx]))
               | ((with_reducible first | refine awp_reg 46 hX [0, 1, 4, 5, 6, 7, 26, 36, 44] ?_ | change postOf _ _ _ _ _); simp [-List.reduceReplicate, Nat.add_one_le_iff, -getElem?_pos, -getElem?_neg, List.getElem?_cons_zero, List.getElem?_cons_succ, intsC, iC, bC, hil, hx])
               | ((first | (refine (aw _).det ?_)); try simp [-List.reduceReplicate, Nat.add_one_le_iff, -getElem?_pos, -getElem?_neg, List.getElem?_cons_zero, List.getElem?_cons_succ, intsC, iC, bC, hil, hx])
               | (with_reducible refine awp_if_b rfl (fun hc => ?_) (fun hc => ?_) <;> (try simp [-getElem?_pos, -getElem?_neg] at hc) <;> (try (exfalso; omega)))
               | ((with_reducible first | refine GuardK_b (fun hc => ?_) (fun hc => ?_)) <;> (try simp only [Bool.not_eq_true', Bool.not_eq_false', decide_eq_true_eq, decide_eq_false_iff_not] at hc) <;> (first | (exfalso; omega) | skip) <;> simp [-List.reduceReplicate, Nat.add_one_le_iff, -getElem?_pos, -getElem?_neg, List.getElem?_cons_zero, List.getElem?_cons_succ, intsC, iC, bC, hil, hx, hc])
               | ((with_reducible first | refine hother _ _ rfl ?_); simp only [inBlockA, thenA, noGotoA, Nat.reduceEqDiff, if_false, if_true, ↓reduceIte])
               | (with_reducible refine And.intro (by omega) ?_)
               | fail)
            · have c2 : ¬ (x : Int) = w := by omega
              have nx : i + 1 ≤ at_ := by
                have : i ≠ at_ := fun e => by subst e; rw [hx] at hat; cases hat; exact c rfl
                omega
              repeat' (first 
               | (with_reducible first | refine awp_scope ?_ | refine awp_seq ?_ | refine awp_block ?_)
               | ((with_reducible first | refine awp_label ?_ | refine awp_skip ?_); try simp only [thenA, inBlockA, noGotoA])
               | (with_reducible refine awp_exit ?_; simp only [thenA, inBlockA, noGotoA, if_true, Nat.reduceEqDiff, if_false, ↓reduceIte])
               | (with_reducible refine awp_ret ?_; (try simp only [thenA, inBlockA, noGotoA]); (try simp [-List.reduceReplicate, Nat.add_one_le_iff, -getElem?_pos, -getElem?_neg, List.getElem?_cons_zero, List.getElem?_cons_succ, intsC, iC, bC, hil, hx, c2, hwi]))
               | ((with_reducible first | refine awp_reg 46 hX [0, 1, 4, 5, 6, 7, 26, 36, 44] ?_ | change postOf _ _ _ _ _); simp [-List.reduceReplicate, Nat.add_one_le_iff, -getElem?_pos, -getElem?_neg, List.getElem?_cons_zero, List.getElem?_cons_succ, intsC, iC, bC, hil, hx, c2, hwi])
               | ((first | (refine (aw _).det ?_)); try simp [-List.reduceReplicate, Nat.add_one_le_iff, -getElem?_pos, -getElem?_neg, List.getElem?_cons_zero, List.getElem?_cons_succ, intsC, iC, bC, hil, hx, c2, hwi])
               | (with_reducible refine awp_if_b rfl (fun hc => ?_) (fun hc => ?_) <;> (try simp [-getElem?_pos, -getElem?_neg] at hc) <;> (try (exfalso; omega)))
               | ((with_reducible first | refine GuardK_b (fun hc => ?_) (fun hc => ?_)) <;> (try simp only [Bool.not_eq_true', Bool.not_eq_false', decide_eq_true_eq, decide_eq_false_iff_not] at hc) <;> (first | (exfalso; omega) | skip) <;> simp [-List.reduceReplicate, Nat.add_one_le_iff, -getElem?_pos, -getElem?_neg, List.getElem?_cons_zero, List.getElem?_cons_succ, intsC, iC, bC, hil, hx, c2, hwi, hc])
               | ((with_reducible first | refine hother _ _ rfl ?_); simp only [inBlockA, thenA, noGotoA, Nat.reduceEqDiff, if_false, if_true, ↓reduceIte])
               | (with_reducible refine And.intro (by omega) ?_)
               | fail)
              refine next _ _ (()) (by omega) (by first | trivial | omega | assumption) (by simp [-List.reduceReplicate, keep, iC]) (by simp [-List.reduceReplicate, iC])
          · omega
      · have hk2 : ¬ (keys.length : Int) = v.length := by omega
        unfold rowsC strsC at *
        refine den_of Try.func9 rfl rfl (by simp [Try.ntmps9]) (fun X hX hO => ?_)
        rw [Try.ntmps9] at hX
        simp only [Try.results9]
        repeat' (first 
         | (with_reducible first | refine awp_scope ?_ | refine awp_seq ?_ | refine awp_block ?_)
         | ((with_reducible first | refine awp_label ?_ | refine awp_skip ?_); try simp only [thenA, inBlockA, noGotoA])
         | (with_reducible refine awp_exit ?_; simp only [thenA, inBlockA, noGotoA, if_true, Nat.reduceEqDiff, if_false, ↓reduceIte])
         | (with_reducible refine awp_ret ?_; (try simp only [thenA, inBlockA, noGotoA]); (try simp [-List.reduceReplicate, Nat.add_one_le_iff, -getElem?_pos, -getElem?_neg, List.getElem?_cons_zero, List.getElem?_cons_succ, bC, h0, hk, hk2]))
         | ((with_reducible first | refine awp_reg 46 hX [0, 1, 4, 5, 6, 7, 26, 36, 44] ?_ | change postOf _ _ _ _ _); simp [-List.reduceReplicate, Nat.add_one_le_iff, -getElem?_pos, -getElem?_neg, List.getElem?_cons_zero, List.getElem?_cons_succ, bC, h0, hk, hk2])
         | ((first | (refine (gd).det ?_) | (refine (aw _).det ?_)); try simp [-List.reduceReplicate, Nat.add_one_le_iff, -getElem?_pos, -getElem?_neg, List.getElem?_cons_zero, List.getElem?_cons_succ, bC, h0, hk, hk2])
         | (with_reducible refine awp_if_b rfl (fun hc => ?_) (fun hc => ?_) <;> (try simp [-getElem?_pos, -getElem?_neg] at hc) <;> (try (exfalso; omega)))
         | ((with_reducible first | refine GuardK_b (fun hc => ?_) (fun hc => ?_)) <;> (try simp only [Bool.not_eq_true', Bool.not_eq_false', decide_eq_true_eq, decide_eq_false_iff_not] at hc) <;> (first | (exfalso; omega) | skip) <;> simp [-List.reduceReplicate, Nat.add_one_le_iff, -getElem?_pos, -getElem?_neg, List.getElem?_cons_zero, List.getElem?_cons_succ, bC, h0, hk, hk2, hc])
         | ((with_reducible first | refine hother _ _ rfl ?_); simp only [inBlockA, thenA, noGotoA, Nat.reduceEqDiff, if_false, if_true, ↓reduceIte])
         | (with_reducible refine And.intro (by omega) ?_)
         | fail)
end Go.Av
