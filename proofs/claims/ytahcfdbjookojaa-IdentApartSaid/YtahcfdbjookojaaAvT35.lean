import Derived.Test.YtahcfdbjookojaaAvT34
import Derived.Test.YtahcfdbjookojaaAv30
set_option linter.unusedVariables false
set_option linter.unusedSimpArgs false
set_option maxRecDepth 100000
set_option maxHeartbeats 4000000
namespace Go.Av
open Go Go.Proofs Go.Proofs.Ytahcfdbjookojaa Go.RowKit
/-! ### ident: lists of headers -/
def hdsC (l : List HD) : List C := l.flatMap hdC
theorem hdsC_len (l : List HD) : (hdsC l).length = 66 * l.length := by
  have := flat_len (f := hdC) (sz := 66) hdC_len l
  unfold hdsC
  omega
theorem hdsC_at (l : List HD) (i : Nat) (h : HD) (hi : l[i]? = some h) : ((hdsC l).drop (i * 66)).take 66 = hdC h := flat_take hdC_len l i h hi
def idH (h : HD) : H32 := ⟨idL h, shaL_len _⟩
def idsTo (l : List HD) (i : Nat) : List C := hsC ((l.take i).map idH)
theorem idsTo_len (l : List HD) (i : Nat) (hi : i ≤ l.length) : (idsTo l i).length = i * 32 := by
  unfold idsTo
  rw [hsC_len]
  simp
  omega
theorem idsTo_succ (l : List HD) (i : Nat) (h : HD) (hi : l[i]? = some h) : idsTo l (i + 1) = idsTo l i ++ (idL h).map bC8 := by
  unfold idsTo
  rw [List.take_add_one, hi]
  simp [hsC, idH]
set_option maxHeartbeats 4000000 in
theorem ids_den (l : List HD) (hok : ∀ h ∈ l, HDok h) (n : Nat) (full : Bool) (hn : l.length = n) (hN : n ≤ 1000000) :
    DenV Try.prog 43 [.c (.sl (hdsC l) n full)] (.c (.sl (hsC (l.map idH)) n false)) := by
  refine Den.frame rfl rfl ?_
  have hlen := hdsC_len l
  have hat := hdsC_at l
  have hil := idsTo_len l
  have his := idsTo_succ l
  have hall : hsC (l.map idH) = idsTo l l.length := by unfold idsTo; rw [List.take_length]
  rw [hall]
  have h0 : idsTo l 0 = [] := rfl
  subst hn
  generalize hdsC l = cs at *
  generalize idsTo l = ids at *
  refine den_of Try.func43 rfl rfl (by simp [Try.ntmps43]) (fun X hX hO => ?_)
  rw [Try.ntmps43] at hX
  simp only [Try.results43]
  repeat' (first 
    | with_reducible refine awp_scope ?_
    | with_reducible refine awp_seq ?_
    | with_reducible refine awp_block ?_
    | (with_reducible refine awp_label ?_; try simp only [thenA, inBlockA, noGotoA])
    | (with_reducible refine awp_skip ?_; try simp only [thenA, inBlockA, noGotoA])
    | (with_reducible refine awp_exit ?_; simp only [thenA, inBlockA, noGotoA, if_true, Nat.reduceEqDiff, if_false, ↓reduceIte])
    | (with_reducible refine awp_ret ?_; (try simp only [thenA, inBlockA, noGotoA]); (try simp [-List.reduceReplicate, Nat.add_one_le_iff, -getElem?_pos, -getElem?_neg, List.getElem?_cons_zero, List.getElem?_cons_succ]))
    | (with_reducible refine awp_reg 19 hX [0, 2, 3, 5, 6, 7, 8, 9] ?_; simp [-List.reduceReplicate, Nat.add_one_le_iff, -getElem?_pos, -getElem?_neg, List.getElem?_cons_zero, List.getElem?_cons_succ])
    | (with_reducible refine awp_drw 19 hX [0, 2, 3, 5, 6, 7, 8, 9] Tab.mixed (by kernel_rfl) ?_; simp [-List.reduceReplicate, Nat.add_one_le_iff, -getElem?_pos, -getElem?_neg, List.getElem?_cons_zero, List.getElem?_cons_succ])
    | (with_reducible refine awp_if_b rfl (fun hc => ?_) (fun hc => ?_) <;> (try simp [-getElem?_pos, -getElem?_neg] at hc) <;> (try (exfalso; omega)))
    | (with_reducible refine GuardK_b (fun hc => ?_) (fun hc => ?_) <;> (try simp only [Bool.not_eq_true', Bool.not_eq_false', decide_eq_true_eq, decide_eq_false_iff_not] at hc) <;> (first | (exfalso; omega) | skip) <;> simp [-List.reduceReplicate, Nat.add_one_le_iff, -getElem?_pos, -getElem?_neg, List.getElem?_cons_zero, List.getElem?_cons_succ, hc])
    | (with_reducible refine DGuard_b _ _ _ _ _ _ _ _ _ _ (fun hc => ?_) (fun hc => ?_) <;> (try simp only [Bool.not_eq_true', Bool.not_eq_false', decide_eq_true_eq, decide_eq_false_iff_not] at hc) <;> (first | (exfalso; omega) | skip) <;> simp [-List.reduceReplicate, Nat.add_one_le_iff, -getElem?_pos, -getElem?_neg, List.getElem?_cons_zero, List.getElem?_cons_succ, hc])
    | (with_reducible refine DEv_cut _ _ _ _ _ _ _ _ _ _ _ _ (by kernel_rfl) ?_; simp [-List.reduceReplicate, Nat.add_one_le_iff, -getElem?_pos, -getElem?_neg, List.getElem?_cons_zero, List.getElem?_cons_succ])
    | ((with_reducible refine hother _ _ rfl ?_); simp only [inBlockA, thenA, noGotoA, Nat.reduceEqDiff, if_false, if_true, ↓reduceIte])
    | ((with_reducible refine hother2 _ _ rfl ?_); simp only [inBlockA, thenA, noGotoA, Nat.reduceEqDiff, if_false, if_true, ↓reduceIte])
    | ((with_reducible refine hother3 _ _ rfl ?_); simp only [inBlockA, thenA, noGotoA, Nat.reduceEqDiff, if_false, if_true, ↓reduceIte])
    | (with_reducible refine And.intro (by omega) ?_)
    | (with_reducible change postOf _ _ _ _ _; simp [-List.reduceReplicate, Nat.add_one_le_iff, -getElem?_pos, -getElem?_neg, List.getElem?_cons_zero, List.getElem?_cons_succ])
    | fail)
  refine awp_nil 3 24 32 (by simp) ?_
  simp
  refine awp_forU [3, 6, 7, 8] (fun i (g : Nat × Bool × List Ob) => [(3, .ms 0 g.1 0 i), (8, .c (iC i))]) (fun i (g : Nat × Bool × List Ob) => ⟨24, 32, g.2.1, g.1, up (ids i), none⟩ :: g.2.2) (fun i (g : Nat × Bool × List Ob) => True) (l.length) ((0, true, [])) (by first | trivial | (simp; done) | omega | (intros; simp at *; done)) (by simp [-List.reduceReplicate, keep, iC, h0]) (by simp [-List.reduceReplicate, iC, h0]) ?_
  rintro i g Q1 hi hH next hother
  conv => arg 5; arg 1; simp only [List.cons_append, List.nil_append, keep, get, Nat.reduceEqDiff, if_true, if_false, ↓reduceIte]
  have hwi := wrap_in ((i : Int) + 1) (by omega)
  by_cases hlt : i < l.length
  · obtain ⟨h, hh⟩ : ∃ h, l[i]? = some h := ⟨_, List.getElem?_eq_getElem hlt⟩
    have ha := hat i h hh
    have hs := his i h hh
    have hli := hil i hi
    have hb : 66 ≤ cs.length - i * 66 := by omega
    have hb2 : i * 66 + 66 ≤ cs.length := by omega
    have c4 := hdC_len h
    have c5 := hdC_66 h
    have p1 := identId_den h (hok h (List.mem_of_getElem? hh))
    have hl : (idL h).length = 32 := shaL_len _
    unfold hdM at p1
    generalize idL h = id at *
    generalize hdC h = hd at *
    generalize ids (i + 1) = ids1 at *
    generalize ids i = ids0 at *
    have t1 := hash_take id hl
    repeat' (first 
      | with_reducible refine awp_scope ?_
      | with_reducible refine awp_seq ?_
      | with_reducible refine awp_block ?_
      | (with_reducible refine awp_label ?_; try simp only [thenA, inBlockA, noGotoA])
      | (with_reducible refine awp_skip ?_; try simp only [thenA, inBlockA, noGotoA])
      | (with_reducible refine awp_exit ?_; simp only [thenA, inBlockA, noGotoA, if_true, Nat.reduceEqDiff, if_false, ↓reduceIte])
      | (with_reducible refine awp_ret ?_; (try simp only [thenA, inBlockA, noGotoA]); (try simp [-List.reduceReplicate, Nat.add_one_le_iff, -getElem?_pos, -getElem?_neg, List.getElem?_cons_zero, List.getElem?_cons_succ, iC, hlt, hwi, ha, hb, hb2, c4, c5, hashM, hl, t1, hli, roomB]))
      | (with_reducible refine awp_reg 19 hX [0, 2, 3, 5, 6, 7, 8, 9] ?_; simp [-List.reduceReplicate, Nat.add_one_le_iff, -getElem?_pos, -getElem?_neg, List.getElem?_cons_zero, List.getElem?_cons_succ, iC, hlt, hwi, ha, hb, hb2, c4, c5, hashM, hl, t1, hli, roomB])
      | (with_reducible refine awp_drw 19 hX [0, 2, 3, 5, 6, 7, 8, 9] Tab.mixed (by kernel_rfl) ?_; simp [-List.reduceReplicate, Nat.add_one_le_iff, -getElem?_pos, -getElem?_neg, List.getElem?_cons_zero, List.getElem?_cons_succ, iC, hlt, hwi, ha, hb, hb2, c4, c5, hashM, hl, t1, hli, roomB])
      | (refine (p1 _).det ?_; try simp [-List.reduceReplicate, Nat.add_one_le_iff, -getElem?_pos, -getElem?_neg, List.getElem?_cons_zero, List.getElem?_cons_succ, iC, hlt, hwi, ha, hb, hb2, c4, c5, hashM, hl, t1, hli, roomB])
      | (refine ⟨_, _, p1 _, fun _ => rfl, ?_⟩; try simp [-List.reduceReplicate, Nat.add_one_le_iff, -getElem?_pos, -getElem?_neg, List.getElem?_cons_zero, List.getElem?_cons_succ, iC, hlt, hwi, ha, hb, hb2, c4, c5, hashM, hl, t1, hli, roomB])
      | (with_reducible refine awp_if_b rfl (fun hc => ?_) (fun hc => ?_) <;> (try simp [-getElem?_pos, -getElem?_neg] at hc) <;> (try (exfalso; omega)))
      | (with_reducible refine GuardK_b (fun hc => ?_) (fun hc => ?_) <;> (try simp only [Bool.not_eq_true', Bool.not_eq_false', decide_eq_true_eq, decide_eq_false_iff_not] at hc) <;> (first | (exfalso; omega) | skip) <;> simp [-List.reduceReplicate, Nat.add_one_le_iff, -getElem?_pos, -getElem?_neg, List.getElem?_cons_zero, List.getElem?_cons_succ, iC, hlt, hwi, ha, hb, hb2, c4, c5, hashM, hl, t1, hli, roomB, hc])
      | (with_reducible refine DGuard_b _ _ _ _ _ _ _ _ _ _ (fun hc => ?_) (fun hc => ?_) <;> (try simp only [Bool.not_eq_true', Bool.not_eq_false', decide_eq_true_eq, decide_eq_false_iff_not] at hc) <;> (first | (exfalso; omega) | skip) <;> simp [-List.reduceReplicate, Nat.add_one_le_iff, -getElem?_pos, -getElem?_neg, List.getElem?_cons_zero, List.getElem?_cons_succ, iC, hlt, hwi, ha, hb, hb2, c4, c5, hashM, hl, t1, hli, roomB, hc])
      | (with_reducible refine DEv_cut _ _ _ _ _ _ _ _ _ _ _ _ (by kernel_rfl) ?_; simp [-List.reduceReplicate, Nat.add_one_le_iff, -getElem?_pos, -getElem?_neg, List.getElem?_cons_zero, List.getElem?_cons_succ, iC, hlt, hwi, ha, hb, hb2, c4, c5, hashM, hl, t1, hli, roomB])
      | ((with_reducible refine hother _ _ rfl ?_); simp only [inBlockA, thenA, noGotoA, Nat.reduceEqDiff, if_false, if_true, ↓reduceIte])
      | ((with_reducible refine hother2 _ _ rfl ?_); simp only [inBlockA, thenA, noGotoA, Nat.reduceEqDiff, if_false, if_true, ↓reduceIte])
      | ((with_reducible refine hother3 _ _ rfl ?_); simp only [inBlockA, thenA, noGotoA, Nat.reduceEqDiff, if_false, if_true, ↓reduceIte])
      | (with_reducible refine And.intro (by omega) ?_)
      | (with_reducible change postOf _ _ _ _ _; simp [-List.reduceReplicate, Nat.add_one_le_iff, -getElem?_pos, -getElem?_neg, List.getElem?_cons_zero, List.getElem?_cons_succ, iC, hlt, hwi, ha, hb, hb2, c4, c5, hashM, hl, t1, hli, roomB])
      | fail)
    refine next _ _ ((g.1 + 1, false, g.2.2 ++ [⟨69, 66, false, 0, up hd, none⟩])) (by omega) (by first | trivial | omega | assumption) (by simp [-List.reduceReplicate, keep, iC, hs]) (by simp [-List.reduceReplicate, iC, hs])
  · have hi2 : i = l.length := by omega
    subst hi2
    have hexit := hother; clear hother
    repeat' (first 
      | with_reducible refine awp_scope ?_
      | with_reducible refine awp_seq ?_
      | with_reducible refine awp_block ?_
      | (with_reducible refine awp_label ?_; try simp only [thenA, inBlockA, noGotoA])
      | (with_reducible refine awp_skip ?_; try simp only [thenA, inBlockA, noGotoA])
      | (with_reducible refine awp_exit ?_; simp only [thenA, inBlockA, noGotoA, if_true, Nat.reduceEqDiff, if_false, ↓reduceIte])
      | (with_reducible refine awp_ret ?_; (try simp only [thenA, inBlockA, noGotoA]); (try simp [-List.reduceReplicate, Nat.add_one_le_iff, -getElem?_pos, -getElem?_neg, List.getElem?_cons_zero, List.getElem?_cons_succ, iC, hlt]))
      | (with_reducible refine awp_reg 19 hX [0, 2, 3, 5, 6, 7, 8, 9] ?_; simp [-List.reduceReplicate, Nat.add_one_le_iff, -getElem?_pos, -getElem?_neg, List.getElem?_cons_zero, List.getElem?_cons_succ, iC, hlt])
      | (with_reducible refine awp_drw 19 hX [0, 2, 3, 5, 6, 7, 8, 9] Tab.mixed (by kernel_rfl) ?_; simp [-List.reduceReplicate, Nat.add_one_le_iff, -getElem?_pos, -getElem?_neg, List.getElem?_cons_zero, List.getElem?_cons_succ, iC, hlt])
      | (with_reducible refine awp_if_b rfl (fun hc => ?_) (fun hc => ?_) <;> (try simp [-getElem?_pos, -getElem?_neg] at hc) <;> (try (exfalso; omega)))
      | (with_reducible refine GuardK_b (fun hc => ?_) (fun hc => ?_) <;> (try simp only [Bool.not_eq_true', Bool.not_eq_false', decide_eq_true_eq, decide_eq_false_iff_not] at hc) <;> (first | (exfalso; omega) | skip) <;> simp [-List.reduceReplicate, Nat.add_one_le_iff, -getElem?_pos, -getElem?_neg, List.getElem?_cons_zero, List.getElem?_cons_succ, iC, hlt, hc])
      | (with_reducible refine DGuard_b _ _ _ _ _ _ _ _ _ _ (fun hc => ?_) (fun hc => ?_) <;> (try simp only [Bool.not_eq_true', Bool.not_eq_false', decide_eq_true_eq, decide_eq_false_iff_not] at hc) <;> (first | (exfalso; omega) | skip) <;> simp [-List.reduceReplicate, Nat.add_one_le_iff, -getElem?_pos, -getElem?_neg, List.getElem?_cons_zero, List.getElem?_cons_succ, iC, hlt, hc])
      | (with_reducible refine DEv_cut _ _ _ _ _ _ _ _ _ _ _ _ (by kernel_rfl) ?_; simp [-List.reduceReplicate, Nat.add_one_le_iff, -getElem?_pos, -getElem?_neg, List.getElem?_cons_zero, List.getElem?_cons_succ, iC, hlt])
      | ((with_reducible refine hother _ _ rfl ?_); simp only [inBlockA, thenA, noGotoA, Nat.reduceEqDiff, if_false, if_true, ↓reduceIte])
      | ((with_reducible refine hother2 _ _ rfl ?_); simp only [inBlockA, thenA, noGotoA, Nat.reduceEqDiff, if_false, if_true, ↓reduceIte])
      | ((with_reducible refine hother3 _ _ rfl ?_); simp only [inBlockA, thenA, noGotoA, Nat.reduceEqDiff, if_false, if_true, ↓reduceIte])
      | (with_reducible refine And.intro (by omega) ?_)
      | (with_reducible change postOf _ _ _ _ _; simp [-List.reduceReplicate, Nat.add_one_le_iff, -getElem?_pos, -getElem?_neg, List.getElem?_cons_zero, List.getElem?_cons_succ, iC, hlt])
      | fail)
    refine hexit _ _ rfl ?_
    simp only [inBlockA, thenA, ↓reduceIte]
    refine awp_frz2 3 [] [] g.2.2 _ (ids l.length) _ hO rfl rfl rfl (by simp [ltB]) (by simp) ?_
    repeat' (first 
      | with_reducible refine awp_scope ?_
      | with_reducible refine awp_seq ?_
      | with_reducible refine awp_block ?_
      | (with_reducible refine awp_label ?_; try simp only [thenA, inBlockA, noGotoA])
      | (with_reducible refine awp_skip ?_; try simp only [thenA, inBlockA, noGotoA])
      | (with_reducible refine awp_exit ?_; simp only [thenA, inBlockA, noGotoA, if_true, Nat.reduceEqDiff, if_false, ↓reduceIte])
      | (with_reducible refine awp_ret ?_; (try simp only [thenA, inBlockA, noGotoA]); (try simp [-List.reduceReplicate, Nat.add_one_le_iff, -getElem?_pos, -getElem?_neg, List.getElem?_cons_zero, List.getElem?_cons_succ]))
      | (with_reducible refine awp_reg 19 hX [0, 2, 3, 5, 6, 7, 8, 9] ?_; simp [-List.reduceReplicate, Nat.add_one_le_iff, -getElem?_pos, -getElem?_neg, List.getElem?_cons_zero, List.getElem?_cons_succ])
      | (with_reducible refine awp_drw 19 hX [0, 2, 3, 5, 6, 7, 8, 9] Tab.mixed (by kernel_rfl) ?_; simp [-List.reduceReplicate, Nat.add_one_le_iff, -getElem?_pos, -getElem?_neg, List.getElem?_cons_zero, List.getElem?_cons_succ])
      | (with_reducible refine awp_if_b rfl (fun hc => ?_) (fun hc => ?_) <;> (try simp [-getElem?_pos, -getElem?_neg] at hc) <;> (try (exfalso; omega)))
      | (with_reducible refine GuardK_b (fun hc => ?_) (fun hc => ?_) <;> (try simp only [Bool.not_eq_true', Bool.not_eq_false', decide_eq_true_eq, decide_eq_false_iff_not] at hc) <;> (first | (exfalso; omega) | skip) <;> simp [-List.reduceReplicate, Nat.add_one_le_iff, -getElem?_pos, -getElem?_neg, List.getElem?_cons_zero, List.getElem?_cons_succ, hc])
      | (with_reducible refine DGuard_b _ _ _ _ _ _ _ _ _ _ (fun hc => ?_) (fun hc => ?_) <;> (try simp only [Bool.not_eq_true', Bool.not_eq_false', decide_eq_true_eq, decide_eq_false_iff_not] at hc) <;> (first | (exfalso; omega) | skip) <;> simp [-List.reduceReplicate, Nat.add_one_le_iff, -getElem?_pos, -getElem?_neg, List.getElem?_cons_zero, List.getElem?_cons_succ, hc])
      | (with_reducible refine DEv_cut _ _ _ _ _ _ _ _ _ _ _ _ (by kernel_rfl) ?_; simp [-List.reduceReplicate, Nat.add_one_le_iff, -getElem?_pos, -getElem?_neg, List.getElem?_cons_zero, List.getElem?_cons_succ])
      | ((with_reducible refine hother _ _ rfl ?_); simp only [inBlockA, thenA, noGotoA, Nat.reduceEqDiff, if_false, if_true, ↓reduceIte])
      | ((with_reducible refine hother2 _ _ rfl ?_); simp only [inBlockA, thenA, noGotoA, Nat.reduceEqDiff, if_false, if_true, ↓reduceIte])
      | ((with_reducible refine hother3 _ _ rfl ?_); simp only [inBlockA, thenA, noGotoA, Nat.reduceEqDiff, if_false, if_true, ↓reduceIte])
      | (with_reducible refine And.intro (by omega) ?_)
      | (with_reducible change postOf _ _ _ _ _; simp [-List.reduceReplicate, Nat.add_one_le_iff, -getElem?_pos, -getElem?_neg, List.getElem?_cons_zero, List.getElem?_cons_succ])
      | fail)
end Go.Av
