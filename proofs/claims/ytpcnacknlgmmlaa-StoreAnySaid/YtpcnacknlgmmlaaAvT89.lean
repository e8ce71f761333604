/- 1 texts of the program logic over abstract values, joined: each is proved without any condition beyond its own words. -/
import Derived.Test.YtpcnacknlgmmlaaAvT88
import Derived.Test.YtpcnacknlgmmlaaAvT79
import Derived.Test.YtpcnacknlgmmlaaAvEngine4
set_option exponentiation.threshold 1000
set_option linter.unusedVariables false
set_option linter.unusedSimpArgs false
set_option maxRecDepth 100000
set_option maxHeartbeats 4000000
namespace Go.Av
open Go Go.Proofs Go.Proofs.Ytpcnacknlgmmlaa Go.RowKit
attribute [local simp] List.getElem?_cons_zero List.getElem?_cons_succ
/-! ### store.All, of a store that stands anywhere: its texts as a closed row -/
attribute [local simp] Try.underlying40 Try.underlying9 Try.underlying3 Try.underlying4
def csB (l : List ByteArray) : List C := (sortB l).map fun s => .v (.string s)
theorem csB_len (l : List ByteArray) : (csB l).length = l.length := by simp [csB, sortB_len]
def okOb (ob : List Ob) : Prop := ob.all (fun q => q.cs.all (ltB ob.length)) = true
theorem all_den (i j : Nat) (n : Int) (l : List ByteArray) (ob : List Ob) (h1 : ob[i]? = some (stO n (.mm j))) (h2 : ob[j]? = some (oddOb (.map (entS l)))) (hok : okOb ob) (hN : l.length ≤ 1000000) :
    Den Try.prog 16 [.mp i 0 0] ob (fun r ob' => r = .c (.sl (csB l) l.length false) ∧ ob' = ob) := by
  have hlen := entS_len l
  have hget := entS_get l
  have hcs : csB [] = [] := by simp [csB, sortB]
  have hil := (List.getElem?_eq_some_iff.1 h1).1
  have hjl := (List.getElem?_eq_some_iff.1 h2).1
  generalize entS l = es at *
  refine den_of Try.func16 rfl rfl (by simp [Try.ntmps16]) (fun X hX hO => ?_)
  rw [Try.ntmps16] at hX
  simp only [Try.results16]
  repeat' (first 
   | (with_reducible first | refine awp_scope ?_ | refine awp_seq ?_ | refine awp_block ?_)
   | ((with_reducible first | refine awp_label ?_ | refine awp_skip ?_ | refine awp_exit ?_ | refine hother _ _ rfl ?_); try simp only [thenA, inBlockA, noGotoA, if_true, Nat.reduceEqDiff, if_false, ↓reduceIte])
   | ((with_reducible first | refine awp_reg 24 hX [0, 2, 3, 4, 6, 12, 14] ?_ | change postOf _ _ _ _ _); simp [-List.reduceReplicate, Nat.add_one_le_iff, -getElem?_pos, -getElem?_neg, stO, h1, h2])
   | ((first | (with_reducible refine awp_ret ?_; try simp only [thenA, inBlockA, noGotoA])); try simp [-List.reduceReplicate, Nat.add_one_le_iff, -getElem?_pos, -getElem?_neg, stO, h1, h2])
   | (with_reducible refine awp_if_b rfl (fun hc => ?_) (fun hc => ?_) <;> (try simp [-getElem?_pos, -getElem?_neg] at hc) <;> (try (exfalso; omega)))
   | (with_reducible refine And.intro (by omega) ?_)
   | fail)
  by_cases hl : l = []
  · subst hl
    have he0 : es = [] := List.length_eq_zero_iff.1 hlen
    subst he0
    refine awp_forU [3, 12] (fun k (g : Unit) => [(3, .c (.v (.slice none 0 0))), (12, .it ob.length)]) (fun k (g : Unit) => ob ++ [oddOb (.mit (some j) 0 [])]) (fun k (g : Unit) => True) (0) (()) (by first | trivial | (simp; done) | omega | (intros; simp at *; done)) (by simp [-List.reduceReplicate, keep, stO]) (by simp [-List.reduceReplicate, stO]) ?_
    rintro k g Q1 hi hH next hother
    conv => arg 5; arg 1; simp only [List.cons_append, List.nil_append, keep, get, Nat.reduceEqDiff, if_true, if_false, ↓reduceIte]
    have g1 : (ob ++ [oddOb (.mit (some j) 0 [])])[j]? = some (oddOb (.map [])) := by rw [List.getElem?_append_left hjl, h2]
    have g2 : (ob ++ [oddOb (.mit (some j) 0 [])])[ob.length]? = some (oddOb (.mit (some j) 0 [])) := by simp
    simp only [oddOb] at g1 g2
    repeat' (first 
     | (with_reducible first | refine awp_scope ?_ | refine awp_seq ?_ | refine awp_block ?_)
     | ((with_reducible first | refine awp_label ?_ | refine awp_skip ?_ | refine awp_exit ?_ | refine hother _ _ rfl ?_); try simp only [thenA, inBlockA, noGotoA, if_true, Nat.reduceEqDiff, if_false, ↓reduceIte])
     | ((with_reducible first | refine awp_reg 24 hX [0, 2, 3, 4, 6, 12, 14] ?_ | change postOf _ _ _ _ _); simp [-List.reduceReplicate, Nat.add_one_le_iff, -getElem?_pos, -getElem?_neg, stO, g1, g2])
     | ((first | ((with_reducible refine Den.at_ (f := 22) ?_); refine (sort_none _).det ?_)); try simp [-List.reduceReplicate, Nat.add_one_le_iff, -getElem?_pos, -getElem?_neg, stO, g1, g2])
     | (with_reducible refine awp_if_b rfl (fun hc => ?_) (fun hc => ?_) <;> (try simp [-getElem?_pos, -getElem?_neg] at hc) <;> (try (exfalso; omega)))
     | (with_reducible refine And.intro (by omega) ?_)
     | fail)
    refine awp_le 2 _ (.c (.sl [] 0 false)) rfl (leM_c (leC_nil false)) ?_
    refine awp_keep [2] ?_
    simp
    refine awp_drop ob [oddOb (.mit (some j) 0 [])] (by rw [hO.1]; omega) rfl (by simp [ltB, put]) hok ?_
    repeat' (first 
     | (with_reducible first | refine awp_scope ?_ | refine awp_seq ?_ | refine awp_block ?_)
     | ((with_reducible first | refine awp_label ?_ | refine awp_skip ?_ | refine awp_exit ?_ | refine hother _ _ rfl ?_); try simp only [thenA, inBlockA, noGotoA, if_true, Nat.reduceEqDiff, if_false, ↓reduceIte])
     | ((with_reducible first | refine awp_reg 24 hX [0, 2, 3, 4, 6, 12, 14] ?_ | change postOf _ _ _ _ _); simp [-List.reduceReplicate, Nat.add_one_le_iff, -getElem?_pos, -getElem?_neg, hcs])
     | ((first | (with_reducible refine awp_ret ?_; try simp only [thenA, inBlockA, noGotoA])); try simp [-List.reduceReplicate, Nat.add_one_le_iff, -getElem?_pos, -getElem?_neg, hcs])
     | (with_reducible refine awp_if_b rfl (fun hc => ?_) (fun hc => ?_) <;> (try simp [-getElem?_pos, -getElem?_neg] at hc) <;> (try (exfalso; omega)))
     | (with_reducible refine And.intro (by omega) ?_)
     | fail)
  refine awp_nil 3 9 1 (by simp) ?_
  simp
  refine awp_forU [3, 12] (fun k (g : List Nat × Nat × Bool) => [(3, .ms (ob.length + 1) g.2.1 0 k), (12, .it ob.length)]) (fun k (g : List Nat × Nat × Bool) => ob ++ [oddOb (.mit (some j) es.length g.1), ⟨9, 1, g.2.2, g.2.1, up ((atB l g.1).map sC), none⟩]) (fun k (g : List Nat × Nat × Bool) => Told l.length g.1 ∧ g.1.length = k ∧ (k ≠ 0 → g.2.2 = false)) (l.length) (([], 0, true)) (by simp [Told]) (by simp [-List.reduceReplicate, keep, stO, atB]) (by simp [-List.reduceReplicate, stO, atB]) ?_
  rintro k g Q1 hi hH next hother
  conv => arg 5; arg 1; simp only [List.cons_append, List.nil_append, keep, get, Nat.reduceEqDiff, if_true, if_false, ↓reduceIte]
  obtain ⟨seen, gn, nl⟩ := g
  obtain ⟨hT, hk, hnl⟩ := hH
  replace hk : seen.length = k := hk
  replace hnl : k ≠ 0 → nl = false := hnl
  have hal : (atB l seen).length = k := by simp [atB, hk]
  have g1 : (ob ++ [oddOb (.mit (some j) es.length seen), ⟨9, 1, nl, gn, up ((atB l seen).map sC), none⟩])[j]? = some (oddOb (.map es)) := by rw [List.getElem?_append_left hjl, h2]
  have g2 : (ob ++ [oddOb (.mit (some j) es.length seen), ⟨9, 1, nl, gn, up ((atB l seen).map sC), none⟩])[ob.length]? = some (oddOb (.mit (some j) es.length seen)) := by simp
  have g3 : (ob ++ [oddOb (.mit (some j) es.length seen), ⟨9, 1, nl, gn, up ((atB l seen).map sC), none⟩])[ob.length + 1]? = some ⟨9, 1, nl, gn, up ((atB l seen).map sC), none⟩ := by rw [List.getElem?_append_right (by omega)]; simp
  simp only [oddOb] at g1 g2 g3
  repeat' (first 
   | (with_reducible first | refine awp_scope ?_ | refine awp_seq ?_ | refine awp_block ?_)
   | ((with_reducible first | refine awp_label ?_ | refine awp_skip ?_ | refine awp_exit ?_ | refine hother _ _ rfl ?_); try simp only [thenA, inBlockA, noGotoA, if_true, Nat.reduceEqDiff, if_false, ↓reduceIte])
   | ((with_reducible first | refine awp_reg 24 hX [0, 2, 3, 4, 6, 12, 14] ?_ | change postOf _ _ _ _ _); simp [-List.reduceReplicate, Nat.add_one_le_iff, -getElem?_pos, -getElem?_neg, stO, g1, g2, g3])
   | ((first | (with_reducible refine awp_ret ?_; try simp only [thenA, inBlockA, noGotoA])); try simp [-List.reduceReplicate, Nat.add_one_le_iff, -getElem?_pos, -getElem?_neg, stO, g1, g2, g3])
   | (with_reducible refine awp_if_b rfl (fun hc => ?_) (fun hc => ?_) <;> (try simp [-getElem?_pos, -getElem?_neg] at hc) <;> (try (exfalso; omega)))
   | (with_reducible refine And.intro (by omega) ?_)
   | fail)
  refine ⟨fun j2 a => ⟨fun b hj hns => ?_, fun b hj hns => ?_⟩, fun hall => ?_⟩
  · obtain ⟨hjl2, he⟩ := hget j2 _ hj
    simp only [Prod.mk.injEq, true_and] at he
    obtain ⟨rfl, rfl⟩ := he
    have hT2 := told_snoc hT hjl2 hns
    have hlt : k + 1 ≤ l.length := by have := told_len hT2; simp [hk] at this; exact this
    have hsn := atB_snoc l seen j2 hjl2
    have k1 : (ob ++ [oddOb (.mit (some j) es.length (seen ++ [j2])), ⟨9, 1, nl, gn, up ((atB l seen).map sC), none⟩])[j]? = some (oddOb (.map es)) := by rw [List.getElem?_append_left hjl, h2]
    have k2 : (ob ++ [oddOb (.mit (some j) es.length (seen ++ [j2])), ⟨9, 1, nl, gn, up ((atB l seen).map sC), none⟩])[ob.length]? = some (oddOb (.mit (some j) es.length (seen ++ [j2]))) := by simp
    have k3 : (ob ++ [oddOb (.mit (some j) es.length (seen ++ [j2])), ⟨9, 1, nl, gn, up ((atB l seen).map sC), none⟩])[ob.length + 1]? = some ⟨9, 1, nl, gn, up ((atB l seen).map sC), none⟩ := by rw [List.getElem?_append_right (by omega)]; simp
    simp only [oddOb] at k1 k2 k3
    repeat' (first 
     | (with_reducible first | refine awp_scope ?_ | refine awp_seq ?_ | refine awp_block ?_)
     | ((with_reducible first | refine awp_label ?_ | refine awp_skip ?_ | refine awp_exit ?_ | refine hother _ _ rfl ?_); try simp only [thenA, inBlockA, noGotoA, if_true, Nat.reduceEqDiff, if_false, ↓reduceIte])
     | ((with_reducible first | refine awp_reg 24 hX [0, 2, 3, 4, 6, 12, 14] ?_ | change postOf _ _ _ _ _); simp [-List.reduceReplicate, Nat.add_one_le_iff, -getElem?_pos, -getElem?_neg, stO, hj, hal, roomB, k1, k2, k3])
     | ((first | (with_reducible refine awp_ret ?_; try simp only [thenA, inBlockA, noGotoA])); try simp [-List.reduceReplicate, Nat.add_one_le_iff, -getElem?_pos, -getElem?_neg, stO, hj, hal, roomB, k1, k2, k3])
     | (with_reducible refine awp_if_b rfl (fun hc => ?_) (fun hc => ?_) <;> (try simp [-getElem?_pos, -getElem?_neg] at hc) <;> (try (exfalso; omega)))
     | (with_reducible refine And.intro (by omega) ?_)
     | fail)
    have nx : Told l.length (seen ++ [j2]) ∧ (seen ++ [j2]).length = k + 1 ∧ (k + 1 ≠ 0 → false = false) := ⟨hT2, by simp [hk], fun _ => rfl⟩
    refine next _ _ ((seen ++ [j2], gn + 1, false)) (by omega) (by first | trivial | omega | assumption) (by simp [-List.reduceReplicate, keep, stO, hsn, sC, up]) (by simp [-List.reduceReplicate, stO, hsn, sC, up])
  · obtain ⟨hjl2, he⟩ := hget j2 _ hj
    simp at he
  · have hkn : seen.length = l.length := told_all hT (fun j hj => hall j (by omega))
    have hl0 : l.length ≠ 0 := fun h => hl (List.length_eq_zero_iff.1 h)
    obtain rfl : nl = false := hnl (by omega)
    obtain rfl : k = l.length := by omega
    have hp : (atB l seen).Perm l := atB_perm (told_perm hT (fun j hj => hall j (by omega)))
    have hs := sort_den (ob.length + 1) gn (atB l seen) (ob ++ [oddOb (.mit (some j) es.length seen), ⟨9, 1, false, gn, up ((atB l seen).map sC), none⟩]) (by omega) g3
    rw [hal, sortB_perm hp] at hs
    repeat' (first 
     | (with_reducible first | refine awp_scope ?_ | refine awp_seq ?_ | refine awp_block ?_)
     | ((with_reducible first | refine awp_label ?_ | refine awp_skip ?_ | refine awp_exit ?_ | refine hother _ _ rfl ?_); try simp only [thenA, inBlockA, noGotoA, if_true, Nat.reduceEqDiff, if_false, ↓reduceIte])
     | ((with_reducible first | refine awp_reg 24 hX [0, 2, 3, 4, 6, 12, 14] ?_ | change postOf _ _ _ _ _); simp [-List.reduceReplicate, Nat.add_one_le_iff, -getElem?_pos, -getElem?_neg, stO])
     | ((first | (refine (hs).det ?_)); try simp [-List.reduceReplicate, Nat.add_one_le_iff, -getElem?_pos, -getElem?_neg, stO])
     | (with_reducible refine awp_if_b rfl (fun hc => ?_) (fun hc => ?_) <;> (try simp [-getElem?_pos, -getElem?_neg] at hc) <;> (try (exfalso; omega)))
     | (with_reducible refine And.intro (by omega) ?_)
     | fail)
    refine awp_keep [2] ?_
    simp
    refine awp_frz2 2 ob [oddOb (.mit (some j) es.length seen)] [] ⟨9, 1, false, gn, up ((sortB l).map sC), none⟩ (csB l) l.length hO (by simp) rfl rfl (by simp [ltB]) (by simp [oddOb]) ?_
    refine awp_keep [2] ?_
    simp
    refine awp_drop ob [oddOb (.mit (some j) es.length seen)] (by rw [hO.1]; omega) rfl (by simp [ltB, put]) hok ?_
    repeat' (first 
     | (with_reducible first | refine awp_scope ?_ | refine awp_seq ?_ | refine awp_block ?_)
     | ((with_reducible first | refine awp_label ?_ | refine awp_skip ?_ | refine awp_exit ?_ | refine hother _ _ rfl ?_); try simp only [thenA, inBlockA, noGotoA, if_true, Nat.reduceEqDiff, if_false, ↓reduceIte])
     | ((with_reducible first | refine awp_reg 24 hX [0, 2, 3, 4, 6, 12, 14] ?_ | change postOf _ _ _ _ _); simp [-List.reduceReplicate, Nat.add_one_le_iff, -getElem?_pos, -getElem?_neg])
     | ((first | (with_reducible refine awp_ret ?_; try simp only [thenA, inBlockA, noGotoA])); try simp [-List.reduceReplicate, Nat.add_one_le_iff, -getElem?_pos, -getElem?_neg])
     | (with_reducible refine awp_if_b rfl (fun hc => ?_) (fun hc => ?_) <;> (try simp [-getElem?_pos, -getElem?_neg] at hc) <;> (try (exfalso; omega)))
     | (with_reducible refine And.intro (by omega) ?_)
     | fail)
end Go.Av
