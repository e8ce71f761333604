/- 12 texts of the program logic over abstract values, joined: each is proved without any condition beyond its own words. -/
import Derived.Test.YtocccighdkdljaaGreatDoorAvWalk2
import Derived.Test.YtocccighdkdljaaGreatDoorAvWalk1
import Derived.Test.YtocccighdkdljaaGreatDoorAvEngine4
set_option exponentiation.threshold 1000
set_option linter.unusedVariables false
set_option linter.unusedSimpArgs false
set_option maxRecDepth 100000
set_option maxHeartbeats 4000000
namespace Go.Av
open Go Go.Proofs Go.Proofs.YtocccighdkdljaaGreatDoor Go.RowKit
attribute [local simp] List.getElem?_cons_zero List.getElem?_cons_succ
open Go.Hp
def runOf (keys : List ByteArray) (v : List (List Int)) (i : Nat) : Run := ⟨i, winsTo v i v.length, keyN keys i⟩
def runs (keys : List ByteArray) (v : List (List Int)) (m : Nat) : List Run := (List.range m).map (runOf keys v)
theorem runs_succ (keys : List ByteArray) (v : List (List Int)) (m : Nat) : runs keys v (m + 1) = runs keys v m ++ [runOf keys v m] := by simp [runs, List.range_succ]
def ordR (keys : List ByteArray) (v : List (List Int)) : List Run := (runs keys v (min keys.length v.length)).mergeSort fun a b => !rlt b a
theorem ordR_ok (keys : List ByteArray) (v : List (List Int)) : (ordR keys v).Perm (runs keys v (min keys.length v.length)) ∧ (ordR keys v).Pairwise fun a b => rlt b a = false := by
  refine ⟨List.mergeSort_perm _ _, ?_⟩
  have := List.pairwise_mergeSort (le := fun a b => !rlt b a) (fun a b c h1 h2 => by
    simp only [Bool.not_eq_true'] at *
    exact rlt_ord.tr a b c h1 h2) (fun a b => by
    rcases rlt_ord.tot a b with h | h <;> simp [h]) (runs keys v (min keys.length v.length))
  exact this.imp fun h => by simpa using h
def ordI (keys : List ByteArray) (v : List (List Int)) : List Int := (ordR keys v).map (·.at_)
def hpTo (keys : List ByteArray) (v : List (List Int)) : Nat → List Run
  | 0 => []
  | i + 1 => pushL rlt (hpTo keys v i) (runOf keys v i)
theorem hpTo_ok (keys : List ByteArray) (v : List (List Int)) : ∀ m, Heap rlt (hpTo keys v m) m ∧ (hpTo keys v m).Perm (runs keys v m) ∧ (hpTo keys v m).length = m := by
  intro m
  induction m with
  | zero => exact ⟨fun i h0 h => by omega, by simp [hpTo, runs], rfl⟩
  | succ m ih =>
    obtain ⟨h1, h2, h3⟩ := ih
    have hh : Heap rlt (hpTo keys v m) (hpTo keys v m).length := by rw [h3]; exact h1
    obtain ⟨k1, k2, k3⟩ := pushL_ok rlt_ord (x := runOf keys v m) hh
    rw [h3] at k1 k3
    refine ⟨k1, ?_, k3⟩
    rw [runs_succ]
    exact k2.trans (h2.append (.refl _))
def heapO (keys : List ByteArray) (v : List (List Int)) (i : Nat) : List Ob := if i = 0 then [boxE] else [boxO i (i - 1), garO (runOf keys v 0), rowO (hpTo keys v i) (i - 1)]
theorem gar_ok (r : Run) (n : Nat) : (garO r).cs.all (ltB n) = true := up_all _ _
theorem row_ok (l : List Run) (g n : Nat) : (rowO l g).cs.all (ltB n) = true := up_all _ _
theorem hpushAt_den (keys : List ByteArray) (v : List (List Int)) (i : Nat) (hi : i ≤ 100000) : Den Tryz.prog 171 [hM, .c (.ifc 279 true (runrC (runOf keys v i)))] (heapO keys v i) (fun r ob' => r = .tup [] ∧ ob' = heapO keys v (i + 1)) := by
  by_cases h0 : i = 0
  · subst h0
    exact hpush0_den _
  · have hl := (hpTo_ok keys v i).2.2
    have := hpush_den (garO (runOf keys v 0)) (gar_ok _ _) (hpTo keys v i) (i - 1) (runOf keys v i) (by omega)
    rw [hl, show i - 1 + 1 = i by omega] at this
    unfold heapO
    rw [if_neg h0, if_neg (by omega)]
    exact this
set_option maxHeartbeats 8000000 in
theorem order_den (keys : List ByteArray) (v : List (List Int)) (hk : keys.length ≤ 100000) (hv : v.length ≤ 100000) : DenV Tryz.prog 112 [.c (strsC keys), .c (rowsC v)] (.c (intsC (ordI keys v))) := by
  refine Den.frame rfl rfl ?_
  have p1 := cupWins_den v [] (by omega)
  have hw := winsAll_len v v.length
  have hwg := fun i (h : i < v.length) => winsAll_get v v.length i h
  have hp0 : heapO keys v 0 = [boxE] := rfl
  obtain ⟨m, hm⟩ : ∃ m, m = min keys.length v.length := ⟨_, rfl⟩
  have hm2 : IntKind.i64.wrap 0 = 0 := rfl
  refine den_of Tryz.func112 rfl rfl (by simp [Tryz.ntmps112]) (fun X hX hO => ?_)
  rw [Tryz.ntmps112] at hX
  simp only [Tryz.results112]
  have hmin : (if v.length < keys.length then (v.length : Int) else (keys.length : Int)) = (m : Int) := by split <;> omega
  repeat' (first 
   | (with_reducible first | refine awp_scope ?_ | refine awp_seq ?_ | refine awp_block ?_)
   | ((with_reducible first | refine awp_label ?_ | refine awp_skip ?_ | refine awp_exit ?_ | refine hother _ _ rfl ?_); try simp only [thenA, inBlockA, noGotoA, if_true, Nat.reduceEqDiff, if_false, ↓reduceIte])
   | ((with_reducible first | refine awp_reg 57 hX [0, 1, 4, 5, 6, 7, 8, 9, 10, 19, 20, 21, 42, 50] ?_ | refine DEv_cut _ _ _ _ _ _ _ _ _ _ _ _ (by kernel_rfl) ?_ | change postOf _ _ _ _ _); simp [-List.reduceReplicate, Nat.add_one_le_iff, -getElem?_pos, -getElem?_neg, strsC, intsC, hw, hmin])
   | ((first | (with_reducible refine awp_ret ?_; try simp only [thenA, inBlockA, noGotoA]) | (refine (p1).det ?_) | (refine ⟨_, _, p1, fun _ => rfl, ?_⟩)); try simp [-List.reduceReplicate, Nat.add_one_le_iff, -getElem?_pos, -getElem?_neg, strsC, intsC, hw, hmin])
   | (with_reducible refine awp_if_b rfl (fun hc => ?_) (fun hc => ?_) <;> (try simp [-getElem?_pos, -getElem?_neg] at hc) <;> (try (exfalso; omega)))
   | (with_reducible refine And.intro (by omega) ?_)
   | fail)
  refine awp_forU [0, 5, 6, 19, 20] (fun i (_u : Unit) => [(20, .c (iC i))]) (fun i (_u : Unit) => heapO keys v i) (fun i (_u : Unit) => True) (m) (()) (by first | trivial | (simp; done) | omega | (intros; simp at *; done)) (by simp [-List.reduceReplicate, keep, iC, hp0, boxE]) (by simp [-List.reduceReplicate, iC, hp0, boxE]) ?_
  rintro i _u Q1 hi hH next hother
  conv => arg 5; arg 1; simp only [List.cons_append, List.nil_append, keep, get, Nat.reduceEqDiff, if_true, if_false, ↓reduceIte]
  have hwi := wrap_in ((i : Int) + 1) (by omega)
  by_cases hlt : i < m
  · have q1 := hpushAt_den keys v i (by omega)
    have g1 := hwg i (by omega)
    obtain ⟨ki, hki⟩ := getI keys (i : Nat) (by omega) (by omega)
    simp only [Int.toNat_natCast] at hki
    have eki : keyN keys i = ki := by simp [keyN, hki]
    have er : runrC (runOf keys v i) = [iC i, iC (winsTo v i v.length), sC ki] := by simp [runrC, runOf, eki]
    have i1 : i < keys.length := by omega
    have i2 : i < v.length := by omega
    rw [er] at q1
    generalize heapO keys v (i + 1) = o2 at *
    generalize heapO keys v i = o1 at *
    repeat' (first 
     | (with_reducible first | refine awp_scope ?_ | refine awp_seq ?_ | refine awp_block ?_)
     | ((with_reducible first | refine awp_label ?_ | refine awp_skip ?_ | refine awp_exit ?_ | refine hother _ _ rfl ?_); try simp only [thenA, inBlockA, noGotoA, if_true, Nat.reduceEqDiff, if_false, ↓reduceIte])
     | ((with_reducible first | refine awp_reg 57 hX [0, 1, 4, 5, 6, 7, 8, 9, 10, 19, 20, 21, 42, 50] ?_ | refine DEv_cut _ _ _ _ _ _ _ _ _ _ _ _ (by kernel_rfl) ?_ | change postOf _ _ _ _ _); simp [-List.reduceReplicate, Nat.add_one_le_iff, -getElem?_pos, -getElem?_neg, strsC, intsC, iC, sC, hlt, hwi, g1, hki, i1, i2, hw])
     | ((first | (with_reducible refine awp_ret ?_; try simp only [thenA, inBlockA, noGotoA])); try simp [-List.reduceReplicate, Nat.add_one_le_iff, -getElem?_pos, -getElem?_neg, strsC, intsC, iC, sC, hlt, hwi, g1, hki, i1, i2, hw])
     | (with_reducible refine awp_if_b rfl (fun hc => ?_) (fun hc => ?_) <;> (try simp [-getElem?_pos, -getElem?_neg] at hc) <;> (try (exfalso; omega)))
     | (with_reducible refine And.intro (by omega) ?_)
     | fail)
    refine awp_drwc (id := 6) 57 hX [0, 1, 4, 5, 6, 7, 8, 9, 10, 19, 20, 21, 42, 50] [13] Tab.mixed (by kernel_rfl) ?_
    simp [-List.reduceReplicate, -getElem?_pos, -getElem?_neg, List.getElem?_cons_zero, List.getElem?_cons_succ, strsC, intsC, iC, sC, hlt, hwi, g1, hki, i1, i2, hw]
    refine ⟨_, _, q1, fun h => by simp [mayB] at h, ?_⟩
    repeat' (first 
     | (with_reducible first | refine awp_scope ?_ | refine awp_seq ?_ | refine awp_block ?_)
     | ((with_reducible first | refine awp_label ?_ | refine awp_skip ?_ | refine awp_exit ?_ | refine hother _ _ rfl ?_); try simp only [thenA, inBlockA, noGotoA, if_true, Nat.reduceEqDiff, if_false, ↓reduceIte])
     | ((with_reducible first | refine awp_reg 57 hX [0, 1, 4, 5, 6, 7, 8, 9, 10, 19, 20, 21, 42, 50] ?_ | refine DEv_cut _ _ _ _ _ _ _ _ _ _ _ _ (by kernel_rfl) ?_ | change postOf _ _ _ _ _); simp [-List.reduceReplicate, Nat.add_one_le_iff, -getElem?_pos, -getElem?_neg, iC, hwi])
     | ((first | (with_reducible refine awp_ret ?_; try simp only [thenA, inBlockA, noGotoA])); try simp [-List.reduceReplicate, Nat.add_one_le_iff, -getElem?_pos, -getElem?_neg, iC, hwi])
     | (with_reducible refine awp_if_b rfl (fun hc => ?_) (fun hc => ?_) <;> (try simp [-getElem?_pos, -getElem?_neg] at hc) <;> (try (exfalso; omega)))
     | (with_reducible refine And.intro (by omega) ?_)
     | fail)
    refine next _ _ (()) (by omega) (by first | trivial | omega | assumption) (by simp [-List.reduceReplicate, keep, iC]) (by simp [-List.reduceReplicate, iC])
  · have hi2 : i = m := by omega
    subst hi2
    obtain ⟨k1, k2, k3⟩ := hpTo_ok keys v i
    obtain ⟨s1, s2⟩ := ordR_ok keys v
    rw [← hm] at s1
    by_cases hm0 : i = 0
    · subst hm0
      have ho : ordI keys v = [] := by
        have : ordR keys v = [] := List.perm_nil.1 (by simpa [runs] using s1)
        simp [ordI, this]
      have hlen0 : DenV Tryz.prog 172 [.c (.sl [] 0 true)] (.c (iC 0)) := by
        refine Den.frame rfl rfl ?_
        refine den_of Tryz.func172 rfl rfl (by simp [Tryz.ntmps172]) (fun X hX hO => ?_)
        rw [Tryz.ntmps172] at hX
        simp only [Tryz.results172]
        repeat' (first 
         | (with_reducible first | refine awp_scope ?_ | refine awp_seq ?_ | refine awp_block ?_)
         | ((with_reducible first | refine awp_label ?_ | refine awp_skip ?_ | refine awp_exit ?_ | refine hother _ _ rfl ?_); try simp only [thenA, inBlockA, noGotoA, if_true, Nat.reduceEqDiff, if_false, ↓reduceIte])
         | ((with_reducible first | refine awp_reg 5 hX [0, 2] ?_ | change postOf _ _ _ _ _); simp [-List.reduceReplicate, Nat.add_one_le_iff, -getElem?_pos, -getElem?_neg, iC])
         | ((first | (with_reducible refine awp_ret ?_; try simp only [thenA, inBlockA, noGotoA])); try simp [-List.reduceReplicate, Nat.add_one_le_iff, -getElem?_pos, -getElem?_neg, iC])
         | (with_reducible refine awp_if_b rfl (fun hc => ?_) (fun hc => ?_) <;> (try simp [-getElem?_pos, -getElem?_neg] at hc) <;> (try (exfalso; omega)))
         | (with_reducible refine And.intro (by omega) ?_)
         | fail)
      rw [hp0]
      clear next
      repeat' (first 
       | (with_reducible first | refine awp_scope ?_ | refine awp_seq ?_ | refine awp_block ?_)
       | ((with_reducible first | refine awp_label ?_ | refine awp_skip ?_ | refine awp_exit ?_ | refine hother _ _ rfl ?_); try simp only [thenA, inBlockA, noGotoA, if_true, Nat.reduceEqDiff, if_false, ↓reduceIte])
       | ((with_reducible first | refine awp_reg 57 hX [0, 1, 4, 5, 6, 7, 8, 9, 10, 19, 20, 21, 42, 50] ?_ | refine DEv_cut _ _ _ _ _ _ _ _ _ _ _ _ (by kernel_rfl) ?_ | change postOf _ _ _ _ _); simp [-List.reduceReplicate, Nat.add_one_le_iff, -getElem?_pos, -getElem?_neg, iC, boxE])
       | ((first | (with_reducible refine awp_ret ?_; try simp only [thenA, inBlockA, noGotoA])); try simp [-List.reduceReplicate, Nat.add_one_le_iff, -getElem?_pos, -getElem?_neg, iC, boxE])
       | (with_reducible refine awp_if_b rfl (fun hc => ?_) (fun hc => ?_) <;> (try simp [-getElem?_pos, -getElem?_neg] at hc) <;> (try (exfalso; omega)))
       | (with_reducible refine And.intro (by omega) ?_)
       | fail)
      refine awp_nil 8 3 1 (by simp) ?_
      simp
      refine awp_forU [6, 8] (fun j (_u : Unit) => []) (fun j (_u : Unit) => [boxE, ⟨3, 1, true, 0, [], none⟩]) (fun j (_u : Unit) => True) (0) (()) (by first | trivial | (simp; done) | omega | (intros; simp at *; done)) (by simp [-List.reduceReplicate, keep, iC, boxE]) (by simp [-List.reduceReplicate, iC, boxE]) ?_
      rintro j _u Q1 hi hH next hother
      conv => arg 5; arg 1; simp only [List.cons_append, List.nil_append, keep, get, Nat.reduceEqDiff, if_true, if_false, ↓reduceIte]
      have hj0 : j = 0 := by omega
      subst hj0
      have hexit := hother; clear hother
      repeat' (first 
       | (with_reducible first | refine awp_scope ?_ | refine awp_seq ?_ | refine awp_block ?_)
       | ((with_reducible first | refine awp_label ?_ | refine awp_skip ?_ | refine awp_exit ?_ | refine hother _ _ rfl ?_); try simp only [thenA, inBlockA, noGotoA, if_true, Nat.reduceEqDiff, if_false, ↓reduceIte])
       | ((with_reducible first | refine awp_reg 57 hX [0, 1, 4, 5, 6, 7, 8, 9, 10, 19, 20, 21, 42, 50] ?_ | refine DEv_cut _ _ _ _ _ _ _ _ _ _ _ _ (by kernel_rfl) ?_ | change postOf _ _ _ _ _); simp [-List.reduceReplicate, Nat.add_one_le_iff, -getElem?_pos, -getElem?_neg, iC, boxE])
       | ((first | (with_reducible refine awp_ret ?_; try simp only [thenA, inBlockA, noGotoA]) | (refine (hlen0 _).det ?_) | (refine ⟨_, _, hlen0 _, fun _ => rfl, ?_⟩)); try simp [-List.reduceReplicate, Nat.add_one_le_iff, -getElem?_pos, -getElem?_neg, iC, boxE])
       | (with_reducible refine awp_if_b rfl (fun hc => ?_) (fun hc => ?_) <;> (try simp [-getElem?_pos, -getElem?_neg] at hc) <;> (try (exfalso; omega)))
       | (with_reducible refine And.intro (by omega) ?_)
       | fail)
      refine hexit _ _ rfl ?_
      simp only [inBlockA, thenA, ↓reduceIte]
      refine awp_frz2 8 [] [⟨276, 1, false, 0, [.c (.sl [] 0 true)], none⟩] [] _ [] _ hO rfl rfl rfl (by simp [ltB]) (by simp [ltB]) ?_
      repeat' (first 
       | (with_reducible first | refine awp_scope ?_ | refine awp_seq ?_ | refine awp_block ?_)
       | ((with_reducible first | refine awp_label ?_ | refine awp_skip ?_ | refine awp_exit ?_ | refine hother _ _ rfl ?_); try simp only [thenA, inBlockA, noGotoA, if_true, Nat.reduceEqDiff, if_false, ↓reduceIte])
       | ((with_reducible first | refine awp_reg 57 hX [0, 1, 4, 5, 6, 7, 8, 9, 10, 19, 20, 21, 42, 50] ?_ | refine DEv_cut _ _ _ _ _ _ _ _ _ _ _ _ (by kernel_rfl) ?_ | change postOf _ _ _ _ _); simp [-List.reduceReplicate, Nat.add_one_le_iff, -getElem?_pos, -getElem?_neg, ho, intsC])
       | ((first | (with_reducible refine awp_ret ?_; try simp only [thenA, inBlockA, noGotoA])); try simp [-List.reduceReplicate, Nat.add_one_le_iff, -getElem?_pos, -getElem?_neg, ho, intsC])
       | (with_reducible refine awp_if_b rfl (fun hc => ?_) (fun hc => ?_) <;> (try simp [-getElem?_pos, -getElem?_neg] at hc) <;> (try (exfalso; omega)))
       | (with_reducible refine And.intro (by omega) ?_)
       | fail)
    · have hh : Heap rlt (hpTo keys v i) (hpTo keys v i).length := by rw [k3]; exact k1
      have hout0 := out_start hh k2
      rw [k3] at hout0
      have hobj : heapO keys v i = [boxP i (i - 1), garO (runOf keys v 0), rowO (hpTo keys v i) (i - 1)] := by
        unfold heapO boxP boxO
        rw [if_neg hm0, if_neg hm0]
      rw [hobj]
      have hgar := gar_ok (runOf keys v 0)
      generalize garO (runOf keys v 0) = gb at *
      generalize hpTo keys v i = L0 at *
      clear next hobj
      obtain ⟨go, hgo⟩ : ∃ go, go = i - 1 := ⟨_, rfl⟩
      rw [← hgo]
      have hfin : ∀ o L : List Run, Out rlt (runs keys v i) o L 0 → o = ordR keys v := fun o L h => by
        obtain ⟨e1, e2⟩ := out_end h
        exact sorted_one rlt_anti e2 s2 (e1.trans s1.symm)
      repeat' (first 
       | (with_reducible first | refine awp_scope ?_ | refine awp_seq ?_ | refine awp_block ?_)
       | ((with_reducible first | refine awp_label ?_ | refine awp_skip ?_ | refine awp_exit ?_ | refine hother _ _ rfl ?_); try simp only [thenA, inBlockA, noGotoA, if_true, Nat.reduceEqDiff, if_false, ↓reduceIte])
       | ((with_reducible first | refine awp_reg 57 hX [0, 1, 4, 5, 6, 7, 8, 9, 10, 19, 20, 21, 42, 50] ?_ | refine DEv_cut _ _ _ _ _ _ _ _ _ _ _ _ (by kernel_rfl) ?_ | change postOf _ _ _ _ _); simp [-List.reduceReplicate, Nat.add_one_le_iff, -getElem?_pos, -getElem?_neg, iC])
       | ((first | (with_reducible refine awp_ret ?_; try simp only [thenA, inBlockA, noGotoA])); try simp [-List.reduceReplicate, Nat.add_one_le_iff, -getElem?_pos, -getElem?_neg, iC])
       | (with_reducible refine awp_if_b rfl (fun hc => ?_) (fun hc => ?_) <;> (try simp [-getElem?_pos, -getElem?_neg] at hc) <;> (try (exfalso; omega)))
       | (with_reducible refine And.intro (by omega) ?_)
       | fail)
      refine awp_nil 8 3 1 (by simp) ?_
      simp
      have lenE : DenV Tryz.prog 172 [.c (.sl [] 0 false)] (.c (iC 0)) := by
        refine Den.frame rfl rfl ?_
        refine den_of Tryz.func172 rfl rfl (by simp [Tryz.ntmps172]) (fun X hX hO => ?_)
        rw [Tryz.ntmps172] at hX
        simp only [Tryz.results172]
        repeat' (first 
         | (with_reducible first | refine awp_scope ?_ | refine awp_seq ?_ | refine awp_block ?_)
         | ((with_reducible first | refine awp_label ?_ | refine awp_skip ?_ | refine awp_exit ?_ | refine hother _ _ rfl ?_); try simp only [thenA, inBlockA, noGotoA, if_true, Nat.reduceEqDiff, if_false, ↓reduceIte])
         | ((with_reducible first | refine awp_reg 5 hX [0, 2] ?_ | change postOf _ _ _ _ _); simp [-List.reduceReplicate, Nat.add_one_le_iff, -getElem?_pos, -getElem?_neg, iC])
         | ((first | (with_reducible refine awp_ret ?_; try simp only [thenA, inBlockA, noGotoA])); try simp [-List.reduceReplicate, Nat.add_one_le_iff, -getElem?_pos, -getElem?_neg, iC])
         | (with_reducible refine awp_if_b rfl (fun hc => ?_) (fun hc => ?_) <;> (try simp [-getElem?_pos, -getElem?_neg] at hc) <;> (try (exfalso; omega)))
         | (with_reducible refine And.intro (by omega) ?_)
         | fail)
      refine awp_forU [6, 8] (fun j (p : List Run × List Run × Nat × Bool × List Ob) => [(8, .ms 3 p.2.2.1 0 j)]) (fun j (p : List Run × List Run × Nat × Bool × List Ob) => [boxP (i - j) go, gb, rowO p.1 go, ⟨3, 1, p.2.2.2.1, p.2.2.1, up (p.2.1.map fun x => iC x.at_), none⟩] ++ p.2.2.2.2) (fun j (p : List Run × List Run × Nat × Bool × List Ob) => Out rlt (runs keys v i) p.2.1 p.1 (i - j) ∧ p.2.1.length = j ∧ p.1.length = i) (i) ((L0, [], 0, true, [])) (⟨hout0, rfl, k3⟩) (by simp [-List.reduceReplicate, keep, iC]) (by simp [-List.reduceReplicate, iC]) ?_
      rintro j p Q1 hi hH next hother
      conv => arg 5; arg 1; simp only [List.cons_append, List.nil_append, keep, get, Nat.reduceEqDiff, if_true, if_false, ↓reduceIte]
      obtain ⟨L, o, g1, n1, gar⟩ := p
      obtain ⟨ho1, ho2, ho3⟩ := hH
      simp only at ho1 ho2 ho3
      have boxok : ∀ n, (boxP n go).cs.all (ltB 4) = true := fun n => by unfold boxP; by_cases h : n = 0 <;> simp [h, ltB]
      refine awp_drop [boxP (i - j) go, gb, rowO L go, ⟨3, 1, n1, g1, up (o.map fun x => iC x.at_), none⟩] gar (by rw [hO.1]; simp) rfl (by simp [ltB]) (by simp only [List.all_cons, List.all_nil, Bool.and_true, Bool.and_eq_true]; exact ⟨boxok _, hgar 4, row_ok _ _ _, up_all _ _⟩) ?_
      by_cases hlt : j < i
      · obtain ⟨k, hk⟩ : ∃ k, i - j = k + 1 := ⟨i - j - 1, by omega⟩
        rw [hk] at ho1 ⊢
        have hk2 : i - (j + 1) = k := by omega
        rw [hk2] at next
        have hbox : boxP (k + 1) go = ⟨276, 1, false, 0, [.ms 2 go 0 (k + 1)], none⟩ := rfl
        obtain ⟨st1, st2⟩ := out_step rlt_ord ho1
        have hrow : rowO L go = ⟨279, 3, false, go, up (rowC L), none⟩ := rfl
        have hkl := ho1.len
        have q1 := (rowLen_den ⟨276, 1, false, 0, [.ms 2 go 0 (k + 1)], none⟩ gb (rowC L) go (k + 1)).frame1 [⟨3, 1, n1, g1, up (o.map fun x => iC x.at_), none⟩] rfl (by simp only [List.all_cons, List.all_nil, Bool.and_true, Bool.and_eq_true]; exact ⟨rfl, hgar 3, up_all _ _⟩) rfl
        have hall : [boxO (k + 1) go, gb, rowO L go].all (fun o => o.cs.all (ltB 3)) = true := by
          simp only [List.all_cons, List.all_nil, Bool.and_true, Bool.and_eq_true]
          exact ⟨rfl, hgar 3, row_ok _ _ _⟩
        have q2 := Den.frame1 (ob2 := [boxP k go, gb, rowO (popL rlt L k) go]) [⟨3, 1, n1, g1, up (o.map fun x => iC x.at_), none⟩] rfl hall rfl (hpop_den gb (hgar 3) L go k (by omega) (by omega))
        rw [st2] at q2
        have hbo : boxO (k + 1) go = ⟨276, 1, false, 0, [.ms 2 go 0 (k + 1)], none⟩ := rfl
        simp only [List.cons_append, List.nil_append, hbo] at q1 q2
        have hlen2 : (popL rlt L k).length = i := by rw [popL_len]; exact ho3
        have nx : Out rlt (runs keys v i) (o ++ [at' L 0]) (popL rlt L k) k ∧ (o ++ [at' L 0]).length = j + 1 ∧ (popL rlt L k).length = i := ⟨st1, by simp [ho2], hlen2⟩
        have hrr : ∀ r, (runrC r).length = 3 := fun _ => rfl
        have hr0 : runrC (at' L 0) = [iC (at' L 0).at_, iC (at' L 0).wins, sC (at' L 0).key] := rfl
        have hol : (o.map fun x => iC x.at_).length = j := by simp [ho2]
        rw [hbox]
        rw [hrow] at q2 ⊢
        have hmapx : (o ++ [at' L 0]).map (fun x => iC x.at_) = o.map (fun x => iC x.at_) ++ [iC (at' L 0).at_] := by simp
        have hnext := fun fr' ob' g' n' gar' => next fr' ob' (popL rlt L k, o ++ [at' L 0], g', n', gar') hlt nx
        simp only [hmapx] at hnext
        clear next
        generalize (o.map fun x => iC x.at_) = oc at *
        generalize at' L 0 = x at *
        generalize rowO (popL rlt L k) go = ro2 at *
        generalize boxP k go = bp2 at *
        generalize rowC L = cs at *
        have c1 : (0 : Int) < (k : Int) + 1 := by omega
        repeat' (first 
         | (with_reducible first | refine awp_scope ?_ | refine awp_seq ?_ | refine awp_block ?_)
         | ((with_reducible first | refine awp_label ?_ | refine awp_skip ?_ | refine awp_exit ?_ | refine hother _ _ rfl ?_); try simp only [thenA, inBlockA, noGotoA, if_true, Nat.reduceEqDiff, if_false, ↓reduceIte])
         | ((with_reducible first | refine awp_reg 57 hX [0, 1, 4, 5, 6, 7, 8, 9, 10, 19, 20, 21, 42, 50] ?_ | refine DEv_cut _ _ _ _ _ _ _ _ _ _ _ _ (by kernel_rfl) ?_ | change postOf _ _ _ _ _); simp [-List.reduceReplicate, Nat.add_one_le_iff, -getElem?_pos, -getElem?_neg, iC, bC, c1, hr0, hrr, roomB])
         | ((first | (with_reducible refine awp_ret ?_; try simp only [thenA, inBlockA, noGotoA]) | (refine (q1).det ?_) | (refine ⟨_, _, q1, fun _ => rfl, ?_⟩) | (refine (q2).det ?_) | (refine ⟨_, _, q2, fun _ => rfl, ?_⟩)); try simp [-List.reduceReplicate, Nat.add_one_le_iff, -getElem?_pos, -getElem?_neg, iC, bC, c1, hr0, hrr, roomB])
         | (with_reducible refine awp_if_b rfl (fun hc => ?_) (fun hc => ?_) <;> (try simp [-getElem?_pos, -getElem?_neg] at hc) <;> (try (exfalso; omega)))
         | (with_reducible refine And.intro (by omega) ?_)
         | fail)
        exact hnext _ _ _ _ [_] (by simp [keep, iC]) rfl
      · have hj2 : j = i := by omega
        subst hj2
        have hexit := hother; clear hother
        rw [Nat.sub_self] at ho1 ⊢
        have hres := hfin o L ho1
        have hbox0 : boxP 0 go = ⟨276, 1, false, 0, [.c (.sl [] 0 false)], none⟩ := rfl
        have hoI : ordI keys v = o.map (·.at_) := by unfold ordI; rw [hres]
        rw [hbox0]
        have hrow : rowO L go = ⟨279, 3, false, go, up (rowC L), none⟩ := rfl
        have hrk := row_ok L go 3
        generalize rowO L go = ro at *
        repeat' (first 
         | (with_reducible first | refine awp_scope ?_ | refine awp_seq ?_ | refine awp_block ?_)
         | ((with_reducible first | refine awp_label ?_ | refine awp_skip ?_ | refine awp_exit ?_ | refine hother _ _ rfl ?_); try simp only [thenA, inBlockA, noGotoA, if_true, Nat.reduceEqDiff, if_false, ↓reduceIte])
         | ((with_reducible first | refine awp_reg 57 hX [0, 1, 4, 5, 6, 7, 8, 9, 10, 19, 20, 21, 42, 50] ?_ | refine DEv_cut _ _ _ _ _ _ _ _ _ _ _ _ (by kernel_rfl) ?_ | change postOf _ _ _ _ _); simp [-List.reduceReplicate, Nat.add_one_le_iff, -getElem?_pos, -getElem?_neg, iC])
         | ((first | (with_reducible refine awp_ret ?_; try simp only [thenA, inBlockA, noGotoA]) | (refine (lenE _).det ?_) | (refine ⟨_, _, lenE _, fun _ => rfl, ?_⟩)); try simp [-List.reduceReplicate, Nat.add_one_le_iff, -getElem?_pos, -getElem?_neg, iC])
         | (with_reducible refine awp_if_b rfl (fun hc => ?_) (fun hc => ?_) <;> (try simp [-getElem?_pos, -getElem?_neg] at hc) <;> (try (exfalso; omega)))
         | (with_reducible refine And.intro (by omega) ?_)
         | fail)
        refine hexit _ _ rfl ?_
        simp only [inBlockA, thenA, ↓reduceIte]
        refine awp_frz2 8 [] [⟨276, 1, false, 0, [.c (.sl [] 0 false)], none⟩, gb, ro] [] _ (o.map fun x => iC x.at_) _ hO rfl rfl rfl (by simp [ltB]) (by simp only [List.all_cons, List.all_nil, Bool.and_true, Bool.and_eq_true]; exact ⟨rfl, hgar 3, hrk⟩) ?_
        repeat' (first 
         | (with_reducible first | refine awp_scope ?_ | refine awp_seq ?_ | refine awp_block ?_)
         | ((with_reducible first | refine awp_label ?_ | refine awp_skip ?_ | refine awp_exit ?_ | refine hother _ _ rfl ?_); try simp only [thenA, inBlockA, noGotoA, if_true, Nat.reduceEqDiff, if_false, ↓reduceIte])
         | ((with_reducible first | refine awp_reg 57 hX [0, 1, 4, 5, 6, 7, 8, 9, 10, 19, 20, 21, 42, 50] ?_ | refine DEv_cut _ _ _ _ _ _ _ _ _ _ _ _ (by kernel_rfl) ?_ | change postOf _ _ _ _ _); simp [-List.reduceReplicate, Nat.add_one_le_iff, -getElem?_pos, -getElem?_neg, hoI, intsC, ho2])
         | ((first | (with_reducible refine awp_ret ?_; try simp only [thenA, inBlockA, noGotoA])); try simp [-List.reduceReplicate, Nat.add_one_le_iff, -getElem?_pos, -getElem?_neg, hoI, intsC, ho2])
         | (with_reducible refine awp_if_b rfl (fun hc => ?_) (fun hc => ?_) <;> (try simp [-getElem?_pos, -getElem?_neg] at hc) <;> (try (exfalso; omega)))
         | (with_reducible refine And.intro (by omega) ?_)
         | fail)
        all_goals (trace_state; sorry)
end Go.Av

set_option exponentiation.threshold 1000
set_option linter.unusedVariables false
set_option linter.unusedSimpArgs false
set_option maxRecDepth 100000
set_option maxHeartbeats 4000000
namespace Go.Av
open Go Go.Proofs Go.Proofs.YtocccighdkdljaaGreatDoor Go.RowKit
attribute [local simp] List.getElem?_cons_zero List.getElem?_cons_succ
open Go.Hp
def insAt (l : List Run) (r : Run) : Nat := (l.takeWhile fun a => rlt a r).length
def insR (l : List Run) (r : Run) : List Run := l.take (insAt l r) ++ r :: l.drop (insAt l r)
def insTo (keys : List ByteArray) (v : List (List Int)) : Nat → List Run
  | 0 => []
  | i + 1 => insR (insTo keys v i) (runOf keys v i)
end Go.Av

set_option exponentiation.threshold 1000
set_option linter.unusedVariables false
set_option linter.unusedSimpArgs false
set_option maxRecDepth 100000
set_option maxHeartbeats 4000000
namespace Go.Av
open Go Go.Proofs Go.Proofs.YtocccighdkdljaaGreatDoor Go.RowKit
attribute [local simp] List.getElem?_cons_zero List.getElem?_cons_succ
open Go.Hp
def atsC (o : List Run) : List C := o.map fun x => iC x.at_
end Go.Av

set_option exponentiation.threshold 1000
set_option linter.unusedVariables false
set_option linter.unusedSimpArgs false
set_option maxRecDepth 100000
set_option maxHeartbeats 4000000
namespace Go.Av
open Go Go.Proofs Go.Proofs.YtocccighdkdljaaGreatDoor Go.RowKit
attribute [local simp] List.getElem?_cons_zero List.getElem?_cons_succ
open Go.Hp
def winI (keys : List ByteArray) (v : List (List Int)) : Int := ((ordI keys v)[0]?).getD (-1)
theorem winner_den (keys : List ByteArray) (v : List (List Int)) (hk : keys.length ≤ 100000) (hv : v.length ≤ 100000) : DenV Tryz.prog 65 [.c (strsC keys), .c (rowsC v)] (.c (iC (winI keys v))) := by
  refine Den.frame rfl rfl ?_
  have p1 := order_den keys v hk hv
  have hw : winI keys v = ((ordI keys v)[0]?).getD (-1) := rfl
  generalize winI keys v = w at *
  generalize ordI keys v = o at *
  refine den_of Tryz.func65 rfl rfl (by simp [Tryz.ntmps65]) (fun X hX hO => ?_)
  rw [Tryz.ntmps65] at hX
  simp only [Tryz.results65]
  cases o with
  | nil =>
    simp at hw
    repeat' (first 
     | (with_reducible first | refine awp_scope ?_ | refine awp_seq ?_ | refine awp_block ?_)
     | ((with_reducible first | refine awp_label ?_ | refine awp_skip ?_ | refine awp_exit ?_); try simp only [thenA, inBlockA, noGotoA, if_true, Nat.reduceEqDiff, if_false, ↓reduceIte])
     | ((with_reducible first | refine awp_reg 15 hX [0, 1, 4, 5, 11] ?_ | change postOf _ _ _ _ _); simp [-List.reduceReplicate, Nat.add_one_le_iff, -getElem?_pos, -getElem?_neg, intsC, iC, hw])
     | ((first | (with_reducible refine awp_ret ?_; try simp only [thenA, inBlockA, noGotoA]) | (refine (p1 _).det ?_)); try simp [-List.reduceReplicate, Nat.add_one_le_iff, -getElem?_pos, -getElem?_neg, intsC, iC, hw])
     | (with_reducible refine awp_if_b rfl (fun hc => ?_) (fun hc => ?_) <;> (try simp [-getElem?_pos, -getElem?_neg] at hc) <;> (try (exfalso; omega)))
     | (with_reducible refine And.intro (by omega) ?_)
     | fail)
  | cons x o =>
    simp at hw
    repeat' (first 
     | (with_reducible first | refine awp_scope ?_ | refine awp_seq ?_ | refine awp_block ?_)
     | ((with_reducible first | refine awp_label ?_ | refine awp_skip ?_ | refine awp_exit ?_); try simp only [thenA, inBlockA, noGotoA, if_true, Nat.reduceEqDiff, if_false, ↓reduceIte])
     | ((with_reducible first | refine awp_reg 15 hX [0, 1, 4, 5, 11] ?_ | change postOf _ _ _ _ _); simp [-List.reduceReplicate, Nat.add_one_le_iff, -getElem?_pos, -getElem?_neg, intsC, iC, hw])
     | ((first | (with_reducible refine awp_ret ?_; try simp only [thenA, inBlockA, noGotoA]) | (refine (p1 _).det ?_)); try simp [-List.reduceReplicate, Nat.add_one_le_iff, -getElem?_pos, -getElem?_neg, intsC, iC, hw])
     | (with_reducible refine awp_if_b rfl (fun hc => ?_) (fun hc => ?_) <;> (try simp [-getElem?_pos, -getElem?_neg] at hc) <;> (try (exfalso; omega)))
     | (with_reducible refine And.intro (by omega) ?_)
     | fail)
def fewTo (keys : List ByteArray) : Nat → Int
  | 0 => 0
  | i + 1 => if 1048576 < IntKind.i64.wrap (fewTo keys i + (keyN keys i).size) then 1048576 else IntKind.i64.wrap (fewTo keys i + (keyN keys i).size)
def few (keys : List ByteArray) : Bool := decide (keys.length ≤ 20) && decide (fewTo keys (min keys.length 30) ≤ 2000)
end Go.Av

set_option exponentiation.threshold 1000
set_option linter.unusedVariables false
set_option linter.unusedSimpArgs false
set_option maxRecDepth 100000
set_option maxHeartbeats 4000000
namespace Go.Av
open Go Go.Proofs Go.Proofs.YtocccighdkdljaaGreatDoor Go.RowKit
attribute [local simp] List.getElem?_cons_zero List.getElem?_cons_succ
attribute [local simp] Tryz.underlying9 Tryz.underlying3 Tryz.underlying4 Tryz.underlying32 Tryz.underlying24 Tryz.underlying121 Tryz.underlying123 Tryz.underlying129 Tryz.underlying74 Tryz.underlying132 Tryz.underlying31 Tryz.underlying43 Tryz.underlying36 Tryz.underlying40
@[simp] theorem isIfc_error : isIfcT Tryz.prog 74 = true := by kernel_rfl
def noneS : ByteArray := bsS [110, 111, 32, 115, 101, 115, 115, 105, 111, 110]
def longS : ByteArray := bsS [116, 111, 111, 32, 109, 97, 110, 121, 32, 104, 101, 97, 100, 101, 114, 115]
def nilE : M := .c (.v .nilIface)
def noneE : M := .c (wrC (signC noneS))
def longE : M := .c (wrC (signC longS))
def refE (e : Int) (b : ByteArray) : M := .c (wrC (refC e b))
theorem code_none : DenV Tryz.prog 29 [noneE] (.c (iC 6)) := by
  refine Den.frame rfl rfl ?_
  have e1 : DenV Tryz.prog 61 [.c (wrC (signC noneS)), .c (signC noneS)] (.c (.v (.bool true))) := isSign_den noneS noneS
  unfold noneE wrC signC
  refine den_of Tryz.func29 rfl rfl (by simp [Tryz.ntmps29]) (fun X hX hO => ?_)
  rw [Tryz.ntmps29] at hX
  simp only [Tryz.results29]
  repeat' (first 
   | (with_reducible first | refine awp_scope ?_ | refine awp_seq ?_ | refine awp_block ?_)
   | ((with_reducible first | refine awp_label ?_ | refine awp_skip ?_ | refine awp_exit ?_); try simp only [thenA, inBlockA, noGotoA, if_true, Nat.reduceEqDiff, if_false, ↓reduceIte])
   | ((with_reducible first | refine awp_reg 21 hX [0, 2, 3, 4, 7, 11, 15] ?_ | change postOf _ _ _ _ _); simp [-List.reduceReplicate, Nat.add_one_le_iff, -getElem?_pos, -getElem?_neg, iC])
   | ((first | (with_reducible refine awp_ret ?_; try simp only [thenA, inBlockA, noGotoA]) | ((with_reducible refine Den.at_ (f := 61) ?_); refine (e1 _).det ?_)); try simp [-List.reduceReplicate, Nat.add_one_le_iff, -getElem?_pos, -getElem?_neg, iC])
   | (with_reducible refine awp_if_b rfl (fun hc => ?_) (fun hc => ?_) <;> (try simp [-getElem?_pos, -getElem?_neg] at hc) <;> (try (exfalso; omega)))
   | (with_reducible refine And.intro (by omega) ?_)
   | fail)
end Go.Av

set_option exponentiation.threshold 1000
set_option linter.unusedVariables false
set_option linter.unusedSimpArgs false
set_option maxRecDepth 100000
set_option maxHeartbeats 4000000
namespace Go.Av
open Go Go.Proofs Go.Proofs.YtocccighdkdljaaGreatDoor Go.RowKit
attribute [local simp] List.getElem?_cons_zero List.getElem?_cons_succ
attribute [local simp] Tryz.underlying9 Tryz.underlying3 Tryz.underlying4 Tryz.underlying32 Tryz.underlying24 Tryz.underlying121 Tryz.underlying123 Tryz.underlying129 Tryz.underlying74 Tryz.underlying132 Tryz.underlying31 Tryz.underlying43 Tryz.underlying36 Tryz.underlying40 Tryz.underlying44 Tryz.underlying29 Tryz.underlying27 Tryz.underlying22
structure BS where
  bytes : ByteArray
  tip : H32
  wins : Int
  tot : Int
def bstC (b : BS) : List C := .v (.string b.bytes) :: (b.tip.1.map bC8 ++ [iC b.wins, iC b.tot])
def bstM (b : BS) : M := .agg (up (bstC b))
def zBS : BS := ⟨e0, Z32, 0, 0⟩
structure FN where
  blk : H32
  height : Nat
  idx : Int
  tx : ByteArray
def fndC (f : FN) : List C := f.blk.1.map bC8 ++ [u32v f.height, iC f.idx, .v (.string f.tx)]
def fndM (f : FN) : M := .agg (up (fndC f))
def zFN : FN := ⟨Z32, 0, 0, e0⟩
theorem bstC_len (b : BS) : (bstC b).length = 35 := by simp [bstC, b.tip.2]
theorem fndC_len (f : FN) : (fndC f).length = 35 := by simp [fndC, f.blk.2]
theorem bstC_take (b : BS) : (bstC b).take 35 = bstC b := List.take_of_length_le (by rw [bstC_len]; exact Nat.le_refl _)
theorem fndC_take (f : FN) : (fndC f).take 35 = fndC f := List.take_of_length_le (by rw [fndC_len]; exact Nat.le_refl _)
def nilSess : M := .c (.v (.pointer none))
theorem verdNil_den : DenV Tryz.prog 10 [nilSess] (.tup [nilM, nilM]) := by
  refine Den.frame rfl rfl ?_
  unfold nilSess nilM
  refine den_of Tryz.func10 rfl rfl (by simp [Tryz.ntmps10]) (fun X hX hO => ?_)
  rw [Tryz.ntmps10] at hX
  simp only [Tryz.results10]
  repeat' (first 
   | (with_reducible first | refine awp_scope ?_ | refine awp_seq ?_ | refine awp_block ?_)
   | ((with_reducible first | refine awp_label ?_ | refine awp_skip ?_ | refine awp_exit ?_); try simp only [thenA, inBlockA, noGotoA, if_true, Nat.reduceEqDiff, if_false, ↓reduceIte])
   | ((with_reducible first | refine awp_reg 40 hX [0, 2, 3, 4, 5, 7, 9, 15, 16, 17, 18] ?_ | change postOf _ _ _ _ _); simp [-List.reduceReplicate, Nat.add_one_le_iff, -getElem?_pos, -getElem?_neg, iC])
   | ((first | (with_reducible refine awp_ret ?_; try simp only [thenA, inBlockA, noGotoA])); try simp [-List.reduceReplicate, Nat.add_one_le_iff, -getElem?_pos, -getElem?_neg, iC])
   | (with_reducible refine awp_if_b rfl (fun hc => ?_) (fun hc => ?_) <;> (try simp [-getElem?_pos, -getElem?_neg] at hc) <;> (try (exfalso; omega)))
   | (with_reducible refine And.intro (by omega) ?_)
   | fail)
theorem lenNil_den : DenV Tryz.prog 11 [nilSess] (.c (iC 0)) := by
  refine Den.frame rfl rfl ?_
  unfold nilSess
  refine den_of Tryz.func11 rfl rfl (by simp [Tryz.ntmps11]) (fun X hX hO => ?_)
  rw [Tryz.ntmps11] at hX
  simp only [Tryz.results11]
  repeat' (first 
   | (with_reducible first | refine awp_scope ?_ | refine awp_seq ?_ | refine awp_block ?_)
   | ((with_reducible first | refine awp_label ?_ | refine awp_skip ?_ | refine awp_exit ?_); try simp only [thenA, inBlockA, noGotoA, if_true, Nat.reduceEqDiff, if_false, ↓reduceIte])
   | ((with_reducible first | refine awp_reg 10 hX [0, 2, 4] ?_ | change postOf _ _ _ _ _); simp [-List.reduceReplicate, Nat.add_one_le_iff, -getElem?_pos, -getElem?_neg, iC])
   | ((first | (with_reducible refine awp_ret ?_; try simp only [thenA, inBlockA, noGotoA])); try simp [-List.reduceReplicate, Nat.add_one_le_iff, -getElem?_pos, -getElem?_neg, iC])
   | (with_reducible refine awp_if_b rfl (fun hc => ?_) (fun hc => ?_) <;> (try simp [-getElem?_pos, -getElem?_neg] at hc) <;> (try (exfalso; omega)))
   | (with_reducible refine And.intro (by omega) ?_)
   | fail)
theorem readNil_den (b : ByteArray) : DenV Tryz.prog 28 [nilSess, .c (sC b)] (.tup [nilM, noneE]) := by
  refine Den.frame rfl rfl ?_
  unfold nilSess nilM noneE wrC signC
  have hns : (⟨#[110, 111, 32, 115, 101, 115, 115, 105, 111, 110]⟩ : ByteArray) = noneS := rfl
  refine den_of Tryz.func28 rfl rfl (by simp [Tryz.ntmps28]) (fun X hX hO => ?_)
  rw [Tryz.ntmps28] at hX
  simp only [Tryz.results28]
  repeat' (first 
   | (with_reducible first | refine awp_scope ?_ | refine awp_seq ?_ | refine awp_block ?_)
   | ((with_reducible first | refine awp_label ?_ | refine awp_skip ?_ | refine awp_exit ?_); try simp only [thenA, inBlockA, noGotoA, if_true, Nat.reduceEqDiff, if_false, ↓reduceIte])
   | ((with_reducible first | refine awp_reg 48 hX [0, 1, 4, 5, 6, 7, 8, 9, 11, 23, 32, 45] ?_ | change postOf _ _ _ _ _); simp [-List.reduceReplicate, Nat.add_one_le_iff, -getElem?_pos, -getElem?_neg, iC, hns])
   | ((first | (with_reducible refine awp_ret ?_; try simp only [thenA, inBlockA, noGotoA])); try simp [-List.reduceReplicate, Nat.add_one_le_iff, -getElem?_pos, -getElem?_neg, iC, hns])
   | (with_reducible refine awp_if_b rfl (fun hc => ?_) (fun hc => ?_) <;> (try simp [-getElem?_pos, -getElem?_neg] at hc) <;> (try (exfalso; omega)))
   | (with_reducible refine And.intro (by omega) ?_)
   | fail)
  all_goals trace_state
theorem submitNil_den (b : ByteArray) : DenV Tryz.prog 7 [nilSess, .c (sC b)] (.tup [.c (bC false), .c (iC 6)]) := by
  refine Den.frame rfl rfl ?_
  have p1 := readNil_den b
  have p2 := code_none
  unfold nilSess noneE at *
  have hw : wrC (signC noneS) = .ifc 123 true [signC noneS] := rfl
  generalize wrC (signC noneS) = w at *
  subst hw
  refine den_of Tryz.func7 rfl rfl (by simp [Tryz.ntmps7]) (fun X hX hO => ?_)
  rw [Tryz.ntmps7] at hX
  simp only [Tryz.results7]
  repeat' (first 
   | (with_reducible first | refine awp_scope ?_ | refine awp_seq ?_ | refine awp_block ?_)
   | ((with_reducible first | refine awp_label ?_ | refine awp_skip ?_ | refine awp_exit ?_); try simp only [thenA, inBlockA, noGotoA, if_true, Nat.reduceEqDiff, if_false, ↓reduceIte])
   | ((with_reducible first | refine awp_reg 46 hX [0, 1, 4, 5, 6, 7, 8, 9, 17, 29] ?_ | refine awp_drw 46 hX [0, 1, 4, 5, 6, 7, 8, 9, 17, 29] Tab.mixed (by kernel_rfl) ?_ | refine DEv_cut _ _ _ _ _ _ _ _ _ _ _ _ (by kernel_rfl) ?_ | change postOf _ _ _ _ _); simp [-List.reduceReplicate, Nat.add_one_le_iff, -getElem?_pos, -getElem?_neg, iC, bC, sC, nilM])
   | ((first | (with_reducible refine awp_ret ?_; try simp only [thenA, inBlockA, noGotoA]) | ((with_reducible refine Den.at_ (f := 28) ?_); refine (p1 _).det ?_) | ((with_reducible refine drawn_at (f := 28) ?_); refine ⟨_, _, p1 _, fun _ => rfl, ?_⟩) | ((with_reducible refine Den.at_ (f := 29) ?_); refine (p2 _).det ?_) | ((with_reducible refine drawn_at (f := 29) ?_); refine ⟨_, _, p2 _, fun _ => rfl, ?_⟩)); try simp [-List.reduceReplicate, Nat.add_one_le_iff, -getElem?_pos, -getElem?_neg, iC, bC, sC, nilM])
   | (with_reducible refine awp_if_b rfl (fun hc => ?_) (fun hc => ?_) <;> (try simp [-getElem?_pos, -getElem?_neg] at hc) <;> (try (exfalso; omega)))
   | (with_reducible refine And.intro (by omega) ?_)
   | fail)
  all_goals trace_state
theorem winNil_den : DenV Tryz.prog 65 [nilM, nilM] (.c (iC (-1))) := by
  intro ob
  have h := winner_den [] [] (by simp) (by simp) ob
  have hr : ordR [] [] = [] := List.perm_nil.1 (by simpa [runs] using (ordR_ok [] []).1)
  have e : winI [] [] = -1 := by simp [winI, ordI, hr]
  rw [e] at h
  unfold nilM
  refine h.le ?_
  exact ⟨leM_c (leC_nil _), leM_c (leC_nil _), trivial⟩
theorem bestNil_den : DenV Tryz.prog 31 [nilSess] (.tup [bstM zBS, noneE]) := by
  refine Den.frame rfl rfl ?_
  have p1 := verdNil_den
  have p2 := winNil_den
  have z0 : zeroT Tryz.prog 36 = some (up (bstC zBS)) := by kernel_rfl
  have k1 := bstC_len zBS
  have k2 := bstC_take zBS
  unfold nilSess noneE nilM bstM wrC signC at *
  generalize bstC zBS = zb at *
  have hns : (⟨#[110, 111, 32, 115, 101, 115, 115, 105, 111, 110]⟩ : ByteArray) = noneS := rfl
  refine den_of Tryz.func31 rfl rfl (by simp [Tryz.ntmps31]) (fun X hX hO => ?_)
  rw [Tryz.ntmps31] at hX
  simp only [Tryz.results31]
  repeat' (first 
   | (with_reducible first | refine awp_scope ?_ | refine awp_seq ?_ | refine awp_block ?_)
   | ((with_reducible first | refine awp_label ?_ | refine awp_skip ?_ | refine awp_exit ?_); try simp only [thenA, inBlockA, noGotoA, if_true, Nat.reduceEqDiff, if_false, ↓reduceIte])
   | ((with_reducible first | refine awp_reg 52 hX [0, 2, 3, 4, 5, 6, 7, 17] ?_ | refine awp_drw 52 hX [0, 2, 3, 4, 5, 6, 7, 17] Tab.mixed (by kernel_rfl) ?_ | refine DEv_cut _ _ _ _ _ _ _ _ _ _ _ _ (by kernel_rfl) ?_ | change postOf _ _ _ _ _); simp [-List.reduceReplicate, Nat.add_one_le_iff, -getElem?_pos, -getElem?_neg, iC, hns, z0, -Tab.zero36, k1, k2])
   | ((first | (with_reducible refine awp_ret ?_; try simp only [thenA, inBlockA, noGotoA]) | ((with_reducible refine Den.at_ (f := 10) ?_); refine (p1 _).det ?_) | ((with_reducible refine drawn_at (f := 10) ?_); refine ⟨_, _, p1 _, fun _ => rfl, ?_⟩) | ((with_reducible refine Den.at_ (f := 65) ?_); refine (p2 _).det ?_) | ((with_reducible refine drawn_at (f := 65) ?_); refine ⟨_, _, p2 _, fun _ => rfl, ?_⟩)); try simp [-List.reduceReplicate, Nat.add_one_le_iff, -getElem?_pos, -getElem?_neg, iC, hns, z0, -Tab.zero36, k1, k2])
   | (with_reducible refine awp_if_b rfl (fun hc => ?_) (fun hc => ?_) <;> (try simp [-getElem?_pos, -getElem?_neg] at hc) <;> (try (exfalso; omega)))
   | (with_reducible refine And.intro (by omega) ?_)
   | fail)
  all_goals trace_state
theorem decideNil_den : DenV Tryz.prog 8 [nilSess] (.tup [bstM zBS, .c (iC 6)]) := by
  refine Den.frame rfl rfl ?_
  have p1 := bestNil_den
  have p2 := code_none
  have z0 : zeroT Tryz.prog 36 = some (up (bstC zBS)) := by kernel_rfl
  have k1 := bstC_len zBS
  have k2 := bstC_take zBS
  unfold nilSess noneE bstM at *
  generalize wrC (signC noneS) = w at *
  generalize bstC zBS = zb at *
  refine den_of Tryz.func8 rfl rfl (by simp [Tryz.ntmps8]) (fun X hX hO => ?_)
  rw [Tryz.ntmps8] at hX
  simp only [Tryz.results8]
  repeat' (first 
   | (with_reducible first | refine awp_scope ?_ | refine awp_seq ?_ | refine awp_block ?_)
   | ((with_reducible first | refine awp_label ?_ | refine awp_skip ?_ | refine awp_exit ?_); try simp only [thenA, inBlockA, noGotoA, if_true, Nat.reduceEqDiff, if_false, ↓reduceIte])
   | ((with_reducible first | refine awp_reg 14 hX [0, 2, 3, 4, 5] ?_ | refine awp_drw 14 hX [0, 2, 3, 4, 5] Tab.mixed (by kernel_rfl) ?_ | refine DEv_cut _ _ _ _ _ _ _ _ _ _ _ _ (by kernel_rfl) ?_ | change postOf _ _ _ _ _); simp [-List.reduceReplicate, Nat.add_one_le_iff, -getElem?_pos, -getElem?_neg, iC, z0, -Tab.zero36, k1, k2])
   | ((first | (with_reducible refine awp_ret ?_; try simp only [thenA, inBlockA, noGotoA]) | ((with_reducible refine Den.at_ (f := 31) ?_); refine (p1 _).det ?_) | ((with_reducible refine drawn_at (f := 31) ?_); refine ⟨_, _, p1 _, fun _ => rfl, ?_⟩) | ((with_reducible refine Den.at_ (f := 29) ?_); refine (p2 _).det ?_) | ((with_reducible refine drawn_at (f := 29) ?_); refine ⟨_, _, p2 _, fun _ => rfl, ?_⟩)); try simp [-List.reduceReplicate, Nat.add_one_le_iff, -getElem?_pos, -getElem?_neg, iC, z0, -Tab.zero36, k1, k2])
   | (with_reducible refine awp_if_b rfl (fun hc => ?_) (fun hc => ?_) <;> (try simp [-getElem?_pos, -getElem?_neg] at hc) <;> (try (exfalso; omega)))
   | (with_reducible refine And.intro (by omega) ?_)
   | fail)
  all_goals trace_state
theorem findNil_den (b : ByteArray) : DenV Tryz.prog 32 [nilSess, .c (sC b)] (.tup [fndM zFN, noneE]) := by
  refine Den.frame rfl rfl ?_
  have p1 := bestNil_den
  have z0 : zeroT Tryz.prog 36 = some (up (bstC zBS)) := by kernel_rfl
  have z1 : zeroT Tryz.prog 40 = some (up (fndC zFN)) := by kernel_rfl
  have k1 := bstC_len zBS
  have k2 := bstC_take zBS
  have k3 := fndC_len zFN
  have k4 := fndC_take zFN
  unfold nilSess noneE bstM fndM at *
  have hw : wrC (signC noneS) = .ifc 123 true [signC noneS] := rfl
  generalize wrC (signC noneS) = w at *
  subst hw
  generalize bstC zBS = zb at *
  generalize fndC zFN = zf at *
  refine den_of Tryz.func32 rfl rfl (by simp [Tryz.ntmps32]) (fun X hX hO => ?_)
  rw [Tryz.ntmps32] at hX
  simp only [Tryz.results32]
  repeat' (first 
   | (with_reducible first | refine awp_scope ?_ | refine awp_seq ?_ | refine awp_block ?_)
   | ((with_reducible first | refine awp_label ?_ | refine awp_skip ?_ | refine awp_exit ?_); try simp only [thenA, inBlockA, noGotoA, if_true, Nat.reduceEqDiff, if_false, ↓reduceIte])
   | ((with_reducible first | refine awp_reg 72 hX [0, 1, 4, 5, 6, 7, 8, 9, 10, 11, 12, 13, 21, 32, 53] ?_ | refine awp_drw 72 hX [0, 1, 4, 5, 6, 7, 8, 9, 10, 11, 12, 13, 21, 32, 53] Tab.mixed (by kernel_rfl) ?_ | refine DEv_cut _ _ _ _ _ _ _ _ _ _ _ _ (by kernel_rfl) ?_ | change postOf _ _ _ _ _); simp [-List.reduceReplicate, Nat.add_one_le_iff, -getElem?_pos, -getElem?_neg, iC, sC, z0, z1, -Tab.zero36, -Tab.zero40, k1, k2, k3, k4])
   | ((first | (with_reducible refine awp_ret ?_; try simp only [thenA, inBlockA, noGotoA]) | ((with_reducible refine Den.at_ (f := 31) ?_); refine (p1 _).det ?_) | ((with_reducible refine drawn_at (f := 31) ?_); refine ⟨_, _, p1 _, fun _ => rfl, ?_⟩)); try simp [-List.reduceReplicate, Nat.add_one_le_iff, -getElem?_pos, -getElem?_neg, iC, sC, z0, z1, -Tab.zero36, -Tab.zero40, k1, k2, k3, k4])
   | (with_reducible refine awp_if_b rfl (fun hc => ?_) (fun hc => ?_) <;> (try simp [-getElem?_pos, -getElem?_neg] at hc) <;> (try (exfalso; omega)))
   | (with_reducible refine And.intro (by omega) ?_)
   | fail)
  all_goals trace_state
theorem queryNil_den (b : ByteArray) : DenV Tryz.prog 9 [nilSess, .c (sC b)] (.tup [fndM zFN, .c (iC 6)]) := by
  refine Den.frame rfl rfl ?_
  have p1 := findNil_den b
  have p2 := code_none
  have z1 : zeroT Tryz.prog 40 = some (up (fndC zFN)) := by kernel_rfl
  have k3 := fndC_len zFN
  have k4 := fndC_take zFN
  unfold nilSess noneE fndM at *
  generalize wrC (signC noneS) = w at *
  generalize fndC zFN = zf at *
  refine den_of Tryz.func9 rfl rfl (by simp [Tryz.ntmps9]) (fun X hX hO => ?_)
  rw [Tryz.ntmps9] at hX
  simp only [Tryz.results9]
  repeat' (first 
   | (with_reducible first | refine awp_scope ?_ | refine awp_seq ?_ | refine awp_block ?_)
   | ((with_reducible first | refine awp_label ?_ | refine awp_skip ?_ | refine awp_exit ?_); try simp only [thenA, inBlockA, noGotoA, if_true, Nat.reduceEqDiff, if_false, ↓reduceIte])
   | ((with_reducible first | refine awp_reg 17 hX [0, 1, 4, 5, 6, 7] ?_ | refine awp_drw 17 hX [0, 1, 4, 5, 6, 7] Tab.mixed (by kernel_rfl) ?_ | refine DEv_cut _ _ _ _ _ _ _ _ _ _ _ _ (by kernel_rfl) ?_ | change postOf _ _ _ _ _); simp [-List.reduceReplicate, Nat.add_one_le_iff, -getElem?_pos, -getElem?_neg, iC, sC, z1, -Tab.zero40, k3, k4])
   | ((first | (with_reducible refine awp_ret ?_; try simp only [thenA, inBlockA, noGotoA]) | ((with_reducible refine Den.at_ (f := 32) ?_); refine (p1 _).det ?_) | ((with_reducible refine drawn_at (f := 32) ?_); refine ⟨_, _, p1 _, fun _ => rfl, ?_⟩) | ((with_reducible refine Den.at_ (f := 29) ?_); refine (p2 _).det ?_) | ((with_reducible refine drawn_at (f := 29) ?_); refine ⟨_, _, p2 _, fun _ => rfl, ?_⟩)); try simp [-List.reduceReplicate, Nat.add_one_le_iff, -getElem?_pos, -getElem?_neg, iC, sC, z1, -Tab.zero40, k3, k4])
   | (with_reducible refine awp_if_b rfl (fun hc => ?_) (fun hc => ?_) <;> (try simp [-getElem?_pos, -getElem?_neg] at hc) <;> (try (exfalso; omega)))
   | (with_reducible refine And.intro (by omega) ?_)
   | fail)
  all_goals trace_state
theorem newBad_den (c : CF) (hok : HDok c.g) (h : checkC c ≠ 0) : DenV Tryz.prog 12 [cfM c] nilSess := by
  refine Den.frame (by simp [ltBs, ltB, cfM, ltBs_up]) rfl ?_
  have p1 := check_den c hok
  have k2 := cfC_len c
  have kt : (cfC c).take 104 = cfC c := List.take_of_length_le (by rw [k2]; exact Nat.le_refl _)
  unfold nilSess cfM at *
  generalize checkC c = e at *
  generalize cfC c = cc at *
  refine den_of Tryz.func12 rfl rfl (by simp [Tryz.ntmps12]) (fun X hX hO => ?_)
  rw [Tryz.ntmps12] at hX
  simp only [Tryz.results12]
  repeat' (first 
   | (with_reducible first | refine awp_scope ?_ | refine awp_seq ?_ | refine awp_block ?_)
   | ((with_reducible first | refine awp_label ?_ | refine awp_skip ?_ | refine awp_exit ?_); try simp only [thenA, inBlockA, noGotoA, if_true, Nat.reduceEqDiff, if_false, ↓reduceIte])
   | ((with_reducible first | refine awp_reg 13 hX [1, 2, 5] ?_ | refine DEv_cut _ _ _ _ _ _ _ _ _ _ _ _ (by kernel_rfl) ?_ | change postOf _ _ _ _ _); simp [-List.reduceReplicate, Nat.add_one_le_iff, -getElem?_pos, -getElem?_neg, iC, k2, kt, h])
   | ((first | (with_reducible refine awp_ret ?_; try simp only [thenA, inBlockA, noGotoA]) | ((with_reducible refine Den.at_ (f := 27) ?_); refine (p1 _).det ?_) | ((with_reducible refine drawn_at (f := 27) ?_); refine ⟨_, _, p1 _, fun _ => rfl, ?_⟩)); try simp [-List.reduceReplicate, Nat.add_one_le_iff, -getElem?_pos, -getElem?_neg, iC, k2, kt, h])
   | (with_reducible refine awp_if_b rfl (fun hc => ?_) (fun hc => ?_) <;> (try simp [-getElem?_pos, -getElem?_neg] at hc) <;> (try (exfalso; omega)))
   | (with_reducible refine And.intro (by omega) ?_)
   | fail)
  all_goals trace_state
end Go.Av

set_option exponentiation.threshold 1000
set_option linter.unusedVariables false
set_option linter.unusedSimpArgs false
set_option maxRecDepth 100000
set_option maxHeartbeats 4000000
namespace Go.Av
open Go Go.Proofs Go.Proofs.YtocccighdkdljaaGreatDoor Go.RowKit
attribute [local simp] List.getElem?_cons_zero List.getElem?_cons_succ
attribute [local simp] Tryz.underlying9 Tryz.underlying3 Tryz.underlying4 Tryz.underlying32 Tryz.underlying24 Tryz.underlying31 Tryz.underlying43 Tryz.underlying36 Tryz.underlying40 Tryz.underlying44 Tryz.underlying29 Tryz.underlying27 Tryz.underlying22 Tryz.underlying50 Tryz.underlying53
theorem zero_ne_root : decide (Z32.1 ≠ rootNil) = true := by decide +kernel
theorem checkC_zero : checkC zCF = 7 := by
  have h : anchC zCF = true := by
    unfold anchC
    have : decide (zCF.g.a.1 ≠ rootNil) = true := zero_ne_root
    rw [this]
    simp
  unfold checkC
  rw [if_pos h]
theorem cfC_zero : zeroT Tryz.prog 29 = some (up (cfC zCF)) := by kernel_rfl
theorem watchLenNil_den : DenV Tryz.prog 17 [nilSess] (.c (iC 0)) := by
  refine Den.frame rfl rfl ?_
  unfold nilSess
  refine den_of Tryz.func17 rfl rfl (by simp [Tryz.ntmps17]) (fun X hX hO => ?_)
  rw [Tryz.ntmps17] at hX
  simp only [Tryz.results17]
  repeat' (first 
   | (with_reducible first | refine awp_scope ?_ | refine awp_seq ?_ | refine awp_block ?_)
   | ((with_reducible first | refine awp_label ?_ | refine awp_skip ?_ | refine awp_exit ?_); try simp only [thenA, inBlockA, noGotoA, if_true, Nat.reduceEqDiff, if_false, ↓reduceIte])
   | ((with_reducible first | refine awp_reg 10 hX [0, 2, 4] ?_ | change postOf _ _ _ _ _); simp [-List.reduceReplicate, Nat.add_one_le_iff, -getElem?_pos, -getElem?_neg, iC])
   | ((first | (with_reducible refine awp_ret ?_; try simp only [thenA, inBlockA, noGotoA])); try simp [-List.reduceReplicate, Nat.add_one_le_iff, -getElem?_pos, -getElem?_neg, iC])
   | (with_reducible refine awp_if_b rfl (fun hc => ?_) (fun hc => ?_) <;> (try simp [-getElem?_pos, -getElem?_neg] at hc) <;> (try (exfalso; omega)))
   | (with_reducible refine And.intro (by omega) ?_)
   | fail)
theorem watchMovesNil_den : DenV Tryz.prog 18 [nilSess] (.c (iC 0)) := by
  refine Den.frame rfl rfl ?_
  unfold nilSess
  refine den_of Tryz.func18 rfl rfl (by simp [Tryz.ntmps18]) (fun X hX hO => ?_)
  rw [Tryz.ntmps18] at hX
  simp only [Tryz.results18]
  repeat' (first 
   | (with_reducible first | refine awp_scope ?_ | refine awp_seq ?_ | refine awp_block ?_)
   | ((with_reducible first | refine awp_label ?_ | refine awp_skip ?_ | refine awp_exit ?_); try simp only [thenA, inBlockA, noGotoA, if_true, Nat.reduceEqDiff, if_false, ↓reduceIte])
   | ((with_reducible first | refine awp_reg 9 hX [0, 2, 4] ?_ | change postOf _ _ _ _ _); simp [-List.reduceReplicate, Nat.add_one_le_iff, -getElem?_pos, -getElem?_neg, iC])
   | ((first | (with_reducible refine awp_ret ?_; try simp only [thenA, inBlockA, noGotoA])); try simp [-List.reduceReplicate, Nat.add_one_le_iff, -getElem?_pos, -getElem?_neg, iC])
   | (with_reducible refine awp_if_b rfl (fun hc => ?_) (fun hc => ?_) <;> (try simp [-getElem?_pos, -getElem?_neg] at hc) <;> (try (exfalso; omega)))
   | (with_reducible refine And.intro (by omega) ?_)
   | fail)
theorem watchSubmitNil_den (b : ByteArray) : DenV Tryz.prog 13 [nilSess, .c (sC b)] (.tup [.c (bC false), .c (iC 6)]) := by
  refine Den.frame rfl rfl ?_
  unfold nilSess
  refine den_of Tryz.func13 rfl rfl (by simp [Tryz.ntmps13]) (fun X hX hO => ?_)
  rw [Tryz.ntmps13] at hX
  simp only [Tryz.results13]
  repeat' (first 
   | (with_reducible first | refine awp_scope ?_ | refine awp_seq ?_ | refine awp_block ?_)
   | ((with_reducible first | refine awp_label ?_ | refine awp_skip ?_ | refine awp_exit ?_); try simp only [thenA, inBlockA, noGotoA, if_true, Nat.reduceEqDiff, if_false, ↓reduceIte])
   | ((with_reducible first | refine awp_reg 23 hX [0, 1, 4, 5, 6, 7, 9] ?_ | change postOf _ _ _ _ _); simp [-List.reduceReplicate, Nat.add_one_le_iff, -getElem?_pos, -getElem?_neg, iC, bC])
   | ((first | (with_reducible refine awp_ret ?_; try simp only [thenA, inBlockA, noGotoA])); try simp [-List.reduceReplicate, Nat.add_one_le_iff, -getElem?_pos, -getElem?_neg, iC, bC])
   | (with_reducible refine awp_if_b rfl (fun hc => ?_) (fun hc => ?_) <;> (try simp [-getElem?_pos, -getElem?_neg] at hc) <;> (try (exfalso; omega)))
   | (with_reducible refine And.intro (by omega) ?_)
   | fail)
theorem watchTrackNil_den (b : ByteArray) : DenV Tryz.prog 14 [nilSess, .c (sC b)] (.tup [.c (iC 0), .c (iC 6)]) := by
  refine Den.frame rfl rfl ?_
  unfold nilSess
  refine den_of Tryz.func14 rfl rfl (by simp [Tryz.ntmps14]) (fun X hX hO => ?_)
  rw [Tryz.ntmps14] at hX
  simp only [Tryz.results14]
  repeat' (first 
   | (with_reducible first | refine awp_scope ?_ | refine awp_seq ?_ | refine awp_block ?_)
   | ((with_reducible first | refine awp_label ?_ | refine awp_skip ?_ | refine awp_exit ?_); try simp only [thenA, inBlockA, noGotoA, if_true, Nat.reduceEqDiff, if_false, ↓reduceIte])
   | ((with_reducible first | refine awp_reg 37 hX [0, 1, 4, 5, 6, 7, 10] ?_ | refine DEv_cut _ _ _ _ _ _ _ _ _ _ _ _ (by kernel_rfl) ?_ | change postOf _ _ _ _ _); simp [-List.reduceReplicate, Nat.add_one_le_iff, -getElem?_pos, -getElem?_neg, iC, bC])
   | ((first | (with_reducible refine awp_ret ?_; try simp only [thenA, inBlockA, noGotoA])); try simp [-List.reduceReplicate, Nat.add_one_le_iff, -getElem?_pos, -getElem?_neg, iC, bC])
   | (with_reducible refine awp_if_b rfl (fun hc => ?_) (fun hc => ?_) <;> (try simp [-getElem?_pos, -getElem?_neg] at hc) <;> (try (exfalso; omega)))
   | (with_reducible refine And.intro (by omega) ?_)
   | fail)
theorem watchNewNil_den : DenV Tryz.prog 41 [nilSess] nilSess := by
  refine Den.frame rfl rfl ?_
  unfold nilSess
  refine den_of Tryz.func41 rfl rfl (by simp [Tryz.ntmps41]) (fun X hX hO => ?_)
  rw [Tryz.ntmps41] at hX
  simp only [Tryz.results41]
  repeat' (first 
   | (with_reducible first | refine awp_scope ?_ | refine awp_seq ?_ | refine awp_block ?_)
   | ((with_reducible first | refine awp_label ?_ | refine awp_skip ?_ | refine awp_exit ?_); try simp only [thenA, inBlockA, noGotoA, if_true, Nat.reduceEqDiff, if_false, ↓reduceIte])
   | ((with_reducible first | refine awp_reg 12 hX [0, 2, 3, 5] ?_ | change postOf _ _ _ _ _); simp [-List.reduceReplicate, Nat.add_one_le_iff, -getElem?_pos, -getElem?_neg, iC, bC])
   | ((first | (with_reducible refine awp_ret ?_; try simp only [thenA, inBlockA, noGotoA])); try simp [-List.reduceReplicate, Nat.add_one_le_iff, -getElem?_pos, -getElem?_neg, iC, bC])
   | (with_reducible refine awp_if_b rfl (fun hc => ?_) (fun hc => ?_) <;> (try simp [-getElem?_pos, -getElem?_neg] at hc) <;> (try (exfalso; omega)))
   | (with_reducible refine And.intro (by omega) ?_)
   | fail)
theorem numbersNil_den (f : M) (hf : ltB 0 f = true) : DenV Tryz.prog 38 [nilSess, f] nilM := by
  refine Den.frame (by simp [ltBs, ltB, hf, nilSess]) rfl ?_
  unfold nilSess nilM
  refine den_of Tryz.func38 rfl rfl (by simp [Tryz.ntmps38]) (fun X hX hO => ?_)
  rw [Tryz.ntmps38] at hX
  simp only [Tryz.results38]
  repeat' (first 
   | (with_reducible first | refine awp_scope ?_ | refine awp_seq ?_ | refine awp_block ?_)
   | ((with_reducible first | refine awp_label ?_ | refine awp_skip ?_ | refine awp_exit ?_ | refine hother _ _ rfl ?_); try simp only [thenA, inBlockA, noGotoA, if_true, Nat.reduceEqDiff, if_false, ↓reduceIte])
   | ((with_reducible first | refine awp_reg 34 hX [0, 1, 4, 5, 6, 17, 28] ?_ | change postOf _ _ _ _ _); simp [-List.reduceReplicate, Nat.add_one_le_iff, -getElem?_pos, -getElem?_neg, iC])
   | ((first | (with_reducible refine awp_ret ?_; try simp only [thenA, inBlockA, noGotoA])); try simp [-List.reduceReplicate, Nat.add_one_le_iff, -getElem?_pos, -getElem?_neg, iC])
   | (with_reducible refine awp_if_b rfl (fun hc => ?_) (fun hc => ?_) <;> (try simp [-getElem?_pos, -getElem?_neg] at hc) <;> (try (exfalso; omega)))
   | ((with_reducible first | refine GuardK_b (fun hc => ?_) (fun hc => ?_)) <;> (try simp only [Bool.not_eq_true', Bool.not_eq_false', decide_eq_true_eq, decide_eq_false_iff_not] at hc) <;> (first | (exfalso; omega) | skip) <;> simp [-List.reduceReplicate, Nat.add_one_le_iff, -getElem?_pos, -getElem?_neg, iC, hc])
   | (with_reducible refine And.intro (by omega) ?_)
   | fail)
  refine awp_forU [0, 1, 5, 6] (fun k (_u : Unit) => [(5, .c (.v (.slice none 0 0))), (6, .c (iC 0))]) (fun k (_u : Unit) => []) (fun k (_u : Unit) => True) (0) (()) (by first | trivial | (simp; done) | omega | (intros; simp at *; done)) (by simp [-List.reduceReplicate, keep, iC]) (by simp [-List.reduceReplicate, iC]) ?_
  rintro k _u Q1 hi hH next hother
  conv => arg 5; arg 1; simp only [List.cons_append, List.nil_append, keep, get, Nat.reduceEqDiff, if_true, if_false, ↓reduceIte]
  repeat' (first 
   | (with_reducible first | refine awp_scope ?_ | refine awp_seq ?_ | refine awp_block ?_)
   | ((with_reducible first | refine awp_label ?_ | refine awp_skip ?_ | refine awp_exit ?_ | refine hother _ _ rfl ?_); try simp only [thenA, inBlockA, noGotoA, if_true, Nat.reduceEqDiff, if_false, ↓reduceIte])
   | ((with_reducible first | refine awp_reg 34 hX [0, 1, 4, 5, 6, 17, 28] ?_ | change postOf _ _ _ _ _); simp [-List.reduceReplicate, Nat.add_one_le_iff, -getElem?_pos, -getElem?_neg, iC])
   | ((first | (with_reducible refine awp_ret ?_; try simp only [thenA, inBlockA, noGotoA])); try simp [-List.reduceReplicate, Nat.add_one_le_iff, -getElem?_pos, -getElem?_neg, iC])
   | (with_reducible refine awp_if_b rfl (fun hc => ?_) (fun hc => ?_) <;> (try simp [-getElem?_pos, -getElem?_neg] at hc) <;> (try (exfalso; omega)))
   | ((with_reducible first | refine GuardK_b (fun hc => ?_) (fun hc => ?_)) <;> (try simp only [Bool.not_eq_true', Bool.not_eq_false', decide_eq_true_eq, decide_eq_false_iff_not] at hc) <;> (first | (exfalso; omega) | skip) <;> simp [-List.reduceReplicate, Nat.add_one_le_iff, -getElem?_pos, -getElem?_neg, iC, hc])
   | (with_reducible refine And.intro (by omega) ?_)
   | fail)
theorem holdsNil_den : DenV Tryz.prog 15 [nilSess] nilM := by
  refine Den.frame rfl rfl ?_
  have p1 := numbersNil_den (.c (.v (.func (.func 39) #[] #[]))) rfl
  unfold nilSess nilM at *
  refine den_of Tryz.func15 rfl rfl (by simp [Tryz.ntmps15]) (fun X hX hO => ?_)
  rw [Tryz.ntmps15] at hX
  simp only [Tryz.results15]
  repeat' (first 
   | (with_reducible first | refine awp_scope ?_ | refine awp_seq ?_ | refine awp_block ?_)
   | ((with_reducible first | refine awp_label ?_ | refine awp_skip ?_ | refine awp_exit ?_); try simp only [thenA, inBlockA, noGotoA, if_true, Nat.reduceEqDiff, if_false, ↓reduceIte])
   | ((with_reducible first | refine awp_reg 5 hX [0, 2] ?_ | change postOf _ _ _ _ _); simp [-List.reduceReplicate, Nat.add_one_le_iff, -getElem?_pos, -getElem?_neg, iC])
   | ((first | (with_reducible refine awp_ret ?_; try simp only [thenA, inBlockA, noGotoA]) | ((with_reducible refine Den.at_ (f := 38) ?_); refine (p1 _).det ?_)); try simp [-List.reduceReplicate, Nat.add_one_le_iff, -getElem?_pos, -getElem?_neg, iC])
   | (with_reducible refine awp_if_b rfl (fun hc => ?_) (fun hc => ?_) <;> (try simp [-getElem?_pos, -getElem?_neg] at hc) <;> (try (exfalso; omega)))
   | (with_reducible refine And.intro (by omega) ?_)
   | fail)
theorem lostNil_den : DenV Tryz.prog 16 [nilSess] nilM := by
  refine Den.frame rfl rfl ?_
  have p1 := numbersNil_den (.c (.v (.func (.func 40) #[] #[]))) rfl
  unfold nilSess nilM at *
  refine den_of Tryz.func16 rfl rfl (by simp [Tryz.ntmps16]) (fun X hX hO => ?_)
  rw [Tryz.ntmps16] at hX
  simp only [Tryz.results16]
  repeat' (first 
   | (with_reducible first | refine awp_scope ?_ | refine awp_seq ?_ | refine awp_block ?_)
   | ((with_reducible first | refine awp_label ?_ | refine awp_skip ?_ | refine awp_exit ?_); try simp only [thenA, inBlockA, noGotoA, if_true, Nat.reduceEqDiff, if_false, ↓reduceIte])
   | ((with_reducible first | refine awp_reg 5 hX [0, 2] ?_ | change postOf _ _ _ _ _); simp [-List.reduceReplicate, Nat.add_one_le_iff, -getElem?_pos, -getElem?_neg, iC])
   | ((first | (with_reducible refine awp_ret ?_; try simp only [thenA, inBlockA, noGotoA]) | ((with_reducible refine Den.at_ (f := 38) ?_); refine (p1 _).det ?_)); try simp [-List.reduceReplicate, Nat.add_one_le_iff, -getElem?_pos, -getElem?_neg, iC])
   | (with_reducible refine awp_if_b rfl (fun hc => ?_) (fun hc => ?_) <;> (try simp [-getElem?_pos, -getElem?_neg] at hc) <;> (try (exfalso; omega)))
   | (with_reducible refine And.intro (by omega) ?_)
   | fail)
end Go.Av

set_option exponentiation.threshold 1000
set_option linter.unusedVariables false
set_option linter.unusedSimpArgs false
set_option maxRecDepth 100000
set_option maxHeartbeats 4000000
namespace Go.Av
open Go Go.Proofs Go.Proofs.YtocccighdkdljaaGreatDoor Go.RowKit
attribute [local simp] List.getElem?_cons_zero List.getElem?_cons_succ
end Go.Av

set_option exponentiation.threshold 1000
set_option linter.unusedVariables false
set_option linter.unusedSimpArgs false
set_option maxRecDepth 100000
set_option maxHeartbeats 4000000
namespace Go.Av
open Go Go.Proofs Go.Proofs.YtocccighdkdljaaGreatDoor Go.RowKit
attribute [local simp] List.getElem?_cons_zero List.getElem?_cons_succ
theorem HD.ext' (a b : HD) : a = b ↔ a.v = b.v ∧ a.a.1 = b.a.1 ∧ a.b.1 = b.b.1 ∧ a.n = b.n := by
  obtain ⟨v, ⟨x, hx⟩, ⟨y, hy⟩, n⟩ := a
  obtain ⟨v', ⟨x', hx'⟩, ⟨y', hy'⟩, n'⟩ := b
  simp
instance : DecidableEq HD := fun a b => decidable_of_iff _ (HD.ext' a b).symm
end Go.Av

set_option exponentiation.threshold 1000
set_option linter.unusedVariables false
set_option linter.unusedSimpArgs false
set_option maxRecDepth 100000
set_option maxHeartbeats 4000000
namespace Go.Av
open Go Go.Proofs Go.Proofs.YtocccighdkdljaaGreatDoor Go.RowKit
attribute [local simp] List.getElem?_cons_zero List.getElem?_cons_succ
theorem reads_app {W : World} {es1 es2 : List C} {cs : List Value} (k : Nat) (h1 : Reads W es1 (cs.take k)) (h2 : Reads W es2 (cs.drop k)) (hk : es1.length = k) : Reads W (es1 ++ es2) cs := by
  have hl : k ≤ cs.length := by
    have := h1.1
    rw [hk, List.length_take] at this
    omega
  refine ⟨?_, fun j c y hc hy => ?_⟩
  · have := h2.1
    rw [List.length_drop] at this
    rw [List.length_append]
    omega
  · by_cases hj : j < k
    · rw [List.getElem?_append_left (by omega)] at hc
      exact h1.2 j c y hc (by rw [List.getElem?_take_of_lt hj]; exact hy)
    · rw [List.getElem?_append_right (by omega), hk] at hc
      exact h2.2 (j - k) c y hc (by rw [List.getElem?_drop, show k + (j - k) = j by omega]; exact hy)
theorem opens_u32 {P : Program} {t : TypeId} (ht : P.underlying t = some (.int .u32)) : Opens P t (fun n : Nat => [u32v n]) (fun n => n < 4294967296) :=
  (opens_int ht).conv fun n hn => by
    have h : 0 ≤ n ∧ n ≤ 4294967295 := by simpa [Lit.wf, IntKind.min, IntKind.max, IntKind.signed, IntKind.bits] using hn
    exact ⟨n.toNat, by omega, by simp only [u32v]; rw [show ((n.toNat : Nat) : Int) = n by omega]⟩
theorem opens_header {P : Program} {t tv th tb tn : TypeId} {fs : Array Field} (ht : P.underlying t = some (.struct fs)) (hv : P.underlying tv = some (.int .u32)) (hh : P.underlying th = some (.array 32 tb)) (hb : P.underlying tb = some (.int .u8)) (hn : P.underlying tn = some (.int .u64))
    (c1 : P.cellsOf tv = 1) (c2 : P.cellsOf th = 32) (c3 : P.cellsOf tb = 1) (c4 : P.cellsOf tn = 1) (c5 : P.cellsOf t = 66)
    (f0 : (fs[0]?).map (fun f => (f.offset, f.type)) = some (0, tv)) (f1 : (fs[1]?).map (fun f => (f.offset, f.type)) = some (1, th)) (f2 : (fs[2]?).map (fun f => (f.offset, f.type)) = some (33, th)) (f3 : (fs[3]?).map (fun f => (f.offset, f.type)) = some (65, tn)) (hs : fs.size = 4) :
    Opens P t hdC HDok := fun H e0 W fuel cs x hx => by
  obtain ⟨xs, m, _, _, hlen, hxl, hel⟩ := DataW.trod_struct ht hx
  have key : ∀ (i off : Nat) (q : TypeId), (fs[i]?).map (fun f => (f.offset, f.type)) = some (off, q) → ∃ y, DataW.trod e0 P W 0 (fun _ => true) true m q ((cs.drop off).take (P.cellsOf q)) = some y := by
    intro i off q h
    rw [Option.map_eq_some_iff] at h
    obtain ⟨f, hf, he⟩ := h
    simp only [Prod.mk.injEq] at he
    obtain ⟨rfl, rfl⟩ := he
    have hlt := (Array.getElem?_eq_some_iff.1 hf).1
    rw [hel i f hf]
    exact ⟨xs[i], List.getElem?_eq_getElem (by omega)⟩
  obtain ⟨y0, h0⟩ := key 0 _ _ f0
  obtain ⟨y1, h1⟩ := key 1 _ _ f1
  obtain ⟨y2, h2⟩ := key 2 _ _ f2
  obtain ⟨y3, h3⟩ := key 3 _ _ f3
  obtain ⟨v, hv1, r0⟩ := opens_u32 hv H e0 W _ _ _ h0
  obtain ⟨a, _, r1⟩ := opens_hash hh hb c3 c2 H e0 W _ _ _ h1
  obtain ⟨b, _, r2⟩ := opens_hash hh hb c3 c2 H e0 W _ _ _ h2
  obtain ⟨n, hn1, r3⟩ := opens_u64 hn H e0 W _ _ _ h3
  rw [c1, List.drop_zero] at r0
  rw [c2] at r1 r2
  rw [c4] at r3
  rw [c5] at hlen
  rw [List.take_of_length_le (by rw [List.length_drop]; omega)] at r3
  refine ⟨⟨v, a, b, n⟩, ⟨hv1, hn1⟩, ?_⟩
  refine reads_app 1 r0 (reads_app 32 r1 (reads_app 32 ?_ ?_ ?_) ?_) rfl
  · rw [List.drop_drop]; exact r2
  · rw [List.drop_drop, List.drop_drop]; exact r3
  · rw [List.length_map]; exact b.2
  · rw [List.length_map]; exact a.2
end Go.Av

set_option exponentiation.threshold 1000
set_option linter.unusedVariables false
set_option linter.unusedSimpArgs false
set_option maxRecDepth 100000
set_option maxHeartbeats 4000000
namespace Go.Av
open Go Go.Proofs Go.Proofs.YtocccighdkdljaaGreatDoor Go.RowKit
attribute [local simp] List.getElem?_cons_zero List.getElem?_cons_succ
def cfA (p : HD × H32 × Int × Int × Int × Int × Int × Int) : CF := ⟨p.1, p.2.1, p.2.2.1, p.2.2.2.1, p.2.2.2.2.1, p.2.2.2.2.2.1, p.2.2.2.2.2.2.1, p.2.2.2.2.2.2.2⟩
theorem opens_cfg {P : Program} {t ti th tb tH tv tn : TypeId} {fs fh : Array Field} (ht : P.underlying t = some (.struct fs)) (hi : P.underlying ti = some (.int .i64)) (hh : P.underlying th = some (.array 32 tb)) (hb : P.underlying tb = some (.int .u8))
    (hH : P.underlying tH = some (.struct fh)) (hv' : P.underlying tv = some (.int .u32)) (hn : P.underlying tn = some (.int .u64))
    (s0 : (fs[0]?).map (fun f => (f.offset, f.type)) = some (0, tH)) (s1 : (fs[1]?).map (fun f => (f.offset, f.type)) = some (66, th)) (s2 : (fs[2]?).map (fun f => (f.offset, f.type)) = some (98, ti)) (s3 : (fs[3]?).map (fun f => (f.offset, f.type)) = some (99, ti)) (s4 : (fs[4]?).map (fun f => (f.offset, f.type)) = some (100, ti)) (s5 : (fs[5]?).map (fun f => (f.offset, f.type)) = some (101, ti)) (s6 : (fs[6]?).map (fun f => (f.offset, f.type)) = some (102, ti)) (s7 : (fs[7]?).map (fun f => (f.offset, f.type)) = some (103, ti))
    (k0 : P.cellsOf t = 104) (k1 : P.cellsOf tH = 66) (c1 : P.cellsOf ti = 1) (c3 : P.cellsOf th = 32) (c4 : P.cellsOf tb = 1)
    (d1 : P.cellsOf tv = 1) (d4 : P.cellsOf tn = 1) (g0 : (fh[0]?).map (fun f => (f.offset, f.type)) = some (0, tv)) (g1 : (fh[1]?).map (fun f => (f.offset, f.type)) = some (1, th)) (g2 : (fh[2]?).map (fun f => (f.offset, f.type)) = some (33, th)) (g3 : (fh[3]?).map (fun f => (f.offset, f.type)) = some (65, tn)) (gs : fh.size = 4) :
    Opens P t cfC (fun c => HDok c.g) :=
  (((seg_field 0 0 66 ht s0 k1 (opens_header hH hv' hh hb hn d1 c3 c4 d4 k1 g0 g1 g2 g3 gs)).app ((seg_field 1 66 32 ht s1 c3 (opens_hash hh hb c4 c3)).app ((seg_field 2 98 1 ht s2 c1 (opens_int hi)).app ((seg_field 3 99 1 ht s3 c1 (opens_int hi)).app ((seg_field 4 100 1 ht s4 c1 (opens_int hi)).app ((seg_field 5 101 1 ht s5 c1 (opens_int hi)).app ((seg_field 6 102 1 ht s6 c1 (opens_int hi)).app (seg_field 7 103 1 ht s7 c1 (opens_int hi)) (fun _ => rfl)) (fun _ => rfl)) (fun _ => rfl)) (fun _ => rfl)) (fun _ => rfl)) (fun h => by simp [h.2])) hdC_len).opens ht k0).conv fun p hp => ⟨cfA p, hp.1, rfl⟩
end Go.Av

set_option exponentiation.threshold 1000
set_option linter.unusedVariables false
set_option linter.unusedSimpArgs false
set_option maxRecDepth 100000
set_option maxHeartbeats 4000000
namespace Go.Av
open Go Go.Proofs Go.Proofs.YtocccighdkdljaaGreatDoor Go.RowKit
attribute [local simp] List.getElem?_cons_zero List.getElem?_cons_succ
attribute [local simp] Tryz.underlying9 Tryz.underlying3 Tryz.underlying4 Tryz.underlying32 Tryz.underlying24 Tryz.underlying31 Tryz.underlying43 Tryz.underlying36 Tryz.underlying40 Tryz.underlying44 Tryz.underlying29 Tryz.underlying27 Tryz.underlying22 Tryz.underlying50 Tryz.underlying53
theorem awake54_den : DenV Tryz.prog 6 [] (.c (bC true)) := by
  refine Den.frame rfl rfl ?_
  have p1 := decideNil_den
  have p2 := submitNil_den ⟨#[]⟩
  have p3 := check_den zCF ⟨by decide, by decide⟩
  rw [checkC_zero] at p3
  have z0 : zeroT Tryz.prog 36 = some (up (bstC zBS)) := by kernel_rfl
  have z1 := cfC_zero
  have k1 := bstC_len zBS
  have k2 := bstC_take zBS
  have k3 := cfC_len zCF
  unfold nilSess bstM cfM at *
  generalize bstC zBS = zb at *
  generalize cfC zCF = zc at *
  have c1 := new_den 1 [⟨36, 1, false, 0, up zb, none⟩]
  have c2 := add_new 2 1 1 [] ⟨#[97]⟩ ([⟨36, 1, false, 0, up zb, none⟩] ++ [oddOb (.map []), storeO 1 (.mm 1)]) (by decide) rfl rfl (by simp) (by simp)
  have e1 : entS [] = [] := rfl
  simp only [List.length_cons, List.length_nil, List.cons_append, List.nil_append, Nat.zero_add] at c1 c2
  generalize oddOb (.map []) = o1 at *
  generalize storeO 1 (.mm 1) = o2 at *
  generalize oddOb (.map (entS [⟨#[97]⟩])) = o3 at *
  refine den_of Tryz.func6 rfl rfl (by simp [Tryz.ntmps6]) (fun X hX hO => ?_)
  rw [Tryz.ntmps6] at hX
  simp only [Tryz.results6]
  repeat' (first 
   | (with_reducible first | refine awp_scope ?_ | refine awp_seq ?_ | refine awp_block ?_)
   | ((with_reducible first | refine awp_label ?_ | refine awp_skip ?_ | refine awp_exit ?_); try simp only [thenA, inBlockA, noGotoA, if_true, Nat.reduceEqDiff, if_false, ↓reduceIte])
   | ((with_reducible first | refine awp_reg 39 hX [0, 1, 3, 5, 6, 7] ?_ | change postOf _ _ _ _ _); simp [-List.reduceReplicate, Nat.add_one_le_iff, -getElem?_pos, -getElem?_neg, iC, bC, sC, z0, z1, -Tab.zero36, -Tab.zero29, k1, k2, k3])
   | ((first | (with_reducible refine awp_ret ?_; try simp only [thenA, inBlockA, noGotoA]) | ((with_reducible refine Den.at_ (f := 8) ?_); refine (p1 _).det ?_) | ((with_reducible refine Den.at_ (f := 7) ?_); refine (p2 _).det ?_) | ((with_reducible refine Den.at_ (f := 25) ?_); refine (c1).det ?_) | ((with_reducible refine Den.at_ (f := 26) ?_); refine (c2).det ?_) | ((with_reducible refine Den.at_ (f := 27) ?_); refine (p3 _).det ?_)); try simp [-List.reduceReplicate, Nat.add_one_le_iff, -getElem?_pos, -getElem?_neg, iC, bC, sC, z0, z1, -Tab.zero36, -Tab.zero29, k1, k2, k3])
   | (with_reducible refine awp_if_b rfl (fun hc => ?_) (fun hc => ?_) <;> (try simp [-getElem?_pos, -getElem?_neg] at hc) <;> (try (exfalso; omega)))
   | ((with_reducible first | refine GuardK_b (fun hc => ?_) (fun hc => ?_)) <;> (try simp only [Bool.not_eq_true', Bool.not_eq_false', decide_eq_true_eq, decide_eq_false_iff_not] at hc) <;> (first | (exfalso; omega) | skip) <;> simp [-List.reduceReplicate, Nat.add_one_le_iff, -getElem?_pos, -getElem?_neg, iC, bC, sC, z0, z1, -Tab.zero36, -Tab.zero29, k1, k2, k3, hc])
   | (with_reducible refine And.intro (by omega) ?_)
   | fail)
  all_goals trace_state
theorem awake55_den : DenV Tryz.prog 19 [] (.c (bC true)) := by
  refine Den.frame rfl rfl ?_
  have p1 := watchTrackNil_den ⟨#[]⟩
  have p2 := watchLenNil_den
  have p3 := watchNewNil_den
  unfold nilSess at *
  have c1 := new_den 1 []
  have c2 := add_new 1 0 1 [] ⟨#[97]⟩ ([oddOb (.map []), storeO 1 (.mm 0)]) (by decide) rfl rfl (by simp) (by simp)
  simp only [List.length_cons, List.length_nil, List.cons_append, List.nil_append, Nat.zero_add] at c1 c2
  generalize oddOb (.map []) = o1 at *
  generalize storeO 1 (.mm 0) = o2 at *
  generalize oddOb (.map (entS [⟨#[97]⟩])) = o3 at *
  refine den_of Tryz.func19 rfl rfl (by simp [Tryz.ntmps19]) (fun X hX hO => ?_)
  rw [Tryz.ntmps19] at hX
  simp only [Tryz.results19]
  repeat' (first 
   | (with_reducible first | refine awp_scope ?_ | refine awp_seq ?_ | refine awp_block ?_)
   | ((with_reducible first | refine awp_label ?_ | refine awp_skip ?_ | refine awp_exit ?_); try simp only [thenA, inBlockA, noGotoA, if_true, Nat.reduceEqDiff, if_false, ↓reduceIte])
   | ((with_reducible first | refine awp_reg 32 hX [0, 1, 3, 4, 5] ?_ | change postOf _ _ _ _ _); simp [-List.reduceReplicate, Nat.add_one_le_iff, -getElem?_pos, -getElem?_neg, iC, bC, sC])
   | ((first | (with_reducible refine awp_ret ?_; try simp only [thenA, inBlockA, noGotoA]) | ((with_reducible refine Den.at_ (f := 14) ?_); refine (p1 _).det ?_) | ((with_reducible refine Den.at_ (f := 17) ?_); refine (p2 _).det ?_) | ((with_reducible refine Den.at_ (f := 41) ?_); refine (p3 _).det ?_) | ((with_reducible refine Den.at_ (f := 25) ?_); refine (c1).det ?_) | ((with_reducible refine Den.at_ (f := 26) ?_); refine (c2).det ?_)); try simp [-List.reduceReplicate, Nat.add_one_le_iff, -getElem?_pos, -getElem?_neg, iC, bC, sC])
   | (with_reducible refine awp_if_b rfl (fun hc => ?_) (fun hc => ?_) <;> (try simp [-getElem?_pos, -getElem?_neg] at hc) <;> (try (exfalso; omega)))
   | ((with_reducible first | refine GuardK_b (fun hc => ?_) (fun hc => ?_)) <;> (try simp only [Bool.not_eq_true', Bool.not_eq_false', decide_eq_true_eq, decide_eq_false_iff_not] at hc) <;> (first | (exfalso; omega) | skip) <;> simp [-List.reduceReplicate, Nat.add_one_le_iff, -getElem?_pos, -getElem?_neg, iC, bC, sC, hc])
   | (with_reducible refine And.intro (by omega) ?_)
   | fail)
  all_goals trace_state
theorem watchNone_den (b : ByteArray) (ob : List Ob) : Den Tryz.prog 4 [.c (sC b)] ob (fun r ob' => r = .c (bC true) ∧ ob' = ob) := by
  refine Den.frame rfl rfl ?_ ob
  have p1 := watchSubmitNil_den b
  have p2 := watchTrackNil_den b
  have p3 := holdsNil_den
  have p4 := lostNil_den
  have p5 := watchLenNil_den
  have p6 := watchMovesNil_den
  have p7 := awake55_den
  unfold nilSess nilM at *
  refine den_of Tryz.func4 rfl rfl (by simp [Tryz.ntmps4]) (fun X hX hO => ?_)
  rw [Tryz.ntmps4] at hX
  simp only [Tryz.results4]
  repeat' (first 
   | (with_reducible first | refine awp_scope ?_ | refine awp_seq ?_ | refine awp_block ?_)
   | ((with_reducible first | refine awp_label ?_ | refine awp_skip ?_ | refine awp_exit ?_); try simp only [thenA, inBlockA, noGotoA, if_true, Nat.reduceEqDiff, if_false, ↓reduceIte])
   | ((with_reducible first | refine awp_reg 59 hX [0, 2, 3, 4, 5, 6, 7] ?_ | change postOf _ _ _ _ _); simp [-List.reduceReplicate, Nat.add_one_le_iff, -getElem?_pos, -getElem?_neg, iC, bC, sC])
   | ((first | (with_reducible refine awp_ret ?_; try simp only [thenA, inBlockA, noGotoA]) | ((with_reducible refine Den.at_ (f := 13) ?_); refine (p1 _).det ?_) | ((with_reducible refine Den.at_ (f := 14) ?_); refine (p2 _).det ?_) | ((with_reducible refine Den.at_ (f := 15) ?_); refine (p3 _).det ?_) | ((with_reducible refine Den.at_ (f := 16) ?_); refine (p4 _).det ?_) | ((with_reducible refine Den.at_ (f := 17) ?_); refine (p5 _).det ?_) | ((with_reducible refine Den.at_ (f := 18) ?_); refine (p6 _).det ?_) | ((with_reducible refine Den.at_ (f := 19) ?_); refine (p7 _).det ?_)); try simp [-List.reduceReplicate, Nat.add_one_le_iff, -getElem?_pos, -getElem?_neg, iC, bC, sC])
   | (with_reducible refine awp_if_b rfl (fun hc => ?_) (fun hc => ?_) <;> (try simp [-getElem?_pos, -getElem?_neg] at hc) <;> (try (exfalso; omega)))
   | ((with_reducible first | refine GuardK_b (fun hc => ?_) (fun hc => ?_)) <;> (try simp only [Bool.not_eq_true', Bool.not_eq_false', decide_eq_true_eq, decide_eq_false_iff_not] at hc) <;> (first | (exfalso; omega) | skip) <;> simp [-List.reduceReplicate, Nat.add_one_le_iff, -getElem?_pos, -getElem?_neg, iC, bC, sC, hc])
   | (with_reducible refine And.intro (by omega) ?_)
   | fail)
  all_goals trace_state
theorem sessionNone_den (c : CF) (hok : HDok c.g) (b : ByteArray) (ob : List Ob) : Den Tryz.prog 3 [cfM c, .c (sC b)] ob (fun r ob' => r = .c (bC true) ∧ ob' = ob) := by
  refine Den.frame (by simp [ltBs, ltB, cfM, ltBs_up]) rfl ?_ ob
  have p1 := submitNil_den b
  have p2 := decideNil_den
  have p3 := queryNil_den b
  have p4 := verdNil_den
  have p5 := lenNil_den
  have p7 := awake54_den
  have p6 := newBad_den { c with g := { c.g with v := 1 } } ⟨by show 1 < 4294967296; omega, hok.2⟩ (by simp [checkC, anchC])
  have hset : (cfC c).set 0 (u32v 1) = cfC { c with g := { c.g with v := 1 } } := rfl
  have z0 : zeroT Tryz.prog 36 = some (up (bstC zBS)) := by kernel_rfl
  have z1 : zeroT Tryz.prog 40 = some (up (fndC zFN)) := by kernel_rfl
  have k1 := bstC_len zBS
  have k2 := bstC_take zBS
  have k3 := fndC_len zFN
  have k4 := fndC_take zFN
  have k5 := cfC_len c
  have k6 := cfC_len { c with g := { c.g with v := 1 } }
  have k7 : (cfC { c with g := { c.g with v := 1 } }).take 104 = cfC { c with g := { c.g with v := 1 } } := List.take_of_length_le (by rw [k6]; exact Nat.le_refl _)
  have e1 : eqM [2, 0, 0, 0, 0, 0, 0, 0, 0, 0, 0, 0, 0, 0, 0, 0, 0, 0, 0, 0, 0, 0, 0, 0, 0, 0, 0, 0, 0, 0, 0, 0, 0, 0, 0] (up (bstC zBS)) (up (bstC zBS)) = some true := by kernel_rfl
  have e2 : eqM [0, 0, 0, 0, 0, 0, 0, 0, 0, 0, 0, 0, 0, 0, 0, 0, 0, 0, 0, 0, 0, 0, 0, 0, 0, 0, 0, 0, 0, 0, 0, 0, 0, 0, 2] (up (fndC zFN)) (up (fndC zFN)) = some true := by kernel_rfl
  unfold u32v at hset
  unfold nilSess bstM fndM cfM nilM at *
  generalize cfC { c with g := { c.g with v := 1 } } = c2 at *
  generalize bstC zBS = zb at *
  generalize fndC zFN = zf at *
  generalize cfC c = cc at *
  have hset2 : (up cc).set 0 (M.c (C.v (.int .u32 1))) = up c2 := by rw [← hset]; simp [up]
  refine den_of Tryz.func3 rfl rfl (by simp [Tryz.ntmps3]) (fun X hX hO => ?_)
  rw [Tryz.ntmps3] at hX
  simp only [Tryz.results3]
  by_cases hb : (8000 : Int) < b.size
  · repeat' (first 
     | (with_reducible first | refine awp_scope ?_ | refine awp_seq ?_ | refine awp_block ?_)
     | ((with_reducible first | refine awp_label ?_ | refine awp_skip ?_ | refine awp_exit ?_); try simp only [thenA, inBlockA, noGotoA, if_true, Nat.reduceEqDiff, if_false, ↓reduceIte])
     | ((with_reducible first | refine awp_reg 89 hX [1, 2, 4, 5, 6, 7, 8, 9, 10, 11, 12, 13, 16] ?_ | change postOf _ _ _ _ _); simp [-List.reduceReplicate, Nat.add_one_le_iff, -getElem?_pos, -getElem?_neg, iC, bC, sC, hb, k5])
     | ((first | (with_reducible refine awp_ret ?_; try simp only [thenA, inBlockA, noGotoA]) | ((with_reducible refine Den.at_ (f := 6) ?_); refine (p7 _).det ?_)); try simp [-List.reduceReplicate, Nat.add_one_le_iff, -getElem?_pos, -getElem?_neg, iC, bC, sC, hb, k5])
     | (with_reducible refine awp_if_b rfl (fun hc => ?_) (fun hc => ?_) <;> (try simp [-getElem?_pos, -getElem?_neg] at hc) <;> (try (exfalso; omega)))
     | ((with_reducible first | refine GuardK_b (fun hc => ?_) (fun hc => ?_)) <;> (try simp only [Bool.not_eq_true', Bool.not_eq_false', decide_eq_true_eq, decide_eq_false_iff_not] at hc) <;> (first | (exfalso; omega) | skip) <;> simp [-List.reduceReplicate, Nat.add_one_le_iff, -getElem?_pos, -getElem?_neg, iC, bC, sC, hb, k5, hc])
     | (with_reducible refine And.intro (by omega) ?_)
     | fail)
    all_goals trace_state
  · repeat' (first 
     | (with_reducible first | refine awp_scope ?_ | refine awp_seq ?_ | refine awp_block ?_)
     | ((with_reducible first | refine awp_label ?_ | refine awp_skip ?_ | refine awp_exit ?_); try simp only [thenA, inBlockA, noGotoA, if_true, Nat.reduceEqDiff, if_false, ↓reduceIte])
     | ((with_reducible first | refine awp_reg 89 hX [1, 2, 4, 5, 6, 7, 8, 9, 10, 11, 12, 13, 16] ?_ | change postOf _ _ _ _ _); simp [-List.reduceReplicate, Nat.add_one_le_iff, -getElem?_pos, -getElem?_neg, iC, bC, sC, hb, z0, z1, -Tab.zero36, -Tab.zero40, k1, k2, k3, k4, k5, k6, k7, hset2, e1, e2])
     | ((first | (with_reducible refine awp_ret ?_; try simp only [thenA, inBlockA, noGotoA]) | ((with_reducible refine Den.at_ (f := 7) ?_); refine (p1 _).det ?_) | ((with_reducible refine Den.at_ (f := 8) ?_); refine (p2 _).det ?_) | ((with_reducible refine Den.at_ (f := 9) ?_); refine (p3 _).det ?_) | ((with_reducible refine Den.at_ (f := 10) ?_); refine (p4 _).det ?_) | ((with_reducible refine Den.at_ (f := 11) ?_); refine (p5 _).det ?_) | ((with_reducible refine Den.at_ (f := 12) ?_); refine (p6 _).det ?_) | ((with_reducible refine Den.at_ (f := 6) ?_); refine (p7 _).det ?_)); try simp [-List.reduceReplicate, Nat.add_one_le_iff, -getElem?_pos, -getElem?_neg, iC, bC, sC, hb, z0, z1, -Tab.zero36, -Tab.zero40, k1, k2, k3, k4, k5, k6, k7, hset2, e1, e2])
     | (with_reducible refine awp_if_b rfl (fun hc => ?_) (fun hc => ?_) <;> (try simp [-getElem?_pos, -getElem?_neg] at hc) <;> (try (exfalso; omega)))
     | ((with_reducible first | refine GuardK_b (fun hc => ?_) (fun hc => ?_)) <;> (try simp only [Bool.not_eq_true', Bool.not_eq_false', decide_eq_true_eq, decide_eq_false_iff_not] at hc) <;> (first | (exfalso; omega) | skip) <;> simp [-List.reduceReplicate, Nat.add_one_le_iff, -getElem?_pos, -getElem?_neg, iC, bC, sC, hb, z0, z1, -Tab.zero36, -Tab.zero40, k1, k2, k3, k4, k5, k6, k7, hset2, e1, e2, hc])
     | (with_reducible refine And.intro (by omega) ?_)
     | fail)
    all_goals trace_state
end Go.Av
