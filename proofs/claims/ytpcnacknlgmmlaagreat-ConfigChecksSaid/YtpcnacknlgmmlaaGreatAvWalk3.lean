/- 17 texts of the program logic over abstract values, joined: each is proved without any condition beyond its own words. -/
import Derived.Test.YtpcnacknlgmmlaaGreatAvWalk2
import Derived.Test.YtpcnacknlgmmlaaGreatAvWalk1
import Derived.Test.YtpcnacknlgmmlaaGreatAvEngine3
import Derived.Test.YtpcnacknlgmmlaaGreatAvEngine4
set_option exponentiation.threshold 1000
set_option linter.unusedVariables false
set_option linter.unusedSimpArgs false
set_option maxRecDepth 100000
set_option maxHeartbeats 4000000
namespace Go.Av
open Go Go.Proofs Go.Proofs.YtpcnacknlgmmlaaGreat Go.RowKit
attribute [local simp] List.getElem?_cons_zero List.getElem?_cons_succ
/-! ### the document's wide numbers: bits; levels -/
def bitsC (x : Nat) : C := .sl ((bitsL x).map bC) 256 false
set_option maxHeartbeats 4000000 in
theorem cmp04_den (x y : Nat) (hx : x < 2 ^ 256) (hy : y < 2 ^ 256) : DenV Tryz.prog 91 [.c (bitsC x), .c (bitsC y)] (.c (iC (cmpN x y))) := by
  refine Den.frame rfl rfl ?_
  have gx : ∀ j, j < 256 → ((bitsL x).map bC)[j]? = some (bC (x.testBit j)) := fun j h => by rw [List.getElem?_map, bitsL_get x j h]; rfl
  have gy : ∀ j, j < 256 → ((bitsL y).map bC)[j]? = some (bC (y.testBit j)) := fun j h => by rw [List.getElem?_map, bitsL_get y j h]; rfl
  have lx : ((bitsL x).map bC).length = 256 := by simp [bitsL_len]
  have ly : ((bitsL y).map bC).length = 256 := by simp [bitsL_len]
  have hs := fun i => @bit_lt x y i
  have hs2 := fun i => @bit_lt y x i
  have he := fun i => @bit_eq x y i
  have h0 : x / 2 ^ (256 - 0) = y / 2 ^ (256 - 0) := by rw [Nat.div_eq_of_lt hx, Nat.div_eq_of_lt hy]
  have hend : x / 2 ^ 0 = y / 2 ^ 0 → x = y := fun h => by simpa using h
  unfold bitsC
  generalize (bitsL x).map bC = cx at *
  generalize (bitsL y).map bC = cy at *
  generalize x.testBit = fx at *
  generalize y.testBit = fy at *
  obtain ⟨Ef, hE⟩ : ∃ Ef : Nat → Prop, Ef = fun j => x / 2 ^ j = y / 2 ^ j := ⟨_, rfl⟩
  have hs' : ∀ i, Ef (i + 1) → fx i = false → fy i = true → x < y := by rw [hE]; exact hs
  have hs2' : ∀ i, Ef (i + 1) → fy i = false → fx i = true → y < x := by rw [hE]; exact fun i h => hs2 i h.symm
  have he' : ∀ i, Ef (i + 1) → fx i = fy i → Ef i := by rw [hE]; exact he
  have h0' : Ef (256 - 0) := by rw [hE]; exact h0
  have hend' : Ef 0 → x = y := by rw [hE]; exact hend
  clear hs hs2 he h0 hend hE hx hy
  have w255 : IntKind.i64.wrap 255 = 255 := rfl
  refine den_of Tryz.func91 rfl rfl (by simp [Tryz.ntmps91]) (fun X hX hO => ?_)
  rw [Tryz.ntmps91] at hX
  simp only [Tryz.results91]
  repeat' (first 
   | (with_reducible first | refine awp_scope ?_ | refine awp_seq ?_ | refine awp_block ?_)
   | ((with_reducible first | refine awp_label ?_ | refine awp_skip ?_ | refine awp_exit ?_ | refine hother _ _ rfl ?_); try simp only [thenA, inBlockA, noGotoA, if_true, Nat.reduceEqDiff, if_false, ↓reduceIte])
   | ((with_reducible first | refine awp_reg 26 hX [0, 1, 4, 5, 10, 21, 25] ?_ | refine awp_drw 26 hX [0, 1, 4, 5, 10, 21, 25] Tab.mixed (by kernel_rfl) ?_ | refine DEv_cut _ _ _ _ _ _ _ _ _ _ _ _ (by kernel_rfl) ?_ | change postOf _ _ _ _ _); simp [-List.reduceReplicate, Nat.add_one_le_iff, -getElem?_pos, -getElem?_neg, iC, w255])
   | ((first | (with_reducible refine awp_ret ?_; try simp only [thenA, inBlockA, noGotoA])); try simp [-List.reduceReplicate, Nat.add_one_le_iff, -getElem?_pos, -getElem?_neg, iC, w255])
   | (with_reducible refine awp_if_b rfl (fun hc => ?_) (fun hc => ?_) <;> (try simp [-getElem?_pos, -getElem?_neg] at hc) <;> (try (exfalso; omega)))
   | (with_reducible refine And.intro (by omega) ?_)
   | fail)
  refine awp_forU [0, 1, 5] (fun j (_u : Unit) => [(5, .c (iC (255 - (j : Int))))]) (fun j (_u : Unit) => []) (fun j (_u : Unit) => Ef (256 - j)) (256) (()) (h0') (by simp [-List.reduceReplicate, keep, iC]) (by simp [-List.reduceReplicate, iC]) ?_
  rintro j _u Q1 hi hH next hother
  conv => arg 5; arg 1; simp only [List.cons_append, List.nil_append, keep, get, Nat.reduceEqDiff, if_true, if_false, ↓reduceIte]
  by_cases hlt : j < 256
  · obtain ⟨i, hi'⟩ : ∃ i, 256 - j = i + 1 := ⟨255 - j, by omega⟩
    have e1 : (255 : Int) - (j : Int) = (i : Int) := by omega
    have e2 : 256 - (j + 1) = i := by omega
    have e3 : (255 : Int) - ((j : Int) + 1) = (i : Int) - 1 := by omega
    have hin : i < 256 := by omega
    have wi := wrap_in ((i : Int) - 1) (by omega)
    have hin2 : (i : Int) < 256 := by omega
    rw [hi'] at hH
    rw [e2] at next
    have g1 := gx i hin
    have g2 := gy i hin
    have s1 := hs' i hH
    have s2 := hs2' i hH
    have s3 := he' i hH
    cases c1 : fx i <;> cases c2 : fy i
    · rw [c1] at g1
      rw [c2] at g2
      have nx := s3 (by rw [c1, c2])
      repeat' (first 
       | (with_reducible first | refine awp_scope ?_ | refine awp_seq ?_ | refine awp_block ?_)
       | ((with_reducible first | refine awp_label ?_ | refine awp_skip ?_ | refine awp_exit ?_ | refine hother _ _ rfl ?_); try simp only [thenA, inBlockA, noGotoA, if_true, Nat.reduceEqDiff, if_false, ↓reduceIte])
       | ((with_reducible first | refine awp_reg 26 hX [0, 1, 4, 5, 10, 21, 25] ?_ | refine awp_drw 26 hX [0, 1, 4, 5, 10, 21, 25] Tab.mixed (by kernel_rfl) ?_ | refine DEv_cut _ _ _ _ _ _ _ _ _ _ _ _ (by kernel_rfl) ?_ | change postOf _ _ _ _ _); simp [-List.reduceReplicate, Nat.add_one_le_iff, -getElem?_pos, -getElem?_neg, iC, bC, e1, hin, hin2, g1, g2, wi])
       | ((first | (with_reducible refine awp_ret ?_; try simp only [thenA, inBlockA, noGotoA])); try simp [-List.reduceReplicate, Nat.add_one_le_iff, -getElem?_pos, -getElem?_neg, iC, bC, e1, hin, hin2, g1, g2, wi])
       | (with_reducible refine awp_if_b rfl (fun hc => ?_) (fun hc => ?_) <;> (try simp [-getElem?_pos, -getElem?_neg] at hc) <;> (try (exfalso; omega)))
       | (with_reducible refine And.intro (by omega) ?_)
       | fail)
      refine next _ _ (()) (by omega) (by first | trivial | omega | assumption) (by simp [-List.reduceReplicate, keep, iC, e3]) (by simp [-List.reduceReplicate, iC, e3])
    · rw [c1] at g1
      rw [c2] at g2
      have hcm := (cmpN_lt (s1 c1 c2)).symm
      repeat' (first 
       | (with_reducible first | refine awp_scope ?_ | refine awp_seq ?_ | refine awp_block ?_)
       | ((with_reducible first | refine awp_label ?_ | refine awp_skip ?_ | refine awp_exit ?_ | refine hother _ _ rfl ?_); try simp only [thenA, inBlockA, noGotoA, if_true, Nat.reduceEqDiff, if_false, ↓reduceIte])
       | ((with_reducible first | refine awp_reg 26 hX [0, 1, 4, 5, 10, 21, 25] ?_ | refine awp_drw 26 hX [0, 1, 4, 5, 10, 21, 25] Tab.mixed (by kernel_rfl) ?_ | refine DEv_cut _ _ _ _ _ _ _ _ _ _ _ _ (by kernel_rfl) ?_ | change postOf _ _ _ _ _); simp [-List.reduceReplicate, Nat.add_one_le_iff, -getElem?_pos, -getElem?_neg, iC, bC, e1, hin, hin2, g1, g2, wi])
       | ((first | (with_reducible refine awp_ret ?_; try simp only [thenA, inBlockA, noGotoA])); try simp [-List.reduceReplicate, Nat.add_one_le_iff, -getElem?_pos, -getElem?_neg, iC, bC, e1, hin, hin2, g1, g2, wi])
       | (with_reducible refine awp_if_b rfl (fun hc => ?_) (fun hc => ?_) <;> (try simp [-getElem?_pos, -getElem?_neg] at hc) <;> (try (exfalso; omega)))
       | (with_reducible refine And.intro (by omega) ?_)
       | fail)
      exact hcm
    · rw [c1] at g1
      rw [c2] at g2
      have hcm := (cmpN_gt (s2 c2 c1)).symm
      repeat' (first 
       | (with_reducible first | refine awp_scope ?_ | refine awp_seq ?_ | refine awp_block ?_)
       | ((with_reducible first | refine awp_label ?_ | refine awp_skip ?_ | refine awp_exit ?_ | refine hother _ _ rfl ?_); try simp only [thenA, inBlockA, noGotoA, if_true, Nat.reduceEqDiff, if_false, ↓reduceIte])
       | ((with_reducible first | refine awp_reg 26 hX [0, 1, 4, 5, 10, 21, 25] ?_ | refine awp_drw 26 hX [0, 1, 4, 5, 10, 21, 25] Tab.mixed (by kernel_rfl) ?_ | refine DEv_cut _ _ _ _ _ _ _ _ _ _ _ _ (by kernel_rfl) ?_ | change postOf _ _ _ _ _); simp [-List.reduceReplicate, Nat.add_one_le_iff, -getElem?_pos, -getElem?_neg, iC, bC, e1, hin, hin2, g1, g2, wi])
       | ((first | (with_reducible refine awp_ret ?_; try simp only [thenA, inBlockA, noGotoA])); try simp [-List.reduceReplicate, Nat.add_one_le_iff, -getElem?_pos, -getElem?_neg, iC, bC, e1, hin, hin2, g1, g2, wi])
       | (with_reducible refine awp_if_b rfl (fun hc => ?_) (fun hc => ?_) <;> (try simp [-getElem?_pos, -getElem?_neg] at hc) <;> (try (exfalso; omega)))
       | (with_reducible refine And.intro (by omega) ?_)
       | fail)
      exact hcm
    · rw [c1] at g1
      rw [c2] at g2
      have nx := s3 (by rw [c1, c2])
      repeat' (first 
       | (with_reducible first | refine awp_scope ?_ | refine awp_seq ?_ | refine awp_block ?_)
       | ((with_reducible first | refine awp_label ?_ | refine awp_skip ?_ | refine awp_exit ?_ | refine hother _ _ rfl ?_); try simp only [thenA, inBlockA, noGotoA, if_true, Nat.reduceEqDiff, if_false, ↓reduceIte])
       | ((with_reducible first | refine awp_reg 26 hX [0, 1, 4, 5, 10, 21, 25] ?_ | refine awp_drw 26 hX [0, 1, 4, 5, 10, 21, 25] Tab.mixed (by kernel_rfl) ?_ | refine DEv_cut _ _ _ _ _ _ _ _ _ _ _ _ (by kernel_rfl) ?_ | change postOf _ _ _ _ _); simp [-List.reduceReplicate, Nat.add_one_le_iff, -getElem?_pos, -getElem?_neg, iC, bC, e1, hin, hin2, g1, g2, wi])
       | ((first | (with_reducible refine awp_ret ?_; try simp only [thenA, inBlockA, noGotoA])); try simp [-List.reduceReplicate, Nat.add_one_le_iff, -getElem?_pos, -getElem?_neg, iC, bC, e1, hin, hin2, g1, g2, wi])
       | (with_reducible refine awp_if_b rfl (fun hc => ?_) (fun hc => ?_) <;> (try simp [-getElem?_pos, -getElem?_neg] at hc) <;> (try (exfalso; omega)))
       | (with_reducible refine And.intro (by omega) ?_)
       | fail)
      refine next _ _ (()) (by omega) (by first | trivial | omega | assumption) (by simp [-List.reduceReplicate, keep, iC, e3]) (by simp [-List.reduceReplicate, iC, e3])
  · have hj : j = 256 := by omega
    subst hj
    have hxy := hend' hH
    subst hxy
    have hcm := (cmpN_eq x).symm
    repeat' (first 
     | (with_reducible first | refine awp_scope ?_ | refine awp_seq ?_ | refine awp_block ?_)
     | ((with_reducible first | refine awp_label ?_ | refine awp_skip ?_ | refine awp_exit ?_ | refine hother _ _ rfl ?_); try simp only [thenA, inBlockA, noGotoA, if_true, Nat.reduceEqDiff, if_false, ↓reduceIte])
     | ((with_reducible first | refine awp_reg 26 hX [0, 1, 4, 5, 10, 21, 25] ?_ | refine awp_drw 26 hX [0, 1, 4, 5, 10, 21, 25] Tab.mixed (by kernel_rfl) ?_ | refine DEv_cut _ _ _ _ _ _ _ _ _ _ _ _ (by kernel_rfl) ?_ | change postOf _ _ _ _ _); simp [-List.reduceReplicate, Nat.add_one_le_iff, -getElem?_pos, -getElem?_neg, iC, bC])
     | ((first | (with_reducible refine awp_ret ?_; try simp only [thenA, inBlockA, noGotoA])); try simp [-List.reduceReplicate, Nat.add_one_le_iff, -getElem?_pos, -getElem?_neg, iC, bC])
     | (with_reducible refine awp_if_b rfl (fun hc => ?_) (fun hc => ?_) <;> (try simp [-getElem?_pos, -getElem?_neg] at hc) <;> (try (exfalso; omega)))
     | (with_reducible refine And.intro (by omega) ?_)
     | fail)
    exact hcm
set_option maxHeartbeats 4000000 in
theorem of04_den (l : List UInt8) (hl : l.length = 32) : DenV Tryz.prog 92 [hashM l] (.c (bitsC (hv l))) := by
  refine Den.frame (by simp [ltBs, ltB, lt_hash]) rfl ?_
  have hb := fun i k b => hv_bit l i k b
  have lB : ((bitsL (hv l)).map bC).length = 256 := by simp [bitsL_len]
  have gB : ∀ j, j < 256 → ((bitsL (hv l)).map bC)[j]? = some (bC ((hv l).testBit j)) := fun j h => by rw [List.getElem?_map, bitsL_get _ j h]; rfl
  obtain ⟨D, D0, DN, DL, DS⟩ : ∃ D : Nat → List C, D 0 = [] ∧ D 256 = (bitsL (hv l)).map bC ∧ (∀ i, i ≤ 256 → (D i).length = i) ∧ ∀ i, i < 256 → D i ++ [bC ((hv l).testBit i)] = D (i + 1) :=
    ⟨fun i => ((bitsL (hv l)).map bC).take i, by simp, by simp only; rw [List.take_of_length_le (by omega)], fun i h => by simp only [List.length_take]; omega, fun i h => by simp only; rw [List.take_add_one, gB i h]; rfl⟩
  unfold bitsC
  rw [← DN]
  clear DN lB gB
  generalize (hv l).testBit = fx at *
  have lb : (l.map bC8).length = 32 := by simp [hl]
  have gl : ∀ (i : Nat) b, l[i]? = some b → (l.map bC8)[i]? = some (bC8 b) := fun i b h => by rw [List.getElem?_map, h]; rfl
  unfold hashM
  refine den_of Tryz.func92 rfl rfl (by simp [Tryz.ntmps92]) (fun X hX hO => ?_)
  rw [Tryz.ntmps92] at hX
  simp only [Tryz.results92]
  repeat' (first 
   | (with_reducible first | refine awp_scope ?_ | refine awp_seq ?_ | refine awp_block ?_)
   | ((with_reducible first | refine awp_label ?_ | refine awp_skip ?_ | refine awp_exit ?_ | refine hother _ _ rfl ?_ | refine hother2 _ _ rfl ?_); try simp only [thenA, inBlockA, noGotoA, if_true, Nat.reduceEqDiff, if_false, ↓reduceIte])
   | ((with_reducible first | refine awp_reg 28 hX [1, 2, 3, 4, 5, 6, 8, 16] ?_ | change postOf _ _ _ _ _); simp [-List.reduceReplicate, Nat.add_one_le_iff, -getElem?_pos, -getElem?_neg, iC, lb])
   | ((first | (with_reducible refine awp_ret ?_; try simp only [thenA, inBlockA, noGotoA])); try simp [-List.reduceReplicate, Nat.add_one_le_iff, -getElem?_pos, -getElem?_neg, iC, lb])
   | (with_reducible refine awp_if_b rfl (fun hc => ?_) (fun hc => ?_) <;> (try simp [-getElem?_pos, -getElem?_neg] at hc) <;> (try (exfalso; omega)))
   | (with_reducible refine And.intro (by omega) ?_)
   | fail)
  refine awp_nil 3 4 1 (by simp) ?_
  simp
  refine awp_forU [1, 3, 4] (fun j (g : Nat × Bool) => [(3, .ms 1 g.1 0 (8 * j)), (4, .c (iC (31 - (j : Int))))]) (fun j (g : Nat × Bool) => [⟨24, 1, false, 0, up (l.map bC8), none⟩, ⟨4, 1, g.2, g.1, up (D (8 * j)), none⟩]) (fun j (g : Nat × Bool) => True) (32) ((0, true)) (by first | trivial | (simp; done) | omega | (intros; simp at *; done)) (by simp [-List.reduceReplicate, keep, iC, D0]) (by simp [-List.reduceReplicate, iC, D0]) ?_
  rintro j g Q1 hi hH next hother
  conv => arg 5; arg 1; simp only [List.cons_append, List.nil_append, keep, get, Nat.reduceEqDiff, if_true, if_false, ↓reduceIte]
  by_cases hlt : j < 32
  · obtain ⟨i, hi'⟩ : ∃ i, 31 - j = i := ⟨_, rfl⟩
    have e1 : (31 : Int) - (j : Int) = (i : Int) := by omega
    have e3 : (31 : Int) - ((j : Int) + 1) = (i : Int) - 1 := by omega
    have hi32 : i < 32 := by omega
    have hi2 : (i : Int) < 32 := by omega
    have wi := wrap_in ((i : Int) - 1) (by omega)
    obtain ⟨b, hbi⟩ : ∃ b, l[i]? = some b := ⟨_, List.getElem?_eq_getElem (by omega)⟩
    have hgb := gl i b hbi
    have hbits := fun k (hk : k < 8) => hb i k b hbi hl hi32 hk
    have hj31 : 31 - i = j := by omega
    rw [hj31] at hbits
    have hb256 := b.toNat_lt
    have w1 := wrap_in (b.toNat : Int) (by omega)
    obtain ⟨XK, hX0, hX1, hXl⟩ : ∃ XK : Nat → Nat, XK 0 = b.toNat ∧ (∀ k, XK (k + 1) = XK k / 2) ∧ ∀ k, XK k = b.toNat / 2 ^ k :=
      ⟨fun k => b.toNat / 2 ^ k, by simp, fun k => by simp only; rw [Nat.div_div_eq_div_mul, Nat.pow_succ], fun k => rfl⟩
    have hXb : ∀ k, XK k < 256 := fun k => by rw [hXl]; exact Nat.lt_of_le_of_lt (Nat.div_le_self _ _) hb256
    simp only [← hXl] at hbits
    unfold bC8 at hgb
    repeat' (first 
     | (with_reducible first | refine awp_scope ?_ | refine awp_seq ?_ | refine awp_block ?_)
     | ((with_reducible first | refine awp_label ?_ | refine awp_skip ?_ | refine awp_exit ?_ | refine hother _ _ rfl ?_ | refine hother2 _ _ rfl ?_); try simp only [thenA, inBlockA, noGotoA, if_true, Nat.reduceEqDiff, if_false, ↓reduceIte])
     | ((with_reducible first | refine awp_reg 28 hX [1, 2, 3, 4, 5, 6, 8, 16] ?_ | change postOf _ _ _ _ _); simp [-List.reduceReplicate, Nat.add_one_le_iff, -getElem?_pos, -getElem?_neg, iC, bC, bC8, e1, hi32, hi2, hgb, hbi, lb, w1])
     | ((first | (with_reducible refine awp_ret ?_; try simp only [thenA, inBlockA, noGotoA])); try simp [-List.reduceReplicate, Nat.add_one_le_iff, -getElem?_pos, -getElem?_neg, iC, bC, bC8, e1, hi32, hi2, hgb, hbi, lb, w1])
     | (with_reducible refine awp_if_b rfl (fun hc => ?_) (fun hc => ?_) <;> (try simp [-getElem?_pos, -getElem?_neg] at hc) <;> (try (exfalso; omega)))
     | (with_reducible refine And.intro (by omega) ?_)
     | fail)
    have next1 := next; have hother2 := hother; clear next hother
    rw [← hX0]
    refine awp_forU [1, 3, 4, 5, 6] (fun k (q : Nat × Bool) => [(3, .ms 1 q.1 0 (8 * j + k)), (5, .c (iC (XK k))), (6, .c (iC k))]) (fun k (q : Nat × Bool) => [⟨24, 1, false, 0, up (l.map bC8), none⟩, ⟨4, 1, q.2, q.1, up (D (8 * j + k)), none⟩]) (fun k (q : Nat × Bool) => True) (8) (g) (by first | trivial | (simp; done) | omega | (intros; simp at *; done)) (by simp [-List.reduceReplicate, keep, iC]) (by simp [-List.reduceReplicate, iC]) ?_
    rintro k q Q1 hi hH next hother
    conv => arg 5; arg 1; simp only [List.cons_append, List.nil_append, keep, get, Nat.reduceEqDiff, if_true, if_false, ↓reduceIte]
    have hwk := wrap_in ((k : Int) + 1) (by omega)
    by_cases hk8 : k < 8
    · have hk2 : (k : Int) < 8 := by omega
      have ds := DS (8 * j + k) (by omega)
      have dl := DL (8 * j + k) (by omega)
      rw [hbits k hk8] at ds
      have hxk := hXb k
      have s1 := hX1 k
      have m1 : ((XK k : Int)).tmod 2 = ((XK k % 2 : Nat) : Int) := rfl
      have m2 : ((XK k : Int)).tdiv 2 = ((XK (k + 1) : Nat) : Int) := by rw [s1]; rfl
      have w2 := wrap_in ((XK (k + 1) : Nat) : Int) (by have := hXb (k + 1); omega)
      have m3 : ∀ z : Nat, (decide (((z : Int)) = 1)) = decide (z = 1) := fun z => decide_eq_decide.2 (by omega)
      generalize XK k % 2 = zz at *
      unfold bC at ds
      repeat' (first 
       | (with_reducible first | refine awp_scope ?_ | refine awp_seq ?_ | refine awp_block ?_)
       | ((with_reducible first | refine awp_label ?_ | refine awp_skip ?_ | refine awp_exit ?_ | refine hother _ _ rfl ?_ | refine hother2 _ _ rfl ?_); try simp only [thenA, inBlockA, noGotoA, if_true, Nat.reduceEqDiff, if_false, ↓reduceIte])
       | ((with_reducible first | refine awp_reg 28 hX [1, 2, 3, 4, 5, 6, 8, 16] ?_ | change postOf _ _ _ _ _); simp [-List.reduceReplicate, Nat.add_one_le_iff, -getElem?_pos, -getElem?_neg, iC, bC, hk2, m1, m2, m3, w2, dl, ds, roomB, hwk])
       | ((first | (with_reducible refine awp_ret ?_; try simp only [thenA, inBlockA, noGotoA])); try simp [-List.reduceReplicate, Nat.add_one_le_iff, -getElem?_pos, -getElem?_neg, iC, bC, hk2, m1, m2, m3, w2, dl, ds, roomB, hwk])
       | (with_reducible refine awp_if_b rfl (fun hc => ?_) (fun hc => ?_) <;> (try simp [-getElem?_pos, -getElem?_neg] at hc) <;> (try (exfalso; omega)))
       | (with_reducible refine And.intro (by omega) ?_)
       | fail)
      refine next _ _ ((q.1 + 1, false)) (by omega) (by first | trivial | omega | assumption) (by simp [-List.reduceReplicate, keep, iC, ds, Nat.add_assoc]) (by simp [-List.reduceReplicate, iC, ds, Nat.add_assoc])
    · have hk3 : k = 8 := by omega
      subst hk3
      have e8 : 8 * (j + 1) = 8 * j + 8 := by omega
      repeat' (first 
       | (with_reducible first | refine awp_scope ?_ | refine awp_seq ?_ | refine awp_block ?_)
       | ((with_reducible first | refine awp_label ?_ | refine awp_skip ?_ | refine awp_exit ?_ | refine hother _ _ rfl ?_ | refine hother2 _ _ rfl ?_); try simp only [thenA, inBlockA, noGotoA, if_true, Nat.reduceEqDiff, if_false, ↓reduceIte])
       | ((with_reducible first | refine awp_reg 28 hX [1, 2, 3, 4, 5, 6, 8, 16] ?_ | change postOf _ _ _ _ _); simp [-List.reduceReplicate, Nat.add_one_le_iff, -getElem?_pos, -getElem?_neg, iC, bC, e1, wi])
       | ((first | (with_reducible refine awp_ret ?_; try simp only [thenA, inBlockA, noGotoA])); try simp [-List.reduceReplicate, Nat.add_one_le_iff, -getElem?_pos, -getElem?_neg, iC, bC, e1, wi])
       | (with_reducible refine awp_if_b rfl (fun hc => ?_) (fun hc => ?_) <;> (try simp [-getElem?_pos, -getElem?_neg] at hc) <;> (try (exfalso; omega)))
       | (with_reducible refine And.intro (by omega) ?_)
       | fail)
      refine next1 _ _ (q) (by omega) (by first | trivial | omega | assumption) (by simp [-List.reduceReplicate, keep, iC, e8, e3]) (by simp [-List.reduceReplicate, iC, e8, e3])
  · have hj : j = 32 := by omega
    subst hj
    have hexit := hother; clear hother next
    repeat' (first 
     | (with_reducible first | refine awp_scope ?_ | refine awp_seq ?_ | refine awp_block ?_)
     | ((with_reducible first | refine awp_label ?_ | refine awp_skip ?_ | refine awp_exit ?_ | refine hother _ _ rfl ?_ | refine hother2 _ _ rfl ?_); try simp only [thenA, inBlockA, noGotoA, if_true, Nat.reduceEqDiff, if_false, ↓reduceIte])
     | ((with_reducible first | refine awp_reg 28 hX [1, 2, 3, 4, 5, 6, 8, 16] ?_ | change postOf _ _ _ _ _); simp [-List.reduceReplicate, Nat.add_one_le_iff, -getElem?_pos, -getElem?_neg, iC, bC])
     | ((first | (with_reducible refine awp_ret ?_; try simp only [thenA, inBlockA, noGotoA])); try simp [-List.reduceReplicate, Nat.add_one_le_iff, -getElem?_pos, -getElem?_neg, iC, bC])
     | (with_reducible refine awp_if_b rfl (fun hc => ?_) (fun hc => ?_) <;> (try simp [-getElem?_pos, -getElem?_neg] at hc) <;> (try (exfalso; omega)))
     | (with_reducible refine And.intro (by omega) ?_)
     | fail)
    refine hexit _ _ rfl ?_
    simp only [inBlockA, thenA, ↓reduceIte]
    refine awp_frz2 3 [] [⟨24, 1, false, 0, up (l.map bC8), none⟩] [] _ (D 256) _ hO rfl rfl rfl (by simp [ltB]) (by simp [ltB, up]) ?_
    repeat' (first 
     | (with_reducible first | refine awp_scope ?_ | refine awp_seq ?_ | refine awp_block ?_)
     | ((with_reducible first | refine awp_label ?_ | refine awp_skip ?_ | refine awp_exit ?_ | refine hother _ _ rfl ?_ | refine hother2 _ _ rfl ?_); try simp only [thenA, inBlockA, noGotoA, if_true, Nat.reduceEqDiff, if_false, ↓reduceIte])
     | ((with_reducible first | refine awp_reg 28 hX [1, 2, 3, 4, 5, 6, 8, 16] ?_ | change postOf _ _ _ _ _); simp [-List.reduceReplicate, Nat.add_one_le_iff, -getElem?_pos, -getElem?_neg, iC, bC])
     | ((first | (with_reducible refine awp_ret ?_; try simp only [thenA, inBlockA, noGotoA])); try simp [-List.reduceReplicate, Nat.add_one_le_iff, -getElem?_pos, -getElem?_neg, iC, bC])
     | (with_reducible refine awp_if_b rfl (fun hc => ?_) (fun hc => ?_) <;> (try simp [-getElem?_pos, -getElem?_neg] at hc) <;> (try (exfalso; omega)))
     | (with_reducible refine And.intro (by omega) ?_)
     | fail)
end Go.Av

set_option exponentiation.threshold 1000
set_option linter.unusedVariables false
set_option linter.unusedSimpArgs false
set_option maxRecDepth 100000
set_option maxHeartbeats 4000000
namespace Go.Av
open Go Go.Proofs Go.Proofs.YtpcnacknlgmmlaaGreat Go.RowKit
attribute [local simp] List.getElem?_cons_zero List.getElem?_cons_succ
/-! ### configurations: Check -/
attribute [local simp] Tryz.underlying9 Tryz.underlying3 Tryz.underlying4 Tryz.underlying30 Tryz.underlying24 Tryz.underlying27 Tryz.underlying29
structure CF where
  g : HD
  t : H32
  m : Int
  k : Int
  a : Int
  b : Int
  mb : Int
  mp : Int
def cfC (c : CF) : List C := hdC c.g ++ (c.t.1.map bC8 ++ [iC c.m, iC c.k, iC c.a, iC c.b, iC c.mb, iC c.mp])
def cfM (c : CF) : M := .agg (up (cfC c))
def okN (x t : Nat) : Bool := decide (cmpN x t ≤ 0)
theorem hv_lt256 (l : List UInt8) (hl : l.length = 32) : hv l < 2 ^ 256 := by
  exact Nat.lt_of_lt_of_le (hv_lt 32 l hl) (by decide)
theorem ok_den (x t : List UInt8) (hx : x.length = 32) (ht : t.length = 32) : DenV Tryz.prog 45 [hashM x, hashM t] (.c (bC (okN (hv x) (hv t)))) := by
  refine Den.frame (by simp [hashM, ltB, ltBs]) rfl ?_
  have p1 := wof_den x hx
  have p2 := wof_den t ht
  have p3 := wcmp_den (hv x) (hv t) (by simpa using hv_lt256 x hx) (by simpa using hv_lt256 t ht)
  have hk : okN (hv x) (hv t) = decide (cmpN (hv x) (hv t) ≤ 0) := rfl
  have h1 := hash_take x hx
  have h2 := hash_take t ht
  generalize okN (hv x) (hv t) = r at *
  generalize cmpN (hv x) (hv t) = k at *
  generalize wideM (hv x) = a at *
  generalize wideM (hv t) = b at *
  refine den_of Tryz.func45 rfl rfl (by simp [Tryz.ntmps45]) (fun X hX hO => ?_)
  rw [Tryz.ntmps45] at hX
  simp only [Tryz.results45]
  repeat' (first 
   | (with_reducible first | refine awp_scope ?_ | refine awp_seq ?_ | refine awp_block ?_)
   | ((with_reducible first | refine awp_label ?_ | refine awp_skip ?_ | refine awp_exit ?_); try simp only [thenA, inBlockA, noGotoA, if_true, Nat.reduceEqDiff, if_false, ↓reduceIte])
   | ((with_reducible first | refine awp_reg 11 hX [2, 3, 4] ?_ | refine awp_drw 11 hX [2, 3, 4] Tab.mixed (by kernel_rfl) ?_ | refine DEv_cut _ _ _ _ _ _ _ _ _ _ _ _ (by kernel_rfl) ?_ | change postOf _ _ _ _ _); simp [-List.reduceReplicate, Nat.add_one_le_iff, -getElem?_pos, -getElem?_neg, iC, bC, hashM, h1, h2, hx, ht, hk])
   | ((first | (with_reducible refine awp_ret ?_; try simp only [thenA, inBlockA, noGotoA]) | (refine (p1 _).det ?_) | (refine ⟨_, _, p1 _, fun _ => rfl, ?_⟩) | (refine (p2 _).det ?_) | (refine ⟨_, _, p2 _, fun _ => rfl, ?_⟩) | (refine (p3 _).det ?_) | (refine ⟨_, _, p3 _, fun _ => rfl, ?_⟩)); try simp [-List.reduceReplicate, Nat.add_one_le_iff, -getElem?_pos, -getElem?_neg, iC, bC, hashM, h1, h2, hx, ht, hk])
   | (with_reducible refine awp_if_b rfl (fun hc => ?_) (fun hc => ?_) <;> (try simp [-getElem?_pos, -getElem?_neg] at hc) <;> (try (exfalso; omega)))
   | (with_reducible refine And.intro (by omega) ?_)
   | fail)
theorem ok17_den (x t : List UInt8) (hx : x.length = 32) (ht : t.length = 32) : DenV Tryz.prog 49 [hashM x, hashM t] (.c (bC (okN (hv x) (hv t)))) := by
  refine Den.frame (by simp [hashM, ltB, ltBs]) rfl ?_
  have p1 := of04_den x hx
  have p2 := of04_den t ht
  have p3 := cmp04_den (hv x) (hv t) (hv_lt256 x hx) (hv_lt256 t ht)
  have hk : okN (hv x) (hv t) = decide (cmpN (hv x) (hv t) ≤ 0) := rfl
  have h1 := hash_take x hx
  have h2 := hash_take t ht
  generalize okN (hv x) (hv t) = r at *
  generalize cmpN (hv x) (hv t) = k at *
  generalize bitsC (hv x) = a at *
  generalize bitsC (hv t) = b at *
  refine den_of Tryz.func49 rfl rfl (by simp [Tryz.ntmps49]) (fun X hX hO => ?_)
  rw [Tryz.ntmps49] at hX
  simp only [Tryz.results49]
  repeat' (first 
   | (with_reducible first | refine awp_scope ?_ | refine awp_seq ?_ | refine awp_block ?_)
   | ((with_reducible first | refine awp_label ?_ | refine awp_skip ?_ | refine awp_exit ?_); try simp only [thenA, inBlockA, noGotoA, if_true, Nat.reduceEqDiff, if_false, ↓reduceIte])
   | ((with_reducible first | refine awp_reg 11 hX [2, 3, 4] ?_ | refine awp_drw 11 hX [2, 3, 4] Tab.mixed (by kernel_rfl) ?_ | refine DEv_cut _ _ _ _ _ _ _ _ _ _ _ _ (by kernel_rfl) ?_ | change postOf _ _ _ _ _); simp [-List.reduceReplicate, Nat.add_one_le_iff, -getElem?_pos, -getElem?_neg, iC, bC, hashM, h1, h2, hx, ht, hk])
   | ((first | (with_reducible refine awp_ret ?_; try simp only [thenA, inBlockA, noGotoA]) | (refine (p1 _).det ?_) | (refine ⟨_, _, p1 _, fun _ => rfl, ?_⟩) | (refine (p2 _).det ?_) | (refine ⟨_, _, p2 _, fun _ => rfl, ?_⟩) | (refine (p3 _).det ?_) | (refine ⟨_, _, p3 _, fun _ => rfl, ?_⟩)); try simp [-List.reduceReplicate, Nat.add_one_le_iff, -getElem?_pos, -getElem?_neg, iC, bC, hashM, h1, h2, hx, ht, hk])
   | (with_reducible refine awp_if_b rfl (fun hc => ?_) (fun hc => ?_) <;> (try simp [-getElem?_pos, -getElem?_neg] at hc) <;> (try (exfalso; omega)))
   | (with_reducible refine And.intro (by omega) ?_)
   | fail)
def mayR (a b : Int) : Bool := decide (0 < a) && decide (a < b) && decide (b ≤ 65536)
def mayP (m k a b : Int) : Bool := decide (1 ≤ m) && decide (m ≤ 1024) && decide (1 ≤ k) && decide (k ≤ 1024) && mayR a b
theorem mayR_den (a b : Int) : DenV Tryz.prog 88 [.c (iC a), .c (iC b)] (.c (bC (mayR a b))) := by
  refine Den.frame rfl rfl ?_
  have hr : mayR a b = (decide (0 < a) && decide (a < b) && decide (b ≤ 65536)) := rfl
  generalize mayR a b = r at *
  refine den_of Tryz.func88 rfl rfl (by simp [Tryz.ntmps88]) (fun X hX hO => ?_)
  rw [Tryz.ntmps88] at hX
  simp only [Tryz.results88]
  repeat' (first 
   | (with_reducible first | refine awp_scope ?_ | refine awp_seq ?_ | refine awp_block ?_)
   | ((with_reducible first | refine awp_label ?_ | refine awp_skip ?_ | refine awp_exit ?_); try simp only [thenA, inBlockA, noGotoA, if_true, Nat.reduceEqDiff, if_false, ↓reduceIte])
   | ((with_reducible first | refine awp_reg 16 hX [0, 1, 4] ?_ | change postOf _ _ _ _ _); simp [-List.reduceReplicate, Nat.add_one_le_iff, -getElem?_pos, -getElem?_neg, iC, bC])
   | ((first | (with_reducible refine awp_ret ?_; try simp only [thenA, inBlockA, noGotoA])); try simp [-List.reduceReplicate, Nat.add_one_le_iff, -getElem?_pos, -getElem?_neg, iC, bC])
   | (with_reducible refine awp_if_b rfl (fun hc => ?_) (fun hc => ?_) <;> (try simp [-getElem?_pos, -getElem?_neg] at hc) <;> (try (exfalso; omega)))
   | ((with_reducible first | refine GuardK_b (fun hc => ?_) (fun hc => ?_)) <;> (try simp only [Bool.not_eq_true', Bool.not_eq_false', decide_eq_true_eq, decide_eq_false_iff_not] at hc) <;> (first | (exfalso; omega) | skip) <;> simp [-List.reduceReplicate, Nat.add_one_le_iff, -getElem?_pos, -getElem?_neg, iC, bC, hc])
   | (with_reducible refine And.intro (by omega) ?_)
   | fail)
  all_goals simp_all
theorem may06_den (a b : Int) : DenV Tryz.prog 95 [.c (iC a), .c (iC b)] (.c (bC (mayR a b))) := by
  refine Den.frame rfl rfl ?_
  have hr : mayR a b = (decide (0 < a) && decide (a < b) && decide (b ≤ 65536)) := rfl
  generalize mayR a b = r at *
  refine den_of Tryz.func95 rfl rfl (by simp [Tryz.ntmps95]) (fun X hX hO => ?_)
  rw [Tryz.ntmps95] at hX
  simp only [Tryz.results95]
  repeat' (first 
   | (with_reducible first | refine awp_scope ?_ | refine awp_seq ?_ | refine awp_block ?_)
   | ((with_reducible first | refine awp_label ?_ | refine awp_skip ?_ | refine awp_exit ?_); try simp only [thenA, inBlockA, noGotoA, if_true, Nat.reduceEqDiff, if_false, ↓reduceIte])
   | ((with_reducible first | refine awp_reg 16 hX [0, 1, 4] ?_ | change postOf _ _ _ _ _); simp [-List.reduceReplicate, Nat.add_one_le_iff, -getElem?_pos, -getElem?_neg, iC, bC])
   | ((first | (with_reducible refine awp_ret ?_; try simp only [thenA, inBlockA, noGotoA])); try simp [-List.reduceReplicate, Nat.add_one_le_iff, -getElem?_pos, -getElem?_neg, iC, bC])
   | (with_reducible refine awp_if_b rfl (fun hc => ?_) (fun hc => ?_) <;> (try simp [-getElem?_pos, -getElem?_neg] at hc) <;> (try (exfalso; omega)))
   | ((with_reducible first | refine GuardK_b (fun hc => ?_) (fun hc => ?_)) <;> (try simp only [Bool.not_eq_true', Bool.not_eq_false', decide_eq_true_eq, decide_eq_false_iff_not] at hc) <;> (first | (exfalso; omega) | skip) <;> simp [-List.reduceReplicate, Nat.add_one_le_iff, -getElem?_pos, -getElem?_neg, iC, bC, hc])
   | (with_reducible refine And.intro (by omega) ?_)
   | fail)
  all_goals simp_all
theorem mayP_den (m k a b : Int) : DenV Tryz.prog 47 [.c (iC m), .c (iC k), .c (iC a), .c (iC b)] (.c (bC (mayP m k a b))) := by
  refine Den.frame rfl rfl ?_
  have p1 := mayR_den a b
  have hr : mayP m k a b = (decide (1 ≤ m) && decide (m ≤ 1024) && decide (1 ≤ k) && decide (k ≤ 1024) && mayR a b) := rfl
  generalize mayP m k a b = r at *
  generalize mayR a b = r2 at *
  refine den_of Tryz.func47 rfl rfl (by simp [Tryz.ntmps47]) (fun X hX hO => ?_)
  rw [Tryz.ntmps47] at hX
  simp only [Tryz.results47]
  repeat' (first 
   | (with_reducible first | refine awp_scope ?_ | refine awp_seq ?_ | refine awp_block ?_)
   | ((with_reducible first | refine awp_label ?_ | refine awp_skip ?_ | refine awp_exit ?_); try simp only [thenA, inBlockA, noGotoA, if_true, Nat.reduceEqDiff, if_false, ↓reduceIte])
   | ((with_reducible first | refine awp_reg 28 hX [0, 1, 2, 3, 8] ?_ | change postOf _ _ _ _ _); simp [-List.reduceReplicate, Nat.add_one_le_iff, -getElem?_pos, -getElem?_neg, iC, bC])
   | ((first | (with_reducible refine awp_ret ?_; try simp only [thenA, inBlockA, noGotoA]) | (refine (p1 _).det ?_)); try simp [-List.reduceReplicate, Nat.add_one_le_iff, -getElem?_pos, -getElem?_neg, iC, bC])
   | (with_reducible refine awp_if_b rfl (fun hc => ?_) (fun hc => ?_) <;> (try simp [-getElem?_pos, -getElem?_neg] at hc) <;> (try (exfalso; omega)))
   | ((with_reducible first | refine GuardK_b (fun hc => ?_) (fun hc => ?_)) <;> (try simp only [Bool.not_eq_true', Bool.not_eq_false', decide_eq_true_eq, decide_eq_false_iff_not] at hc) <;> (first | (exfalso; omega) | skip) <;> simp [-List.reduceReplicate, Nat.add_one_le_iff, -getElem?_pos, -getElem?_neg, iC, bC, hc])
   | (with_reducible refine And.intro (by omega) ?_)
   | fail)
  all_goals simp_all
theorem may47_den (m k a b : Int) : DenV Tryz.prog 51 [.c (iC m), .c (iC k), .c (iC a), .c (iC b)] (.c (bC (mayP m k a b))) := by
  refine Den.frame rfl rfl ?_
  have p1 := may06_den a b
  have hr : mayP m k a b = (decide (1 ≤ m) && decide (m ≤ 1024) && decide (1 ≤ k) && decide (k ≤ 1024) && mayR a b) := rfl
  generalize mayP m k a b = r at *
  generalize mayR a b = r2 at *
  refine den_of Tryz.func51 rfl rfl (by simp [Tryz.ntmps51]) (fun X hX hO => ?_)
  rw [Tryz.ntmps51] at hX
  simp only [Tryz.results51]
  repeat' (first 
   | (with_reducible first | refine awp_scope ?_ | refine awp_seq ?_ | refine awp_block ?_)
   | ((with_reducible first | refine awp_label ?_ | refine awp_skip ?_ | refine awp_exit ?_); try simp only [thenA, inBlockA, noGotoA, if_true, Nat.reduceEqDiff, if_false, ↓reduceIte])
   | ((with_reducible first | refine awp_reg 28 hX [0, 1, 2, 3, 8] ?_ | change postOf _ _ _ _ _); simp [-List.reduceReplicate, Nat.add_one_le_iff, -getElem?_pos, -getElem?_neg, iC, bC])
   | ((first | (with_reducible refine awp_ret ?_; try simp only [thenA, inBlockA, noGotoA]) | (refine (p1 _).det ?_)); try simp [-List.reduceReplicate, Nat.add_one_le_iff, -getElem?_pos, -getElem?_neg, iC, bC])
   | (with_reducible refine awp_if_b rfl (fun hc => ?_) (fun hc => ?_) <;> (try simp [-getElem?_pos, -getElem?_neg] at hc) <;> (try (exfalso; omega)))
   | ((with_reducible first | refine GuardK_b (fun hc => ?_) (fun hc => ?_)) <;> (try simp only [Bool.not_eq_true', Bool.not_eq_false', decide_eq_true_eq, decide_eq_false_iff_not] at hc) <;> (first | (exfalso; omega) | skip) <;> simp [-List.reduceReplicate, Nat.add_one_le_iff, -getElem?_pos, -getElem?_neg, iC, bC, hc])
   | (with_reducible refine And.intro (by omega) ?_)
   | fail)
  all_goals simp_all
end Go.Av

set_option exponentiation.threshold 1000
set_option linter.unusedVariables false
set_option linter.unusedSimpArgs false
set_option maxRecDepth 100000
set_option maxHeartbeats 4000000
namespace Go.Av
open Go Go.Proofs Go.Proofs.YtpcnacknlgmmlaaGreat Go.RowKit
attribute [local simp] List.getElem?_cons_zero List.getElem?_cons_succ
/-! ### config.Check, milepostref52.CheckConfig -/
attribute [local simp] Tryz.underlying9 Tryz.underlying3 Tryz.underlying4 Tryz.underlying30 Tryz.underlying24 Tryz.underlying27 Tryz.underlying29
def anchC (c : CF) : Bool := decide (c.g.v ≠ 0) || decide (c.g.a.1 ≠ rootNil) || !okN (hv (idL c.g)) (hv c.t.1)
def rangeC (c : CF) : Bool := decide (c.mb < 1) || decide (1024 < c.mb) || decide (c.mp < 1) || decide (64 < c.mp)
def checkC (c : CF) : Int := if anchC c then 7 else if !mayP c.m c.k c.a c.b then 13 else if rangeC c then 3 else 0
theorem cfC_len (c : CF) : (cfC c).length = 104 := by simp [cfC, hdC, c.g.a.2, c.g.b.2, c.t.2]
theorem cfC_g (c : CF) : (cfC c).take 66 = hdC c.g := by
  have : (hdC c.g).length = 66 := by simp [hdC, c.g.a.2, c.g.b.2]
  rw [cfC, List.take_left' this]
theorem cfC_t (c : CF) : ((cfC c).drop 66).take 32 = c.t.1.map bC8 := by
  have : (hdC c.g).length = 66 := by simp [hdC, c.g.a.2, c.g.b.2]
  rw [cfC, List.drop_left' this, List.take_left' (by simp [c.t.2])]
theorem cfC_n (c : CF) (j : Nat) : (cfC c)[98 + j]? = [iC c.m, iC c.k, iC c.a, iC c.b, iC c.mb, iC c.mp][j]? := by
  have : (hdC c.g).length = 66 := by simp [hdC, c.g.a.2, c.g.b.2]
  rw [cfC, List.getElem?_append_right (by omega), this, List.getElem?_append_right (by simp [c.t.2]; omega)]
  simp [c.t.2]
  congr 1
  omega
theorem check_den (c : CF) (hok : HDok c.g) : DenV Tryz.prog 11 [cfM c] (.c (iC (checkC c))) := by
  refine Den.frame (by simp [cfM, ltB, ltBs]) rfl ?_
  have p1 := linkRootNil_den
  have p2 := identId_den c.g hok
  have p3 := ok_den (idL c.g) c.t.1 (by simp [idL, shaL_len]) c.t.2
  have p4 := mayP_den c.m c.k c.a c.b
  have he := eq_hash c.g.a.1 rootNil c.g.a.2 rootNil_len
  have hrl := rootNil_len
  have hck : checkC c = if anchC c then 7 else if !mayP c.m c.k c.a c.b then 13 else if rangeC c then 3 else 0 := rfl
  have han : anchC c = (decide (c.g.v ≠ 0) || decide (c.g.a.1 ≠ rootNil) || !okN (hv (idL c.g)) (hv c.t.1)) := rfl
  have hra : rangeC c = (decide (c.mb < 1) || decide (1024 < c.mb) || decide (c.mp < 1) || decide (64 < c.mp)) := rfl
  have kl := cfC_len c
  have kg := cfC_g c
  have kt := cfC_t c
  have k0 := cfC_n c 0
  have k1 := cfC_n c 1
  have k2 := cfC_n c 2
  have k3 := cfC_n c 3
  have k4 := cfC_n c 4
  have k5 := cfC_n c 5
  have hl : (hdC c.g).length = 66 := by simp [hdC, c.g.a.2, c.g.b.2]
  have ht : (hdC c.g).take 66 = hdC c.g := List.take_of_length_le (by omega)
  have h0 : (hdC c.g)[0]? = some (.v (.int .u32 (c.g.v : Int))) := rfl
  have ha : ((hdC c.g).drop 1).take 32 = c.g.a.1.map bC8 := by rw [hdC, List.drop_succ_cons, List.drop_zero, List.take_left' (by simp [c.g.a.2])]
  have kv : (cfC c)[0]? = some (.v (.int .u32 (c.g.v : Int))) := rfl
  have ka : ((cfC c).drop 1).take 32 = c.g.a.1.map bC8 := by
    have : cfC c = u32v c.g.v :: (c.g.a.1.map bC8 ++ ((c.g.b.1.map bC8 ++ [u64C c.g.n]) ++ (c.t.1.map bC8 ++ [iC c.m, iC c.k, iC c.a, iC c.b, iC c.mb, iC c.mp]))) := by simp [cfC, hdC]
    rw [this, List.drop_succ_cons, List.drop_zero, List.take_left' (by simp [c.g.a.2])]
  have ha2 : List.take 32 (up (hdC c.g)).tail = up (c.g.a.1.map bC8) := by rw [← ha]; simp [up, hdC, List.map_take]
  have ka2 : List.take 32 (up (cfC c)).tail = up (c.g.a.1.map bC8) := by rw [← ka]; simp [up, cfC, hdC, List.map_take]
  simp at k0 k1 k2 k3 k4 k5
  unfold cfM
  unfold hdM hashM at *
  obtain ⟨⟨v, ⟨A, hA⟩, B, n⟩, ⟨T, hT⟩, m, k, a, b, mb, mp⟩ := c
  simp only at *
  have hv0 : ((v : Int) = 0) ↔ v = 0 := by omega
  generalize checkC ⟨⟨v, ⟨A, hA⟩, B, n⟩, ⟨T, hT⟩, m, k, a, b, mb, mp⟩ = r at *
  generalize anchC ⟨⟨v, ⟨A, hA⟩, B, n⟩, ⟨T, hT⟩, m, k, a, b, mb, mp⟩ = ran at *
  generalize rangeC ⟨⟨v, ⟨A, hA⟩, B, n⟩, ⟨T, hT⟩, m, k, a, b, mb, mp⟩ = rra at *
  generalize cfC ⟨⟨v, ⟨A, hA⟩, B, n⟩, ⟨T, hT⟩, m, k, a, b, mb, mp⟩ = K at *
  generalize hdC ⟨v, ⟨A, hA⟩, B, n⟩ = Hc at *
  have hid : (idL ⟨v, ⟨A, hA⟩, B, n⟩).length = 32 := by simp [idL, shaL_len]
  generalize idL ⟨v, ⟨A, hA⟩, B, n⟩ = I at *
  generalize okN (hv I) (hv T) = o at *
  generalize mayP m k a b = my at *
  generalize rootNil = R at *
  generalize hAA : A.map bC8 = AA at *
  generalize hTT : T.map bC8 = TT at *
  generalize hRR : R.map bC8 = RR at *
  generalize hII : I.map bC8 = II at *
  have lA : AA.length = 32 := by rw [← hAA]; simp [hA]
  have lR : RR.length = 32 := by rw [← hRR]; simp [hrl]
  have lT : TT.length = 32 := by rw [← hTT]; simp [hT]
  have lI : II.length = 32 := by rw [← hII]; simp [hid]
  refine den_of Tryz.func11 rfl rfl (by simp [Tryz.ntmps11]) (fun X hX hO => ?_)
  rw [Tryz.ntmps11] at hX
  simp only [Tryz.results11]
  by_cases c1 : v = 0
  · by_cases c2 : A = R
    · cases o with
      | false =>
        simp [c1, c2] at han
        repeat' (first 
         | (with_reducible first | refine awp_scope ?_ | refine awp_seq ?_ | refine awp_block ?_)
         | ((with_reducible first | refine awp_label ?_ | refine awp_skip ?_ | refine awp_exit ?_); try simp only [thenA, inBlockA, noGotoA, if_true, Nat.reduceEqDiff, if_false, ↓reduceIte])
         | ((with_reducible first | refine awp_reg 50 hX [1, 2, 3, 6, 20, 31] ?_ | refine awp_drw 50 hX [1, 2, 3, 6, 20, 31] Tab.mixed (by kernel_rfl) ?_ | refine DEv_cut _ _ _ _ _ _ _ _ _ _ _ _ (by kernel_rfl) ?_ | change postOf _ _ _ _ _); simp [-List.reduceReplicate, Nat.add_one_le_iff, -getElem?_pos, -getElem?_neg, iC, bC, kl, kg, kt, k0, k1, k2, k3, k4, k5, hl, ht, h0, ha, he, c1, c2, kv, ka, ha2, ka2])
         | ((first | (with_reducible refine awp_ret ?_; try simp only [thenA, inBlockA, noGotoA]) | (refine (p1 _).det ?_) | (refine ⟨_, _, p1 _, fun _ => rfl, ?_⟩) | (refine (p2 _).det ?_) | (refine ⟨_, _, p2 _, fun _ => rfl, ?_⟩) | (refine (p3 _).det ?_) | (refine ⟨_, _, p3 _, fun _ => rfl, ?_⟩) | (refine (p4 _).det ?_) | (refine ⟨_, _, p4 _, fun _ => rfl, ?_⟩)); try simp [-List.reduceReplicate, Nat.add_one_le_iff, -getElem?_pos, -getElem?_neg, iC, bC, kl, kg, kt, k0, k1, k2, k3, k4, k5, hl, ht, h0, ha, he, c1, c2, kv, ka, ha2, ka2])
         | (with_reducible refine awp_if_b rfl (fun hc => ?_) (fun hc => ?_) <;> (try simp [-getElem?_pos, -getElem?_neg] at hc) <;> (try (exfalso; omega)))
         | ((with_reducible first | refine GuardK_b (fun hc => ?_) (fun hc => ?_) | refine DGuard_b _ _ _ _ _ _ _ _ _ _ (fun hc => ?_) (fun hc => ?_)) <;> (try simp only [Bool.not_eq_true', Bool.not_eq_false', decide_eq_true_eq, decide_eq_false_iff_not] at hc) <;> (first | (exfalso; omega) | skip) <;> simp [-List.reduceReplicate, Nat.add_one_le_iff, -getElem?_pos, -getElem?_neg, iC, bC, kl, kg, kt, k0, k1, k2, k3, k4, k5, hl, ht, h0, ha, he, c1, c2, kv, ka, ha2, ka2, hc])
         | (with_reducible refine And.intro (by omega) ?_)
         | fail)
        all_goals simp_all
      | true =>
        simp [c1, c2] at han
        cases my with
        | false =>
          repeat' (first 
           | (with_reducible first | refine awp_scope ?_ | refine awp_seq ?_ | refine awp_block ?_)
           | ((with_reducible first | refine awp_label ?_ | refine awp_skip ?_ | refine awp_exit ?_); try simp only [thenA, inBlockA, noGotoA, if_true, Nat.reduceEqDiff, if_false, ↓reduceIte])
           | ((with_reducible first | refine awp_reg 50 hX [1, 2, 3, 6, 20, 31] ?_ | refine awp_drw 50 hX [1, 2, 3, 6, 20, 31] Tab.mixed (by kernel_rfl) ?_ | refine DEv_cut _ _ _ _ _ _ _ _ _ _ _ _ (by kernel_rfl) ?_ | change postOf _ _ _ _ _); simp [-List.reduceReplicate, Nat.add_one_le_iff, -getElem?_pos, -getElem?_neg, iC, bC, kl, kg, kt, k0, k1, k2, k3, k4, k5, hl, ht, h0, ha, he, c1, c2, kv, ka, ha2, ka2])
           | ((first | (with_reducible refine awp_ret ?_; try simp only [thenA, inBlockA, noGotoA]) | (refine (p1 _).det ?_) | (refine ⟨_, _, p1 _, fun _ => rfl, ?_⟩) | (refine (p2 _).det ?_) | (refine ⟨_, _, p2 _, fun _ => rfl, ?_⟩) | (refine (p3 _).det ?_) | (refine ⟨_, _, p3 _, fun _ => rfl, ?_⟩) | (refine (p4 _).det ?_) | (refine ⟨_, _, p4 _, fun _ => rfl, ?_⟩)); try simp [-List.reduceReplicate, Nat.add_one_le_iff, -getElem?_pos, -getElem?_neg, iC, bC, kl, kg, kt, k0, k1, k2, k3, k4, k5, hl, ht, h0, ha, he, c1, c2, kv, ka, ha2, ka2])
           | (with_reducible refine awp_if_b rfl (fun hc => ?_) (fun hc => ?_) <;> (try simp [-getElem?_pos, -getElem?_neg] at hc) <;> (try (exfalso; omega)))
           | ((with_reducible first | refine GuardK_b (fun hc => ?_) (fun hc => ?_) | refine DGuard_b _ _ _ _ _ _ _ _ _ _ (fun hc => ?_) (fun hc => ?_)) <;> (try simp only [Bool.not_eq_true', Bool.not_eq_false', decide_eq_true_eq, decide_eq_false_iff_not] at hc) <;> (first | (exfalso; omega) | skip) <;> simp [-List.reduceReplicate, Nat.add_one_le_iff, -getElem?_pos, -getElem?_neg, iC, bC, kl, kg, kt, k0, k1, k2, k3, k4, k5, hl, ht, h0, ha, he, c1, c2, kv, ka, ha2, ka2, hc])
           | (with_reducible refine And.intro (by omega) ?_)
           | fail)
          all_goals simp_all
        | true =>
          repeat' (first 
           | (with_reducible first | refine awp_scope ?_ | refine awp_seq ?_ | refine awp_block ?_)
           | ((with_reducible first | refine awp_label ?_ | refine awp_skip ?_ | refine awp_exit ?_); try simp only [thenA, inBlockA, noGotoA, if_true, Nat.reduceEqDiff, if_false, ↓reduceIte])
           | ((with_reducible first | refine awp_reg 50 hX [1, 2, 3, 6, 20, 31] ?_ | refine awp_drw 50 hX [1, 2, 3, 6, 20, 31] Tab.mixed (by kernel_rfl) ?_ | refine DEv_cut _ _ _ _ _ _ _ _ _ _ _ _ (by kernel_rfl) ?_ | change postOf _ _ _ _ _); simp [-List.reduceReplicate, Nat.add_one_le_iff, -getElem?_pos, -getElem?_neg, iC, bC, kl, kg, kt, k0, k1, k2, k3, k4, k5, hl, ht, h0, ha, he, c1, c2, kv, ka, ha2, ka2])
           | ((first | (with_reducible refine awp_ret ?_; try simp only [thenA, inBlockA, noGotoA]) | (refine (p1 _).det ?_) | (refine ⟨_, _, p1 _, fun _ => rfl, ?_⟩) | (refine (p2 _).det ?_) | (refine ⟨_, _, p2 _, fun _ => rfl, ?_⟩) | (refine (p3 _).det ?_) | (refine ⟨_, _, p3 _, fun _ => rfl, ?_⟩) | (refine (p4 _).det ?_) | (refine ⟨_, _, p4 _, fun _ => rfl, ?_⟩)); try simp [-List.reduceReplicate, Nat.add_one_le_iff, -getElem?_pos, -getElem?_neg, iC, bC, kl, kg, kt, k0, k1, k2, k3, k4, k5, hl, ht, h0, ha, he, c1, c2, kv, ka, ha2, ka2])
           | (with_reducible refine awp_if_b rfl (fun hc => ?_) (fun hc => ?_) <;> (try simp [-getElem?_pos, -getElem?_neg] at hc) <;> (try (exfalso; omega)))
           | ((with_reducible first | refine GuardK_b (fun hc => ?_) (fun hc => ?_) | refine DGuard_b _ _ _ _ _ _ _ _ _ _ (fun hc => ?_) (fun hc => ?_)) <;> (try simp only [Bool.not_eq_true', Bool.not_eq_false', decide_eq_true_eq, decide_eq_false_iff_not] at hc) <;> (first | (exfalso; omega) | skip) <;> simp [-List.reduceReplicate, Nat.add_one_le_iff, -getElem?_pos, -getElem?_neg, iC, bC, kl, kg, kt, k0, k1, k2, k3, k4, k5, hl, ht, h0, ha, he, c1, c2, kv, ka, ha2, ka2, hc])
           | (with_reducible refine And.intro (by omega) ?_)
           | fail)
          all_goals simp_all
    · simp [c1, c2] at han
      repeat' (first 
       | (with_reducible first | refine awp_scope ?_ | refine awp_seq ?_ | refine awp_block ?_)
       | ((with_reducible first | refine awp_label ?_ | refine awp_skip ?_ | refine awp_exit ?_); try simp only [thenA, inBlockA, noGotoA, if_true, Nat.reduceEqDiff, if_false, ↓reduceIte])
       | ((with_reducible first | refine awp_reg 50 hX [1, 2, 3, 6, 20, 31] ?_ | refine awp_drw 50 hX [1, 2, 3, 6, 20, 31] Tab.mixed (by kernel_rfl) ?_ | refine DEv_cut _ _ _ _ _ _ _ _ _ _ _ _ (by kernel_rfl) ?_ | change postOf _ _ _ _ _); simp [-List.reduceReplicate, Nat.add_one_le_iff, -getElem?_pos, -getElem?_neg, iC, bC, kl, kg, kt, k0, k1, k2, k3, k4, k5, hl, ht, h0, ha, he, c1, c2, kv, ka, ha2, ka2])
       | ((first | (with_reducible refine awp_ret ?_; try simp only [thenA, inBlockA, noGotoA]) | (refine (p1 _).det ?_) | (refine ⟨_, _, p1 _, fun _ => rfl, ?_⟩) | (refine (p2 _).det ?_) | (refine ⟨_, _, p2 _, fun _ => rfl, ?_⟩) | (refine (p3 _).det ?_) | (refine ⟨_, _, p3 _, fun _ => rfl, ?_⟩) | (refine (p4 _).det ?_) | (refine ⟨_, _, p4 _, fun _ => rfl, ?_⟩)); try simp [-List.reduceReplicate, Nat.add_one_le_iff, -getElem?_pos, -getElem?_neg, iC, bC, kl, kg, kt, k0, k1, k2, k3, k4, k5, hl, ht, h0, ha, he, c1, c2, kv, ka, ha2, ka2])
       | (with_reducible refine awp_if_b rfl (fun hc => ?_) (fun hc => ?_) <;> (try simp [-getElem?_pos, -getElem?_neg] at hc) <;> (try (exfalso; omega)))
       | ((with_reducible first | refine GuardK_b (fun hc => ?_) (fun hc => ?_) | refine DGuard_b _ _ _ _ _ _ _ _ _ _ (fun hc => ?_) (fun hc => ?_)) <;> (try simp only [Bool.not_eq_true', Bool.not_eq_false', decide_eq_true_eq, decide_eq_false_iff_not] at hc) <;> (first | (exfalso; omega) | skip) <;> simp [-List.reduceReplicate, Nat.add_one_le_iff, -getElem?_pos, -getElem?_neg, iC, bC, kl, kg, kt, k0, k1, k2, k3, k4, k5, hl, ht, h0, ha, he, c1, c2, kv, ka, ha2, ka2, hc])
       | (with_reducible refine And.intro (by omega) ?_)
       | fail)
      all_goals simp_all
  · simp [c1] at han
    repeat' (first 
     | (with_reducible first | refine awp_scope ?_ | refine awp_seq ?_ | refine awp_block ?_)
     | ((with_reducible first | refine awp_label ?_ | refine awp_skip ?_ | refine awp_exit ?_); try simp only [thenA, inBlockA, noGotoA, if_true, Nat.reduceEqDiff, if_false, ↓reduceIte])
     | ((with_reducible first | refine awp_reg 50 hX [1, 2, 3, 6, 20, 31] ?_ | refine awp_drw 50 hX [1, 2, 3, 6, 20, 31] Tab.mixed (by kernel_rfl) ?_ | refine DEv_cut _ _ _ _ _ _ _ _ _ _ _ _ (by kernel_rfl) ?_ | change postOf _ _ _ _ _); simp [-List.reduceReplicate, Nat.add_one_le_iff, -getElem?_pos, -getElem?_neg, iC, bC, kl, kg, kt, k0, k1, k2, k3, k4, k5, hl, ht, h0, ha, he, c1, kv, ka, ha2, ka2])
     | ((first | (with_reducible refine awp_ret ?_; try simp only [thenA, inBlockA, noGotoA]) | (refine (p1 _).det ?_) | (refine ⟨_, _, p1 _, fun _ => rfl, ?_⟩) | (refine (p2 _).det ?_) | (refine ⟨_, _, p2 _, fun _ => rfl, ?_⟩) | (refine (p3 _).det ?_) | (refine ⟨_, _, p3 _, fun _ => rfl, ?_⟩) | (refine (p4 _).det ?_) | (refine ⟨_, _, p4 _, fun _ => rfl, ?_⟩)); try simp [-List.reduceReplicate, Nat.add_one_le_iff, -getElem?_pos, -getElem?_neg, iC, bC, kl, kg, kt, k0, k1, k2, k3, k4, k5, hl, ht, h0, ha, he, c1, kv, ka, ha2, ka2])
     | (with_reducible refine awp_if_b rfl (fun hc => ?_) (fun hc => ?_) <;> (try simp [-getElem?_pos, -getElem?_neg] at hc) <;> (try (exfalso; omega)))
     | ((with_reducible first | refine GuardK_b (fun hc => ?_) (fun hc => ?_) | refine DGuard_b _ _ _ _ _ _ _ _ _ _ (fun hc => ?_) (fun hc => ?_)) <;> (try simp only [Bool.not_eq_true', Bool.not_eq_false', decide_eq_true_eq, decide_eq_false_iff_not] at hc) <;> (first | (exfalso; omega) | skip) <;> simp [-List.reduceReplicate, Nat.add_one_le_iff, -getElem?_pos, -getElem?_neg, iC, bC, kl, kg, kt, k0, k1, k2, k3, k4, k5, hl, ht, h0, ha, he, c1, kv, ka, ha2, ka2, hc])
     | (with_reducible refine And.intro (by omega) ?_)
     | fail)
    all_goals simp_all
theorem check52_den (c : CF) (hok : HDok c.g) : DenV Tryz.prog 12 [cfM c] (.c (iC (checkC c))) := by
  refine Den.frame (by simp [cfM, ltB, ltBs]) rfl ?_
  have p1 := links17Nil_den
  have p2 := id17_den c.g hok
  have p3 := ok17_den (idL c.g) c.t.1 (by simp [idL, shaL_len]) c.t.2
  have p4 := may47_den c.m c.k c.a c.b
  have he := eq_hash c.g.a.1 rootNil c.g.a.2 rootNil_len
  have hrl := rootNil_len
  have hck : checkC c = if anchC c then 7 else if !mayP c.m c.k c.a c.b then 13 else if rangeC c then 3 else 0 := rfl
  have han : anchC c = (decide (c.g.v ≠ 0) || decide (c.g.a.1 ≠ rootNil) || !okN (hv (idL c.g)) (hv c.t.1)) := rfl
  have hra : rangeC c = (decide (c.mb < 1) || decide (1024 < c.mb) || decide (c.mp < 1) || decide (64 < c.mp)) := rfl
  have kl := cfC_len c
  have kg := cfC_g c
  have kt := cfC_t c
  have k0 := cfC_n c 0
  have k1 := cfC_n c 1
  have k2 := cfC_n c 2
  have k3 := cfC_n c 3
  have k4 := cfC_n c 4
  have k5 := cfC_n c 5
  have hl : (hdC c.g).length = 66 := by simp [hdC, c.g.a.2, c.g.b.2]
  have ht : (hdC c.g).take 66 = hdC c.g := List.take_of_length_le (by omega)
  have h0 : (hdC c.g)[0]? = some (.v (.int .u32 (c.g.v : Int))) := rfl
  have ha : ((hdC c.g).drop 1).take 32 = c.g.a.1.map bC8 := by rw [hdC, List.drop_succ_cons, List.drop_zero, List.take_left' (by simp [c.g.a.2])]
  have kv : (cfC c)[0]? = some (.v (.int .u32 (c.g.v : Int))) := rfl
  have ka : ((cfC c).drop 1).take 32 = c.g.a.1.map bC8 := by
    have : cfC c = u32v c.g.v :: (c.g.a.1.map bC8 ++ ((c.g.b.1.map bC8 ++ [u64C c.g.n]) ++ (c.t.1.map bC8 ++ [iC c.m, iC c.k, iC c.a, iC c.b, iC c.mb, iC c.mp]))) := by simp [cfC, hdC]
    rw [this, List.drop_succ_cons, List.drop_zero, List.take_left' (by simp [c.g.a.2])]
  have ha2 : List.take 32 (up (hdC c.g)).tail = up (c.g.a.1.map bC8) := by rw [← ha]; simp [up, hdC, List.map_take]
  have ka2 : List.take 32 (up (cfC c)).tail = up (c.g.a.1.map bC8) := by rw [← ka]; simp [up, cfC, hdC, List.map_take]
  simp at k0 k1 k2 k3 k4 k5
  unfold cfM
  unfold hdM hashM at *
  obtain ⟨⟨v, ⟨A, hA⟩, B, n⟩, ⟨T, hT⟩, m, k, a, b, mb, mp⟩ := c
  simp only at *
  have hv0 : ((v : Int) = 0) ↔ v = 0 := by omega
  generalize checkC ⟨⟨v, ⟨A, hA⟩, B, n⟩, ⟨T, hT⟩, m, k, a, b, mb, mp⟩ = r at *
  generalize anchC ⟨⟨v, ⟨A, hA⟩, B, n⟩, ⟨T, hT⟩, m, k, a, b, mb, mp⟩ = ran at *
  generalize rangeC ⟨⟨v, ⟨A, hA⟩, B, n⟩, ⟨T, hT⟩, m, k, a, b, mb, mp⟩ = rra at *
  generalize cfC ⟨⟨v, ⟨A, hA⟩, B, n⟩, ⟨T, hT⟩, m, k, a, b, mb, mp⟩ = K at *
  generalize hdC ⟨v, ⟨A, hA⟩, B, n⟩ = Hc at *
  have hid : (idL ⟨v, ⟨A, hA⟩, B, n⟩).length = 32 := by simp [idL, shaL_len]
  generalize idL ⟨v, ⟨A, hA⟩, B, n⟩ = I at *
  generalize okN (hv I) (hv T) = o at *
  generalize mayP m k a b = my at *
  generalize rootNil = R at *
  generalize hAA : A.map bC8 = AA at *
  generalize hTT : T.map bC8 = TT at *
  generalize hRR : R.map bC8 = RR at *
  generalize hII : I.map bC8 = II at *
  have lA : AA.length = 32 := by rw [← hAA]; simp [hA]
  have lR : RR.length = 32 := by rw [← hRR]; simp [hrl]
  have lT : TT.length = 32 := by rw [← hTT]; simp [hT]
  have lI : II.length = 32 := by rw [← hII]; simp [hid]
  refine den_of Tryz.func12 rfl rfl (by simp [Tryz.ntmps12]) (fun X hX hO => ?_)
  rw [Tryz.ntmps12] at hX
  simp only [Tryz.results12]
  by_cases c1 : v = 0
  · by_cases c2 : A = R
    · cases o with
      | false =>
        simp [c1, c2] at han
        repeat' (first 
         | (with_reducible first | refine awp_scope ?_ | refine awp_seq ?_ | refine awp_block ?_)
         | ((with_reducible first | refine awp_label ?_ | refine awp_skip ?_ | refine awp_exit ?_); try simp only [thenA, inBlockA, noGotoA, if_true, Nat.reduceEqDiff, if_false, ↓reduceIte])
         | ((with_reducible first | refine awp_reg 51 hX [1, 2, 22, 32, 50] ?_ | refine awp_drw 51 hX [1, 2, 22, 32, 50] Tab.mixed (by kernel_rfl) ?_ | refine DEv_cut _ _ _ _ _ _ _ _ _ _ _ _ (by kernel_rfl) ?_ | change postOf _ _ _ _ _); simp [-List.reduceReplicate, Nat.add_one_le_iff, -getElem?_pos, -getElem?_neg, iC, bC, kl, kg, kt, k0, k1, k2, k3, k4, k5, hl, ht, h0, ha, he, c1, c2, kv, ka, ha2, ka2])
         | ((first | (with_reducible refine awp_ret ?_; try simp only [thenA, inBlockA, noGotoA]) | (refine (p1 _).det ?_) | (refine ⟨_, _, p1 _, fun _ => rfl, ?_⟩) | (refine (p2 _).det ?_) | (refine ⟨_, _, p2 _, fun _ => rfl, ?_⟩) | (refine (p3 _).det ?_) | (refine ⟨_, _, p3 _, fun _ => rfl, ?_⟩) | (refine (p4 _).det ?_) | (refine ⟨_, _, p4 _, fun _ => rfl, ?_⟩)); try simp [-List.reduceReplicate, Nat.add_one_le_iff, -getElem?_pos, -getElem?_neg, iC, bC, kl, kg, kt, k0, k1, k2, k3, k4, k5, hl, ht, h0, ha, he, c1, c2, kv, ka, ha2, ka2])
         | (with_reducible refine awp_if_b rfl (fun hc => ?_) (fun hc => ?_) <;> (try simp [-getElem?_pos, -getElem?_neg] at hc) <;> (try (exfalso; omega)))
         | ((with_reducible first | refine GuardK_b (fun hc => ?_) (fun hc => ?_) | refine DGuard_b _ _ _ _ _ _ _ _ _ _ (fun hc => ?_) (fun hc => ?_)) <;> (try simp only [Bool.not_eq_true', Bool.not_eq_false', decide_eq_true_eq, decide_eq_false_iff_not] at hc) <;> (first | (exfalso; omega) | skip) <;> simp [-List.reduceReplicate, Nat.add_one_le_iff, -getElem?_pos, -getElem?_neg, iC, bC, kl, kg, kt, k0, k1, k2, k3, k4, k5, hl, ht, h0, ha, he, c1, c2, kv, ka, ha2, ka2, hc])
         | (with_reducible refine And.intro (by omega) ?_)
         | fail)
        all_goals simp_all
      | true =>
        simp [c1, c2] at han
        cases my with
        | false =>
          repeat' (first 
           | (with_reducible first | refine awp_scope ?_ | refine awp_seq ?_ | refine awp_block ?_)
           | ((with_reducible first | refine awp_label ?_ | refine awp_skip ?_ | refine awp_exit ?_); try simp only [thenA, inBlockA, noGotoA, if_true, Nat.reduceEqDiff, if_false, ↓reduceIte])
           | ((with_reducible first | refine awp_reg 51 hX [1, 2, 22, 32, 50] ?_ | refine awp_drw 51 hX [1, 2, 22, 32, 50] Tab.mixed (by kernel_rfl) ?_ | refine DEv_cut _ _ _ _ _ _ _ _ _ _ _ _ (by kernel_rfl) ?_ | change postOf _ _ _ _ _); simp [-List.reduceReplicate, Nat.add_one_le_iff, -getElem?_pos, -getElem?_neg, iC, bC, kl, kg, kt, k0, k1, k2, k3, k4, k5, hl, ht, h0, ha, he, c1, c2, kv, ka, ha2, ka2])
           | ((first | (with_reducible refine awp_ret ?_; try simp only [thenA, inBlockA, noGotoA]) | (refine (p1 _).det ?_) | (refine ⟨_, _, p1 _, fun _ => rfl, ?_⟩) | (refine (p2 _).det ?_) | (refine ⟨_, _, p2 _, fun _ => rfl, ?_⟩) | (refine (p3 _).det ?_) | (refine ⟨_, _, p3 _, fun _ => rfl, ?_⟩) | (refine (p4 _).det ?_) | (refine ⟨_, _, p4 _, fun _ => rfl, ?_⟩)); try simp [-List.reduceReplicate, Nat.add_one_le_iff, -getElem?_pos, -getElem?_neg, iC, bC, kl, kg, kt, k0, k1, k2, k3, k4, k5, hl, ht, h0, ha, he, c1, c2, kv, ka, ha2, ka2])
           | (with_reducible refine awp_if_b rfl (fun hc => ?_) (fun hc => ?_) <;> (try simp [-getElem?_pos, -getElem?_neg] at hc) <;> (try (exfalso; omega)))
           | ((with_reducible first | refine GuardK_b (fun hc => ?_) (fun hc => ?_) | refine DGuard_b _ _ _ _ _ _ _ _ _ _ (fun hc => ?_) (fun hc => ?_)) <;> (try simp only [Bool.not_eq_true', Bool.not_eq_false', decide_eq_true_eq, decide_eq_false_iff_not] at hc) <;> (first | (exfalso; omega) | skip) <;> simp [-List.reduceReplicate, Nat.add_one_le_iff, -getElem?_pos, -getElem?_neg, iC, bC, kl, kg, kt, k0, k1, k2, k3, k4, k5, hl, ht, h0, ha, he, c1, c2, kv, ka, ha2, ka2, hc])
           | (with_reducible refine And.intro (by omega) ?_)
           | fail)
          all_goals simp_all
        | true =>
          repeat' (first 
           | (with_reducible first | refine awp_scope ?_ | refine awp_seq ?_ | refine awp_block ?_)
           | ((with_reducible first | refine awp_label ?_ | refine awp_skip ?_ | refine awp_exit ?_); try simp only [thenA, inBlockA, noGotoA, if_true, Nat.reduceEqDiff, if_false, ↓reduceIte])
           | ((with_reducible first | refine awp_reg 51 hX [1, 2, 22, 32, 50] ?_ | refine awp_drw 51 hX [1, 2, 22, 32, 50] Tab.mixed (by kernel_rfl) ?_ | refine DEv_cut _ _ _ _ _ _ _ _ _ _ _ _ (by kernel_rfl) ?_ | change postOf _ _ _ _ _); simp [-List.reduceReplicate, Nat.add_one_le_iff, -getElem?_pos, -getElem?_neg, iC, bC, kl, kg, kt, k0, k1, k2, k3, k4, k5, hl, ht, h0, ha, he, c1, c2, kv, ka, ha2, ka2])
           | ((first | (with_reducible refine awp_ret ?_; try simp only [thenA, inBlockA, noGotoA]) | (refine (p1 _).det ?_) | (refine ⟨_, _, p1 _, fun _ => rfl, ?_⟩) | (refine (p2 _).det ?_) | (refine ⟨_, _, p2 _, fun _ => rfl, ?_⟩) | (refine (p3 _).det ?_) | (refine ⟨_, _, p3 _, fun _ => rfl, ?_⟩) | (refine (p4 _).det ?_) | (refine ⟨_, _, p4 _, fun _ => rfl, ?_⟩)); try simp [-List.reduceReplicate, Nat.add_one_le_iff, -getElem?_pos, -getElem?_neg, iC, bC, kl, kg, kt, k0, k1, k2, k3, k4, k5, hl, ht, h0, ha, he, c1, c2, kv, ka, ha2, ka2])
           | (with_reducible refine awp_if_b rfl (fun hc => ?_) (fun hc => ?_) <;> (try simp [-getElem?_pos, -getElem?_neg] at hc) <;> (try (exfalso; omega)))
           | ((with_reducible first | refine GuardK_b (fun hc => ?_) (fun hc => ?_) | refine DGuard_b _ _ _ _ _ _ _ _ _ _ (fun hc => ?_) (fun hc => ?_)) <;> (try simp only [Bool.not_eq_true', Bool.not_eq_false', decide_eq_true_eq, decide_eq_false_iff_not] at hc) <;> (first | (exfalso; omega) | skip) <;> simp [-List.reduceReplicate, Nat.add_one_le_iff, -getElem?_pos, -getElem?_neg, iC, bC, kl, kg, kt, k0, k1, k2, k3, k4, k5, hl, ht, h0, ha, he, c1, c2, kv, ka, ha2, ka2, hc])
           | (with_reducible refine And.intro (by omega) ?_)
           | fail)
          all_goals simp_all
    · simp [c1, c2] at han
      repeat' (first 
       | (with_reducible first | refine awp_scope ?_ | refine awp_seq ?_ | refine awp_block ?_)
       | ((with_reducible first | refine awp_label ?_ | refine awp_skip ?_ | refine awp_exit ?_); try simp only [thenA, inBlockA, noGotoA, if_true, Nat.reduceEqDiff, if_false, ↓reduceIte])
       | ((with_reducible first | refine awp_reg 51 hX [1, 2, 22, 32, 50] ?_ | refine awp_drw 51 hX [1, 2, 22, 32, 50] Tab.mixed (by kernel_rfl) ?_ | refine DEv_cut _ _ _ _ _ _ _ _ _ _ _ _ (by kernel_rfl) ?_ | change postOf _ _ _ _ _); simp [-List.reduceReplicate, Nat.add_one_le_iff, -getElem?_pos, -getElem?_neg, iC, bC, kl, kg, kt, k0, k1, k2, k3, k4, k5, hl, ht, h0, ha, he, c1, c2, kv, ka, ha2, ka2])
       | ((first | (with_reducible refine awp_ret ?_; try simp only [thenA, inBlockA, noGotoA]) | (refine (p1 _).det ?_) | (refine ⟨_, _, p1 _, fun _ => rfl, ?_⟩) | (refine (p2 _).det ?_) | (refine ⟨_, _, p2 _, fun _ => rfl, ?_⟩) | (refine (p3 _).det ?_) | (refine ⟨_, _, p3 _, fun _ => rfl, ?_⟩) | (refine (p4 _).det ?_) | (refine ⟨_, _, p4 _, fun _ => rfl, ?_⟩)); try simp [-List.reduceReplicate, Nat.add_one_le_iff, -getElem?_pos, -getElem?_neg, iC, bC, kl, kg, kt, k0, k1, k2, k3, k4, k5, hl, ht, h0, ha, he, c1, c2, kv, ka, ha2, ka2])
       | (with_reducible refine awp_if_b rfl (fun hc => ?_) (fun hc => ?_) <;> (try simp [-getElem?_pos, -getElem?_neg] at hc) <;> (try (exfalso; omega)))
       | ((with_reducible first | refine GuardK_b (fun hc => ?_) (fun hc => ?_) | refine DGuard_b _ _ _ _ _ _ _ _ _ _ (fun hc => ?_) (fun hc => ?_)) <;> (try simp only [Bool.not_eq_true', Bool.not_eq_false', decide_eq_true_eq, decide_eq_false_iff_not] at hc) <;> (first | (exfalso; omega) | skip) <;> simp [-List.reduceReplicate, Nat.add_one_le_iff, -getElem?_pos, -getElem?_neg, iC, bC, kl, kg, kt, k0, k1, k2, k3, k4, k5, hl, ht, h0, ha, he, c1, c2, kv, ka, ha2, ka2, hc])
       | (with_reducible refine And.intro (by omega) ?_)
       | fail)
      all_goals simp_all
  · simp [c1] at han
    repeat' (first 
     | (with_reducible first | refine awp_scope ?_ | refine awp_seq ?_ | refine awp_block ?_)
     | ((with_reducible first | refine awp_label ?_ | refine awp_skip ?_ | refine awp_exit ?_); try simp only [thenA, inBlockA, noGotoA, if_true, Nat.reduceEqDiff, if_false, ↓reduceIte])
     | ((with_reducible first | refine awp_reg 51 hX [1, 2, 22, 32, 50] ?_ | refine awp_drw 51 hX [1, 2, 22, 32, 50] Tab.mixed (by kernel_rfl) ?_ | refine DEv_cut _ _ _ _ _ _ _ _ _ _ _ _ (by kernel_rfl) ?_ | change postOf _ _ _ _ _); simp [-List.reduceReplicate, Nat.add_one_le_iff, -getElem?_pos, -getElem?_neg, iC, bC, kl, kg, kt, k0, k1, k2, k3, k4, k5, hl, ht, h0, ha, he, c1, kv, ka, ha2, ka2])
     | ((first | (with_reducible refine awp_ret ?_; try simp only [thenA, inBlockA, noGotoA]) | (refine (p1 _).det ?_) | (refine ⟨_, _, p1 _, fun _ => rfl, ?_⟩) | (refine (p2 _).det ?_) | (refine ⟨_, _, p2 _, fun _ => rfl, ?_⟩) | (refine (p3 _).det ?_) | (refine ⟨_, _, p3 _, fun _ => rfl, ?_⟩) | (refine (p4 _).det ?_) | (refine ⟨_, _, p4 _, fun _ => rfl, ?_⟩)); try simp [-List.reduceReplicate, Nat.add_one_le_iff, -getElem?_pos, -getElem?_neg, iC, bC, kl, kg, kt, k0, k1, k2, k3, k4, k5, hl, ht, h0, ha, he, c1, kv, ka, ha2, ka2])
     | (with_reducible refine awp_if_b rfl (fun hc => ?_) (fun hc => ?_) <;> (try simp [-getElem?_pos, -getElem?_neg] at hc) <;> (try (exfalso; omega)))
     | ((with_reducible first | refine GuardK_b (fun hc => ?_) (fun hc => ?_) | refine DGuard_b _ _ _ _ _ _ _ _ _ _ (fun hc => ?_) (fun hc => ?_)) <;> (try simp only [Bool.not_eq_true', Bool.not_eq_false', decide_eq_true_eq, decide_eq_false_iff_not] at hc) <;> (first | (exfalso; omega) | skip) <;> simp [-List.reduceReplicate, Nat.add_one_le_iff, -getElem?_pos, -getElem?_neg, iC, bC, kl, kg, kt, k0, k1, k2, k3, k4, k5, hl, ht, h0, ha, he, c1, kv, ka, ha2, ka2, hc])
     | (with_reducible refine And.intro (by omega) ?_)
     | fail)
    all_goals simp_all
end Go.Av

set_option exponentiation.threshold 1000
set_option linter.unusedVariables false
set_option linter.unusedSimpArgs false
set_option maxRecDepth 100000
set_option maxHeartbeats 4000000
namespace Go.Av
open Go Go.Proofs Go.Proofs.YtpcnacknlgmmlaaGreat Go.RowKit
attribute [local simp] List.getElem?_cons_zero List.getElem?_cons_succ
/-! ### config.nums -/
attribute [local simp] Tryz.underlying9 Tryz.underlying3 Tryz.underlying4 Tryz.underlying30 Tryz.underlying24 Tryz.underlying27 Tryz.underlying29 Tryz.underlying61 Tryz.underlying64
def cfO (K : List C) : Ob := ⟨29, 1, false, 0, up K, none⟩
def numsL (i : Nat) : List M := [.mp i 0 98, .mp i 0 99, .mp i 0 100, .mp i 0 101, .mp i 0 102, .mp i 0 103]
theorem numsL_get (i k : Nat) (h : k < 6) : (numsL i)[k]? = some (.mp i 0 (98 + k)) := by
  match k, h with
  | 0, _ | 1, _ | 2, _ | 3, _ | 4, _ | 5, _ => rfl
def numsO (i : Nat) : Ob := ⟨64, 1, false, 0, numsL i, none⟩
theorem nums_den (i : Nat) (K : List C) (hK : K.length = 104) (ob : List Ob) (h : ob[i]? = some (cfO K)) : Den Tryz.prog 28 [.mp i 0 0] ob (fun r ob' => r = .ms ob.length 0 0 6 ∧ ob' = ob ++ [numsO i]) := by
  simp only [cfO] at h
  refine den_of Tryz.func28 rfl rfl (by simp [Tryz.ntmps28]) (fun X hX hO => ?_)
  rw [Tryz.ntmps28] at hX
  simp only [Tryz.results28]
  repeat' (first 
   | (with_reducible first | refine awp_scope ?_ | refine awp_seq ?_ | refine awp_block ?_)
   | ((with_reducible first | refine awp_label ?_ | refine awp_skip ?_ | refine awp_exit ?_); try simp only [thenA, inBlockA, noGotoA, if_true, Nat.reduceEqDiff, if_false, ↓reduceIte])
   | ((with_reducible first | refine awp_reg 22 hX [0, 2] ?_ | refine DEv_cut _ _ _ _ _ _ _ _ _ _ _ _ (by kernel_rfl) ?_ | change postOf _ _ _ _ _); simp [-List.reduceReplicate, Nat.add_one_le_iff, -getElem?_pos, -getElem?_neg, h, hK])
   | ((first | (with_reducible refine awp_ret ?_; try simp only [thenA, inBlockA, noGotoA])); try simp [-List.reduceReplicate, Nat.add_one_le_iff, -getElem?_pos, -getElem?_neg, h, hK])
   | (with_reducible refine awp_if_b rfl (fun hc => ?_) (fun hc => ?_) <;> (try simp [-getElem?_pos, -getElem?_neg] at hc) <;> (try (exfalso; omega)))
   | (with_reducible refine And.intro (by omega) ?_)
   | fail)
  refine awp_drwc (id := 1) 22 hX [0, 2] [18] Tab.mixed (by kernel_rfl) ?_
  simp [-List.reduceReplicate, -getElem?_pos, -getElem?_neg, List.getElem?_cons_zero, List.getElem?_cons_succ, h, hK]
  have hd : downs (((((((up (List.replicate 6 (C.v (Value.pointer none)))).set 0 (M.mp i 0 98)).set 1 (M.mp i 0 99)).set 2 (M.mp i 0 100)).set 3 (M.mp i 0 101)).set 4 (M.mp i 0 102)).set 5 (M.mp i 0 103)) = none := rfl
  rw [hd]
  simp only [rowM, newOb]
  refine DEv_cut _ _ _ _ _ _ _ _ _ _ _ _ (by kernel_rfl) ?_
  simp
  repeat' (first 
   | (with_reducible first | refine awp_scope ?_ | refine awp_seq ?_ | refine awp_block ?_)
   | ((with_reducible first | refine awp_label ?_ | refine awp_skip ?_ | refine awp_exit ?_); try simp only [thenA, inBlockA, noGotoA, if_true, Nat.reduceEqDiff, if_false, ↓reduceIte])
   | ((with_reducible first | refine awp_reg 22 hX [0, 2] ?_ | refine DEv_cut _ _ _ _ _ _ _ _ _ _ _ _ (by kernel_rfl) ?_ | change postOf _ _ _ _ _); simp [-List.reduceReplicate, Nat.add_one_le_iff, -getElem?_pos, -getElem?_neg, numsO, numsL])
   | ((first | (with_reducible refine awp_ret ?_; try simp only [thenA, inBlockA, noGotoA])); try simp [-List.reduceReplicate, Nat.add_one_le_iff, -getElem?_pos, -getElem?_neg, numsO, numsL])
   | (with_reducible refine awp_if_b rfl (fun hc => ?_) (fun hc => ?_) <;> (try simp [-getElem?_pos, -getElem?_neg] at hc) <;> (try (exfalso; omega)))
   | (with_reducible refine And.intro (by omega) ?_)
   | fail)
  all_goals rfl
end Go.Av

set_option exponentiation.threshold 1000
set_option linter.unusedVariables false
set_option linter.unusedSimpArgs false
set_option maxRecDepth 100000
set_option maxHeartbeats 4000000
namespace Go.Av
open Go Go.Proofs Go.Proofs.YtpcnacknlgmmlaaGreat Go.RowKit
attribute [local simp] List.getElem?_cons_zero List.getElem?_cons_succ
/-! ### config.Decode -/
attribute [local simp] Tryz.underlying9 Tryz.underlying3 Tryz.underlying4 Tryz.underlying30 Tryz.underlying24 Tryz.underlying27 Tryz.underlying29 Tryz.underlying61 Tryz.underlying64
def cfK (g : HD) (t : H32) (l : List Int) : List C := hdC g ++ (t.1.map bC8 ++ l.map iC)
theorem cfK_len (g : HD) (t : H32) (l : List Int) (hl : l.length = 6) : (cfK g t l).length = 104 := by simp [cfK, hdC_len, t.2, hl]
theorem cfK_set (g : HD) (t : H32) (l : List Int) (k : Nat) (x : Int) : (cfK g t l).set (98 + k) (iC x) = cfK g t (l.set k x) := by
  unfold cfK
  rw [List.set_append_right _ _ (by rw [hdC_len]; omega), hdC_len, List.set_append_right _ _ (by simp [t.2]; omega)]
  simp only [List.length_map, t.2, List.map_set]
  congr 3
  omega
theorem cfK_lay0 (g g2 : HD) (t : H32) (l : List Int) : lay (up (cfK g t l)) 0 (up (hdC g2)) = up (cfK g2 t l) := by
  rw [lay_app _ _ _ (by simp [up, cfK, hdC_len])]
  simp only [up, cfK, List.take_zero, List.nil_append, List.length_map, hdC_len, Nat.zero_add, List.map_append]
  rw [List.drop_left' (by simp [hdC_len])]
theorem cfK_lay1 (g : HD) (t t2 : H32) (l : List Int) : lay (up (cfK g t l)) 66 (up (t2.1.map bC8)) = up (cfK g t2 l) := by
  rw [lay_app _ _ _ (by simp [up, cfK, hdC_len, t.2, t2.2]; omega)]
  simp only [up, cfK, List.length_map, List.map_append, t2.2]
  rw [List.take_left' (by simp [hdC_len]), ← List.drop_drop, List.drop_left' (by simp [hdC_len]), List.drop_left' (by simp [t.2])]
def numsTo (c : Cu) : Nat → List Int × Cu
  | 0 => ([], c)
  | k + 1 => ((numsTo c k).1 ++ [((numC (numsTo c k).2 65536).1 : Int)], (numC (numsTo c k).2 65536).2)
theorem numsTo_len (c : Cu) (k : Nat) : (numsTo c k).1.length = k := by
  induction k with
  | zero => rfl
  | succ k ih => simp [numsTo, ih]
theorem numC_le (c : Cu) (most : Nat) : (numC c most).1 ≤ most ∧ (numC c most).2.b.size ≤ c.b.size := by
  unfold numC
  split
  · simp
  · split
    · simp [e0]; exact Nat.zero_le _
    · split
      · simp [e0]; exact Nat.zero_le _
      · rename_i h1 h2 h3
        refine ⟨by simp only; omega, ?_⟩
        simp only [ByteArray.size_extract]
        omega
theorem rawC_le (c : Cu) (n : Int) : (rawC c n).2.b.size ≤ c.b.size := by
  unfold rawC
  split
  · unfold failC
    split
    · simp only [e0]; exact Nat.zero_le _
    · exact Nat.le_refl _
  · unfold cutC
    split
    · exact Nat.le_refl _
    · split
      · simp only [e0]; exact Nat.zero_le _
      · simp only [ByteArray.size_extract]; omega
theorem numsTo_le (c : Cu) (k : Nat) : (numsTo c k).2.b.size ≤ c.b.size := by
  induction k with
  | zero => exact Nat.le_refl _
  | succ k ih => exact Nat.le_trans (numC_le _ _).2 ih
def padN (c : Cu) (k : Nat) : List Int := (numsTo c k).1 ++ List.replicate (6 - k) 0
theorem padN_len (c : Cu) (k : Nat) (h : k ≤ 6) : (padN c k).length = 6 := by simp [padN, numsTo_len]; omega
theorem padN_set (c : Cu) (k : Nat) (h : k < 6) : (padN c k).set k ((numC (numsTo c k).2 65536).1 : Int) = padN c (k + 1) := by
  unfold padN
  rw [List.set_append_right _ _ (by rw [numsTo_len]; omega), numsTo_len, Nat.sub_self, show 6 - k = (6 - (k + 1)) + 1 by omega, List.replicate_succ, List.set_cons_zero]
  simp [numsTo]
def cfOf (g : HD) (t : H32) (l : List Int) : CF := ⟨g, t, l.getD 0 0, l.getD 1 0, l.getD 2 0, l.getD 3 0, l.getD 4 0, l.getD 5 0⟩
theorem cfOf_C (g : HD) (t : H32) (l : List Int) (h : l.length = 6) : cfC (cfOf g t l) = cfK g t l := by
  match l, h with
  | [a, b, c, d, e, f], _ => rfl
def zCF : CF := ⟨H0, Z32, 0, 0, 0, 0, 0, 0⟩
/-- The configuration of bytes, and what is wrong first. -/
def decC (b : ByteArray) : CF × Int :=
  let h := headC ⟨b, 0⟩
  let t := hashC h.2
  let e := doneC (numsTo t.2 6).2
  let c := cfOf h.1 t.1 (padN t.2 6)
  if e ≠ 0 then (zCF, e) else if checkC c ≠ 0 then (zCF, checkC c) else (c, 0)
theorem getHD_ok (s : ByteArray) : HDok (getHD s) := ⟨takeN_lt s 0 4, takeN_u64 s 68 8 (by omega)⟩
theorem decode_den (b : ByteArray) (hb : b.size ≤ 9223372036854775807) : DenV Tryz.prog 6 [.c (sC b)] (.tup [cfM (decC b).1, .c (iC (decC b).2)]) := by
  refine Den.frame rfl (by simp [cfM, ltB, ltBs]) ?_
  have z0 : zeroT Tryz.prog 29 = some (up (cfK H0 Z32 [0, 0, 0, 0, 0, 0])) := by kernel_rfl
  have hdc : decC b = (let h := headC ⟨b, 0⟩; let t := hashC h.2; let e := doneC (numsTo t.2 6).2; let c := cfOf h.1 t.1 (padN t.2 6); if e ≠ 0 then (zCF, e) else if checkC c ≠ 0 then (zCF, checkC c) else (c, 0)) := rfl
  have p1 := read_den b [cfO (cfK H0 Z32 [0, 0, 0, 0, 0, 0])]
  have p2 := headGet_den 1 ⟨b, 0⟩ [cfO (cfK H0 Z32 [0, 0, 0, 0, 0, 0]), curO ⟨b, 0⟩] rfl (by simp [okCu, cfO, curO, up, ltB])
  have hok : HDok (headC ⟨b, 0⟩).1 := getHD_ok _
  have hs1 : (headC ⟨b, 0⟩).2.b.size ≤ b.size := rawC_le _ _
  generalize headC ⟨b, 0⟩ = h at *
  obtain ⟨g, c1⟩ := h
  have p3 := chash_den 1 c1 [cfO (cfK H0 Z32 [0, 0, 0, 0, 0, 0]), curO c1] rfl (by simp [okCu, cfO, curO, up, ltB])
  have hs2 : (hashC c1).2.b.size ≤ c1.b.size := rawC_le _ _
  simp only at *
  generalize hashC c1 = q at *
  obtain ⟨t, c2⟩ := q
  simp only at *
  simp only [List.set_cons_succ, List.set_cons_zero] at p2 p3
  have e1 := cfK_lay0 H0 g Z32 [0, 0, 0, 0, 0, 0]
  have e2 := cfK_lay1 g Z32 t [0, 0, 0, 0, 0, 0]
  have el0 := cfK_len H0 Z32 [0, 0, 0, 0, 0, 0] rfl
  have el1 := cfK_len g Z32 [0, 0, 0, 0, 0, 0] rfl
  have el2 := cfK_len g t [0, 0, 0, 0, 0, 0] rfl
  have gl := hdC_len g
  have tl : (t.1.map bC8).length = 32 := by simp [t.2]
  have p4 := nums_den 2 (cfK g t [0, 0, 0, 0, 0, 0]) el2 [cfO (cfK H0 Z32 [0, 0, 0, 0, 0, 0]), curO c2, cfO (cfK g t [0, 0, 0, 0, 0, 0])] rfl
  unfold hdM at p2
  unfold hashM at p3
  simp only [cfO, numsO, List.length_cons, List.length_nil, List.cons_append, List.nil_append] at p1 p2 p3 p4
  generalize hZ : cfK H0 Z32 [0, 0, 0, 0, 0, 0] = Z at *
  have hnl : (numsL 2).length = 6 := rfl
  have hng := numsL_get 2
  generalize numsL 2 = NL at *
  have hp0 : padN c2 0 = [0, 0, 0, 0, 0, 0] := rfl
  refine den_of Tryz.func6 rfl rfl (by simp [Tryz.ntmps6]) (fun X hX hO => ?_)
  rw [Tryz.ntmps6] at hX
  simp only [Tryz.results6]
  repeat' (first 
   | (with_reducible first | refine awp_scope ?_ | refine awp_seq ?_ | refine awp_block ?_)
   | ((with_reducible first | refine awp_label ?_ | refine awp_skip ?_ | refine awp_exit ?_ | refine hother _ _ rfl ?_); try simp only [thenA, inBlockA, noGotoA, if_true, Nat.reduceEqDiff, if_false, ↓reduceIte])
   | ((with_reducible first | refine awp_reg 42 hX [0, 2, 3, 4, 5, 7, 8, 9, 17, 18, 19, 20, 32, 38] ?_ | change postOf _ _ _ _ _); simp [-List.reduceReplicate, Nat.add_one_le_iff, -getElem?_pos, -getElem?_neg, sC, z0, -Tab.zero29, e1, e2, el0, el1, el2, gl, tl, hnl])
   | ((first | (with_reducible refine awp_ret ?_; try simp only [thenA, inBlockA, noGotoA]) | (refine (p1).det ?_) | (refine (p2).det ?_) | (refine (p3).det ?_) | (refine (p4).det ?_)); try simp [-List.reduceReplicate, Nat.add_one_le_iff, -getElem?_pos, -getElem?_neg, sC, z0, -Tab.zero29, e1, e2, el0, el1, el2, gl, tl, hnl])
   | (with_reducible refine awp_if_b rfl (fun hc => ?_) (fun hc => ?_) <;> (try simp [-getElem?_pos, -getElem?_neg] at hc) <;> (try (exfalso; omega)))
   | (with_reducible refine And.intro (by omega) ?_)
   | fail)
  refine awp_forU [2, 4, 5, 17, 18, 19] (fun k (_u : Unit) => [(19, .c (iC k))]) (fun k (_u : Unit) => [⟨29, 1, false, 0, up Z, none⟩, curO (numsTo c2 k).2, ⟨29, 1, false, 0, up (cfK g t (padN c2 k)), none⟩, ⟨64, 1, false, 0, NL, none⟩]) (fun k (_u : Unit) => True) (6) (()) (by first | trivial | (simp; done) | omega | (intros; simp at *; done)) (by simp [-List.reduceReplicate, keep, iC, hp0, numsTo]) (by simp [-List.reduceReplicate, iC, hp0, numsTo]) ?_
  rintro k _u Q1 hi hH next hother
  conv => arg 5; arg 1; simp only [List.cons_append, List.nil_append, keep, get, Nat.reduceEqDiff, if_true, if_false, ↓reduceIte]
  have hwk := wrap_in ((k : Int) + 1) (by omega)
  by_cases hlt : k < 6
  · have hpl := padN_len c2 k (by omega)
    have hps := padN_set c2 k hlt
    have hks := cfK_set g t (padN c2 k) k ((numC (numsTo c2 k).2 65536).1 : Int)
    have hkl := cfK_len g t (padN c2 k) hpl
    rw [hps] at hks
    have hnn : (numsTo c2 (k + 1)).2 = (numC (numsTo c2 k).2 65536).2 := rfl
    have hsz := numsTo_le c2 k
    have hq := Num_den 1 (numsTo c2 k).2 65536 (by omega) [⟨29, 1, false, 0, up Z, none⟩, curO (numsTo c2 k).2, ⟨29, 1, false, 0, up (cfK g t (padN c2 k)), none⟩, ⟨64, 1, false, 0, NL, none⟩] rfl
    simp only [List.set_cons_succ, List.set_cons_zero] at hq
    have hle := (numC_le (numsTo c2 k).2 65536).1
    have hg := hng k hlt
    rw [hnn.symm] at hq
    generalize (numC (numsTo c2 k).2 65536).1 = x at *
    have hwx := wrapI64 (x : Int) (by omega)
    have h3 : (k : Int) < 6 := by omega
    have h4 : 98 + k < 104 := by omega
    have h5 : (k : Int) ≤ 5 := by omega
    have h6 : k ≤ 5 := by omega
    unfold iC at hks
    generalize numsTo c2 (k + 1) = n2 at *
    generalize numsTo c2 k = n1 at *
    repeat' (first 
     | (with_reducible first | refine awp_scope ?_ | refine awp_seq ?_ | refine awp_block ?_)
     | ((with_reducible first | refine awp_label ?_ | refine awp_skip ?_ | refine awp_exit ?_ | refine hother _ _ rfl ?_); try simp only [thenA, inBlockA, noGotoA, if_true, Nat.reduceEqDiff, if_false, ↓reduceIte])
     | ((with_reducible first | refine awp_reg 42 hX [0, 2, 3, 4, 5, 7, 8, 9, 17, 18, 19, 20, 32, 38] ?_ | change postOf _ _ _ _ _); simp [-List.reduceReplicate, Nat.add_one_le_iff, -getElem?_pos, -getElem?_neg, iC, u64C, hlt, h3, h4, h5, h6, hwk, hwx, hnl, hg, hks, hkl])
     | ((first | (with_reducible refine awp_ret ?_; try simp only [thenA, inBlockA, noGotoA]) | (refine (hq).det ?_)); try simp [-List.reduceReplicate, Nat.add_one_le_iff, -getElem?_pos, -getElem?_neg, iC, u64C, hlt, h3, h4, h5, h6, hwk, hwx, hnl, hg, hks, hkl])
     | (with_reducible refine awp_if_b rfl (fun hc => ?_) (fun hc => ?_) <;> (try simp [-getElem?_pos, -getElem?_neg] at hc) <;> (try (exfalso; omega)))
     | (with_reducible refine And.intro (by omega) ?_)
     | fail)
    refine next _ _ (()) (by omega) (by first | trivial | omega | assumption) (by simp [-List.reduceReplicate, keep, iC]) (by simp [-List.reduceReplicate, iC])
  · obtain rfl : k = 6 := by omega
    have hexit := hother; clear next hother
    have hpl := padN_len c2 6 (by omega)
    have hkl := cfK_len g t (padN c2 6) hpl
    have hkc := cfOf_C g t (padN c2 6) hpl
    have q1 := Done_den 1 (numsTo c2 6).2 [⟨29, 1, false, 0, up Z, none⟩, curO (numsTo c2 6).2, ⟨29, 1, false, 0, up (cfK g t (padN c2 6)), none⟩, ⟨64, 1, false, 0, NL, none⟩] rfl
    have q2 := check_den (cfOf g t (padN c2 6)) hok
    have hzt : Z.take 104 = Z := List.take_of_length_le (by omega)
    have hkt : (cfK g t (padN c2 6)).take 104 = cfK g t (padN c2 6) := List.take_of_length_le (by omega)
    have hzc : cfC zCF = Z := by rw [← hZ]; rfl
    unfold cfM at q2 hexit
    rw [hkc] at q2
    rw [hdc] at hexit
    clear hdc
    generalize doneC (numsTo c2 6).2 = e at *
    generalize checkC (cfOf g t (padN c2 6)) = e2 at *
    generalize hcf : cfOf g t (padN c2 6) = cf at *
    generalize cfK g t (padN c2 6) = K at *
    generalize (numsTo c2 6).2 = n1 at *
    repeat' (first 
     | (with_reducible first | refine awp_scope ?_ | refine awp_seq ?_ | refine awp_block ?_)
     | ((with_reducible first | refine awp_label ?_ | refine awp_skip ?_ | refine awp_exit ?_ | refine hother _ _ rfl ?_); try simp only [thenA, inBlockA, noGotoA, if_true, Nat.reduceEqDiff, if_false, ↓reduceIte])
     | ((with_reducible first | refine awp_reg 42 hX [0, 2, 3, 4, 5, 7, 8, 9, 17, 18, 19, 20, 32, 38] ?_ | change postOf _ _ _ _ _); simp [-List.reduceReplicate, Nat.add_one_le_iff, -getElem?_pos, -getElem?_neg, iC])
     | ((first | (with_reducible refine awp_ret ?_; try simp only [thenA, inBlockA, noGotoA])); try simp [-List.reduceReplicate, Nat.add_one_le_iff, -getElem?_pos, -getElem?_neg, iC])
     | (with_reducible refine awp_if_b rfl (fun hc => ?_) (fun hc => ?_) <;> (try simp [-getElem?_pos, -getElem?_neg] at hc) <;> (try (exfalso; omega)))
     | (with_reducible refine And.intro (by omega) ?_)
     | fail)
    refine hexit _ _ rfl ?_
    simp only [inBlockA, thenA, ↓reduceIte]
    clear hexit
    by_cases h1 : e = 0
    · by_cases h2 : e2 = 0
      · repeat' (first 
         | (with_reducible first | refine awp_scope ?_ | refine awp_seq ?_ | refine awp_block ?_)
         | ((with_reducible first | refine awp_label ?_ | refine awp_skip ?_ | refine awp_exit ?_ | refine hother _ _ rfl ?_); try simp only [thenA, inBlockA, noGotoA, if_true, Nat.reduceEqDiff, if_false, ↓reduceIte])
         | ((with_reducible first | refine awp_reg 42 hX [0, 2, 3, 4, 5, 7, 8, 9, 17, 18, 19, 20, 32, 38] ?_ | change postOf _ _ _ _ _); simp [-List.reduceReplicate, Nat.add_one_le_iff, -getElem?_pos, -getElem?_neg, iC, h1, h2, z0, -Tab.zero29, hzt, hkt, hkl, el0])
         | ((first | (with_reducible refine awp_ret ?_; try simp only [thenA, inBlockA, noGotoA]) | (refine (q1).det ?_) | (refine (q2 _).det ?_)); try simp [-List.reduceReplicate, Nat.add_one_le_iff, -getElem?_pos, -getElem?_neg, iC, h1, h2, z0, -Tab.zero29, hzt, hkt, hkl, el0])
         | (with_reducible refine awp_if_b rfl (fun hc => ?_) (fun hc => ?_) <;> (try simp [-getElem?_pos, -getElem?_neg] at hc) <;> (try (exfalso; omega)))
         | (with_reducible refine And.intro (by omega) ?_)
         | fail)
        all_goals simp [h1, h2, hkc]
      · repeat' (first 
         | (with_reducible first | refine awp_scope ?_ | refine awp_seq ?_ | refine awp_block ?_)
         | ((with_reducible first | refine awp_label ?_ | refine awp_skip ?_ | refine awp_exit ?_ | refine hother _ _ rfl ?_); try simp only [thenA, inBlockA, noGotoA, if_true, Nat.reduceEqDiff, if_false, ↓reduceIte])
         | ((with_reducible first | refine awp_reg 42 hX [0, 2, 3, 4, 5, 7, 8, 9, 17, 18, 19, 20, 32, 38] ?_ | change postOf _ _ _ _ _); simp [-List.reduceReplicate, Nat.add_one_le_iff, -getElem?_pos, -getElem?_neg, iC, h1, h2, z0, -Tab.zero29, hzt, hkt, hkl, el0])
         | ((first | (with_reducible refine awp_ret ?_; try simp only [thenA, inBlockA, noGotoA]) | (refine (q1).det ?_) | (refine (q2 _).det ?_)); try simp [-List.reduceReplicate, Nat.add_one_le_iff, -getElem?_pos, -getElem?_neg, iC, h1, h2, z0, -Tab.zero29, hzt, hkt, hkl, el0])
         | (with_reducible refine awp_if_b rfl (fun hc => ?_) (fun hc => ?_) <;> (try simp [-getElem?_pos, -getElem?_neg] at hc) <;> (try (exfalso; omega)))
         | (with_reducible refine And.intro (by omega) ?_)
         | fail)
        all_goals simp [h1, h2, hzc]
    · repeat' (first 
       | (with_reducible first | refine awp_scope ?_ | refine awp_seq ?_ | refine awp_block ?_)
       | ((with_reducible first | refine awp_label ?_ | refine awp_skip ?_ | refine awp_exit ?_ | refine hother _ _ rfl ?_); try simp only [thenA, inBlockA, noGotoA, if_true, Nat.reduceEqDiff, if_false, ↓reduceIte])
       | ((with_reducible first | refine awp_reg 42 hX [0, 2, 3, 4, 5, 7, 8, 9, 17, 18, 19, 20, 32, 38] ?_ | change postOf _ _ _ _ _); simp [-List.reduceReplicate, Nat.add_one_le_iff, -getElem?_pos, -getElem?_neg, iC, h1, z0, -Tab.zero29, hzt, hkt, hkl, el0])
       | ((first | (with_reducible refine awp_ret ?_; try simp only [thenA, inBlockA, noGotoA]) | (refine (q1).det ?_) | (refine (q2 _).det ?_)); try simp [-List.reduceReplicate, Nat.add_one_le_iff, -getElem?_pos, -getElem?_neg, iC, h1, z0, -Tab.zero29, hzt, hkt, hkl, el0])
       | (with_reducible refine awp_if_b rfl (fun hc => ?_) (fun hc => ?_) <;> (try simp [-getElem?_pos, -getElem?_neg] at hc) <;> (try (exfalso; omega)))
       | (with_reducible refine And.intro (by omega) ?_)
       | fail)
      all_goals simp [h1, hzc]
end Go.Av

set_option exponentiation.threshold 1000
set_option linter.unusedVariables false
set_option linter.unusedSimpArgs false
set_option maxRecDepth 100000
set_option maxHeartbeats 4000000
namespace Go.Av
open Go Go.Proofs Go.Proofs.YtpcnacknlgmmlaaGreat Go.RowKit
attribute [local simp] List.getElem?_cons_zero List.getElem?_cons_succ
/-! ### milepostref52.DecodeConfig -/
attribute [local simp] Tryz.underlying9 Tryz.underlying3 Tryz.underlying4 Tryz.underlying30 Tryz.underlying24 Tryz.underlying27 Tryz.underlying29 Tryz.underlying73
def cO8 (c : Cu) : Ob := ⟨68, 2, false, 0, up (cuC c), none⟩
end Go.Av

set_option exponentiation.threshold 1000
set_option linter.unusedVariables false
set_option linter.unusedSimpArgs false
set_option maxRecDepth 100000
set_option maxHeartbeats 4000000
namespace Go.Av
open Go Go.Proofs Go.Proofs.YtpcnacknlgmmlaaGreat Go.RowKit
attribute [local simp] List.getElem?_cons_zero List.getElem?_cons_succ
theorem HD.ext' (a b : HD) : a = b ↔ a.v = b.v ∧ a.a.1 = b.a.1 ∧ a.b.1 = b.b.1 ∧ a.n = b.n := by
  obtain ⟨v, ⟨x, hx⟩, ⟨y, hy⟩, n⟩ := a
  obtain ⟨v', ⟨x', hx'⟩, ⟨y', hy'⟩, n'⟩ := b
  simp
instance : DecidableEq HD := fun a b => decidable_of_iff _ (HD.ext' a b).symm
end Go.Av

set_option exponentiation.threshold 1000
set_option linter.unusedVariables false
set_option linter.unusedSimpArgs false
set_option maxRecDepth 100000
set_option maxHeartbeats 4000000
namespace Go.Av
open Go Go.Proofs Go.Proofs.YtpcnacknlgmmlaaGreat Go.RowKit
attribute [local simp] List.getElem?_cons_zero List.getElem?_cons_succ
/-! ### ConfigDecodes -/
attribute [local simp] Tryz.underlying9 Tryz.underlying3 Tryz.underlying4 Tryz.underlying30 Tryz.underlying29
theorem check_zero : checkC zCF = 7 := by
  have h : zCF.g.a.1 ≠ rootNil := by
    show List.replicate 32 0 ≠ shaL (bsS (rootT 0 z32))
    decide +kernel
  have : anchC zCF = true := by unfold anchC; simp [h]
  simp [checkC, this]
theorem dec_empty : decC e0 = (zCF, 1) := rfl
theorem awake52_den : DenV Tryz.prog 8 [] (.c (bC true)) := by
  refine Den.frame rfl rfl ?_
  have z0 : zeroT Tryz.prog 29 = some (up (cfC zCF)) := by kernel_rfl
  have p1 := decode_den e0 (by simp only [e0]; exact Nat.zero_le _)
  rw [dec_empty] at p1
  have p2 := check_den zCF ⟨by decide, by decide⟩
  rw [check_zero] at p2
  have hl := cfC_len zCF
  unfold cfM at p1 p2
  generalize cfC zCF = Z at *
  refine den_of Tryz.func8 rfl rfl (by simp [Tryz.ntmps8]) (fun X hX hO => ?_)
  rw [Tryz.ntmps8] at hX
  simp only [Tryz.results8]
  repeat' (first 
   | (with_reducible first | refine awp_scope ?_ | refine awp_seq ?_ | refine awp_block ?_)
   | ((with_reducible first | refine awp_label ?_ | refine awp_skip ?_ | refine awp_exit ?_); try simp only [thenA, inBlockA, noGotoA, if_true, Nat.reduceEqDiff, if_false, ↓reduceIte])
   | ((with_reducible first | refine awp_reg 14 hX [0, 2] ?_ | change postOf _ _ _ _ _); simp [-List.reduceReplicate, Nat.add_one_le_iff, -getElem?_pos, -getElem?_neg, iC, bC, sC, z0, -Tab.zero29, hl, mk_e0, mk_e1])
   | ((first | (with_reducible refine awp_ret ?_; try simp only [thenA, inBlockA, noGotoA]) | (refine (p1 _).det ?_) | (refine (p2 _).det ?_)); try simp [-List.reduceReplicate, Nat.add_one_le_iff, -getElem?_pos, -getElem?_neg, iC, bC, sC, z0, -Tab.zero29, hl, mk_e0, mk_e1])
   | (with_reducible refine awp_if_b rfl (fun hc => ?_) (fun hc => ?_) <;> (try simp [-getElem?_pos, -getElem?_neg] at hc) <;> (try (exfalso; omega)))
   | ((with_reducible first | refine GuardK_b (fun hc => ?_) (fun hc => ?_)) <;> (try simp only [Bool.not_eq_true', Bool.not_eq_false', decide_eq_true_eq, decide_eq_false_iff_not] at hc) <;> (first | (exfalso; omega) | skip) <;> simp [-List.reduceReplicate, Nat.add_one_le_iff, -getElem?_pos, -getElem?_neg, iC, bC, sC, z0, -Tab.zero29, hl, mk_e0, mk_e1, hc])
   | (with_reducible refine And.intro (by omega) ?_)
   | fail)
end Go.Av

set_option linter.unusedVariables false
set_option linter.unusedSimpArgs false
namespace Go.Av
open Go Go.Proofs Go.Proofs.YtpcnacknlgmmlaaGreat
attribute [local simp] List.getElem?_cons_zero List.getElem?_cons_succ
attribute [local simp] Tryz.underlying125 Tryz.underlying127 Tryz.underlying117 Tryz.underlying5 Tryz.underlying182 Tryz.underlying3 Tryz.underlying9 Tryz.underlying4
def u8C (n : Int) : C := .v (.int .u8 n)
def sC' (s : ByteArray) : C := .v (.string s)
theorem noEscape_den (m : M) (ob : List Ob) : Den Tryz.prog 138 [m] ob (fun r ob' => r = m ∧ ob' = ob) := den_same Tryz.func138 (by kernel_rfl) (by kernel_rfl) (by kernel_rfl) (by kernel_rfl)
/-- A builder and its bytes. -/
def bldO (g : Nat) (a : M) (i j n : Nat) : Ob := ⟨127, 2, false, g, [a, .ms i j 0 n], none⟩
def strI (xs : List Int) : ByteArray := ⟨(xs.map fun n => UInt8.ofNat n.toNat).toArray⟩
end Go.Av

set_option exponentiation.threshold 1000
set_option linter.unusedVariables false
set_option linter.unusedSimpArgs false
set_option maxRecDepth 100000
set_option maxHeartbeats 4000000
namespace Go.Av
open Go Go.Proofs Go.Proofs.YtpcnacknlgmmlaaGreat Go.RowKit
attribute [local simp] List.getElem?_cons_zero List.getElem?_cons_succ
/-! ### buf: bytes put one behind the other -/
attribute [local simp] Tryz.underlying125 Tryz.underlying127 Tryz.underlying117 Tryz.underlying5 Tryz.underlying182 Tryz.underlying3 Tryz.underlying9 Tryz.underlying4 Tryz.underlying39 Tryz.underlying129 Tryz.underlying77 Tryz.underlying24 Tryz.underlying52
structure Bf where
  w : Bool
  g : Nat
  nl : Bool
  b : ByteArray
def addrM (i : Nat) (w : Bool) : M := if w then .mp i 0 0 else .c (.v (.pointer none))
def bufO (i : Nat) (s : Bf) : Ob := ⟨129, 2, false, 0, [addrM i s.w, .ms (i + 1) s.g 0 s.b.size], none⟩
def bytsC (b : ByteArray) : List C := b.data.toList.map bC8
def bytO (s : Bf) : Ob := ⟨5, 1, s.nl, s.g, up (bytsC s.b), none⟩
theorem bytsC_len (b : ByteArray) : (bytsC b).length = b.size := by unfold bytsC; rw [List.length_map, Array.length_toList]; rfl
theorem bytsC_app (a b : ByteArray) : bytsC (a ++ b) = bytsC a ++ bytsC b := by simp [bytsC]
theorem copyCheckB_den (i g : Nat) (w nl : Bool) (n : Nat) (ob : List Ob) (h : ob[i]? = some ⟨129, 2, nl, 0, [addrM i w, .ms (i + 1) g 0 n], none⟩) (hnl : nl = false) : Den Tryz.prog 109 [.mp i 0 0] ob (fun r ob' => r = .tup [] ∧ ob' = ob.set i ⟨129, 2, false, 0, [.mp i 0 0, .ms (i + 1) g 0 n], none⟩) := by
  subst hnl
  have hs := set_same ob i _ h
  refine den_of Tryz.func109 rfl rfl (by simp [Tryz.ntmps109]) (fun X hX hO => ?_)
  rw [Tryz.ntmps109] at hX
  simp only [Tryz.results109]
  cases w with
  | false =>
    simp only [addrM, Bool.false_eq_true, if_false] at h hs
    have hht : headOf Tryz.prog 129 127 = true := by kernel_rfl
    repeat' (first 
     | (with_reducible first | refine awp_scope ?_ | refine awp_seq ?_ | refine awp_block ?_)
     | ((with_reducible first | refine awp_label ?_ | refine awp_skip ?_ | refine awp_exit ?_); try simp only [thenA, inBlockA, noGotoA, if_true, Nat.reduceEqDiff, if_false, ↓reduceIte])
     | ((with_reducible first | refine awp_reg 20 hX [0, 6, 19] ?_ | change postOf _ _ _ _ _); simp [-List.reduceReplicate, Nat.add_one_le_iff, -getElem?_pos, -getElem?_neg, h, hht])
     | ((first | (with_reducible refine awp_ret ?_; try simp only [thenA, inBlockA, noGotoA]) | ((with_reducible refine Den.at_ (f := 138) ?_); refine (noEscape_den _ _).det ?_)); try simp [-List.reduceReplicate, Nat.add_one_le_iff, -getElem?_pos, -getElem?_neg, h, hht])
     | (with_reducible refine awp_if_b rfl (fun hc => ?_) (fun hc => ?_) <;> (try simp [-getElem?_pos, -getElem?_neg] at hc) <;> (try (exfalso; omega)))
     | (with_reducible refine And.intro (by omega) ?_)
     | fail)
  | true =>
    simp only [addrM, if_true] at h hs
    repeat' (first 
     | (with_reducible first | refine awp_scope ?_ | refine awp_seq ?_ | refine awp_block ?_)
     | ((with_reducible first | refine awp_label ?_ | refine awp_skip ?_ | refine awp_exit ?_); try simp only [thenA, inBlockA, noGotoA, if_true, Nat.reduceEqDiff, if_false, ↓reduceIte])
     | ((with_reducible first | refine awp_reg 20 hX [0, 6, 19] ?_ | change postOf _ _ _ _ _); simp [-List.reduceReplicate, Nat.add_one_le_iff, -getElem?_pos, -getElem?_neg, h, hs])
     | ((first | (with_reducible refine awp_ret ?_; try simp only [thenA, inBlockA, noGotoA]) | ((with_reducible refine Den.at_ (f := 138) ?_); refine (noEscape_den _ _).det ?_)); try simp [-List.reduceReplicate, Nat.add_one_le_iff, -getElem?_pos, -getElem?_neg, h, hs])
     | (with_reducible refine awp_if_b rfl (fun hc => ?_) (fun hc => ?_) <;> (try simp [-getElem?_pos, -getElem?_neg] at hc) <;> (try (exfalso; omega)))
     | (with_reducible refine And.intro (by omega) ?_)
     | fail)
def wB (s : Bf) (t : ByteArray) : Bf := ⟨true, s.g + 1, s.nl && t.size == 0, s.b ++ t⟩
theorem writeString_den (i : Nat) (s : Bf) (t : ByteArray) (ob : List Ob) (h1 : ob[i]? = some (bufO i s)) (h2 : ob[i + 1]? = some (bytO s)) (hz : s.b.size + t.size ≤ 140737488355327) :
    Den Tryz.prog 76 [.mp i 0 0, .c (sC t)] ob (fun r ob' => r = .tup [.c (iC t.size), .c (.v .nilIface)] ∧ ob' = (ob.set i (bufO i (wB s t))).set (i + 1) (bytO (wB s t))) := by
  have c1 := copyCheckB_den i s.g s.w false s.b.size ob h1 rfl
  obtain ⟨w, g, nl, b⟩ := s
  simp only [bufO, bytO] at h1 h2 c1
  have hbl := bytsC_len b
  have hap := bytsC_app b t
  have hsz : (b ++ t).size = b.size + t.size := ByteArray.size_append
  have g1 := get_set ob i _ h1
  have g2 : ∀ x, (ob.set i x)[i + 1]? = ob[i + 1]? := fun x => by rw [List.getElem?_set_ne (by omega)]
  have g3 : ∀ x y, ((ob.set i x).set (i + 1) y)[i]? = some x := fun x y => by rw [List.getElem?_set_ne (by omega), g1]
  have ss : ∀ x y z, ((ob.set i x).set (i + 1) y).set i z = (ob.set i z).set (i + 1) y := fun x y z => by rw [List.set_comm _ _ (by omega), List.set_set]
  simp only at hz
  refine den_of Tryz.func76 rfl rfl (by simp [Tryz.ntmps76]) (fun X hX hO => ?_)
  rw [Tryz.ntmps76] at hX
  simp only [Tryz.results76]
  have hrm : b.size + t.size ≤ 140737488355328 := by omega
  have hll : t.toList.length = t.size := by rw [toList_data, Array.length_toList]; rfl
  have hbt : (t.toList.map fun b => C.v (Value.int .u8 (b.toNat : Int))) = bytsC t := by rw [toList_data]; rfl
  repeat' (first 
   | (with_reducible first | refine awp_scope ?_ | refine awp_seq ?_ | refine awp_block ?_)
   | ((with_reducible first | refine awp_label ?_ | refine awp_skip ?_ | refine awp_exit ?_); try simp only [thenA, inBlockA, noGotoA, if_true, Nat.reduceEqDiff, if_false, ↓reduceIte])
   | ((with_reducible first | refine awp_reg 19 hX [0, 1, 4, 5] ?_ | change postOf _ _ _ _ _); simp [-List.reduceReplicate, Nat.add_one_le_iff, -getElem?_pos, -getElem?_neg, sC, h1, h2, g1, g2, g3, ss, hbl, roomB, hrm, hll, hbt, bufO, bytO, wB, hsz, hap, addrM, iC])
   | ((first | (with_reducible refine awp_ret ?_; try simp only [thenA, inBlockA, noGotoA]) | (refine (c1).det ?_)); try simp [-List.reduceReplicate, Nat.add_one_le_iff, -getElem?_pos, -getElem?_neg, sC, h1, h2, g1, g2, g3, ss, hbl, roomB, hrm, hll, hbt, bufO, bytO, wB, hsz, hap, addrM, iC])
   | (with_reducible refine awp_if_b rfl (fun hc => ?_) (fun hc => ?_) <;> (try simp [-getElem?_pos, -getElem?_neg] at hc) <;> (try (exfalso; omega)))
   | (with_reducible refine And.intro (by omega) ?_)
   | fail)
def wsB (s : Bf) : List ByteArray → Bf
  | [] => s
  | t :: l => wsB (wB s t) l
def catB (l : List ByteArray) : ByteArray := l.foldr (· ++ ·) e0
def totB : List ByteArray → Nat
  | [] => 0
  | t :: l => t.size + totB l
theorem wsB_take (s : Bf) (l : List ByteArray) (i : Nat) (t : ByteArray) (h : l[i]? = some t) : wsB s (l.take (i + 1)) = wB (wsB s (l.take i)) t := by
  induction l generalizing s i with
  | nil => simp at h
  | cons x l ih =>
    cases i with
    | zero => simp at h; subst h; rfl
    | succ i => simp at h; simpa [wsB] using ih (wB s x) i h
theorem wsB_size (s : Bf) (l : List ByteArray) : (wsB s l).b.size = s.b.size + totB l := by
  induction l generalizing s with
  | nil => rfl
  | cons x l ih => rw [wsB, ih, wB, totB]; simp only [ByteArray.size_append]; omega
theorem totB_take (l : List ByteArray) (i : Nat) (t : ByteArray) (h : l[i]? = some t) : totB (l.take i) + t.size ≤ totB l := by
  induction l generalizing i with
  | nil => simp at h
  | cons x l ih =>
    cases i with
    | zero => simp at h; subst h; simp [totB]
    | succ i => simp at h; have := ih i h; simp [totB]; omega
theorem bufNew_den (ob : List Ob) : Den Tryz.prog 35 [] ob (fun r ob' => r = .mp ob.length 0 0 ∧ ob' = ob ++ [bufO ob.length ⟨false, 0, true, e0⟩, bytO ⟨false, 0, true, e0⟩]) := by
  refine den_of Tryz.func35 rfl rfl (by simp [Tryz.ntmps35]) (fun X hX hO => ?_)
  rw [Tryz.ntmps35] at hX
  simp only [Tryz.results35]
  repeat' (first 
   | (with_reducible first | refine awp_scope ?_ | refine awp_seq ?_ | refine awp_block ?_)
   | ((with_reducible first | refine awp_label ?_ | refine awp_skip ?_ | refine awp_exit ?_); try simp only [thenA, inBlockA, noGotoA, if_true, Nat.reduceEqDiff, if_false, ↓reduceIte])
   | ((with_reducible first | refine awp_reg 3 hX [0] ?_ | change postOf _ _ _ _ _); simp [-List.reduceReplicate, Nat.add_one_le_iff, -getElem?_pos, -getElem?_neg, bufO, bytO])
   | (with_reducible refine awp_if_b rfl (fun hc => ?_) (fun hc => ?_) <;> (try simp [-getElem?_pos, -getElem?_neg] at hc) <;> (try (exfalso; omega)))
   | (with_reducible refine And.intro (by omega) ?_)
   | fail)
  refine awp_nilc ob.length 1 ⟨129, 2, false, 0, [.c (.v (.pointer none)), .c (.v (.slice none 0 0))], none⟩ 5 1 (by simp) rfl rfl rfl ?_
  simp
  repeat' (first 
   | (with_reducible first | refine awp_scope ?_ | refine awp_seq ?_ | refine awp_block ?_)
   | ((with_reducible first | refine awp_label ?_ | refine awp_skip ?_ | refine awp_exit ?_); try simp only [thenA, inBlockA, noGotoA, if_true, Nat.reduceEqDiff, if_false, ↓reduceIte])
   | ((with_reducible first | refine awp_reg 3 hX [0] ?_ | change postOf _ _ _ _ _); simp [-List.reduceReplicate, Nat.add_one_le_iff, -getElem?_pos, -getElem?_neg, bufO, bytO, addrM])
   | ((first | (with_reducible refine awp_ret ?_; try simp only [thenA, inBlockA, noGotoA])); try simp [-List.reduceReplicate, Nat.add_one_le_iff, -getElem?_pos, -getElem?_neg, bufO, bytO, addrM])
   | (with_reducible refine awp_if_b rfl (fun hc => ?_) (fun hc => ?_) <;> (try simp [-getElem?_pos, -getElem?_neg] at hc) <;> (try (exfalso; omega)))
   | (with_reducible refine And.intro (by omega) ?_)
   | fail)
  all_goals exact ⟨rfl, rfl⟩
theorem bufRaw_den (i : Nat) (s : Bf) (l : List ByteArray) (full : Bool) (ob : List Ob) (h1 : ob[i]? = some (bufO i s)) (h2 : ob[i + 1]? = some (bytO s)) (hz : s.b.size + totB l ≤ 140737488355327) (hN : l.length ≤ 1000000) :
    Den Tryz.prog 36 [.mp i 0 0, .c (.sl (l.map fun s => .v (.string s)) l.length full)] ob (fun r ob' => r = .tup [] ∧ ob' = (ob.set i (bufO i (wsB s l))).set (i + 1) (bytO (wsB s l))) := by
  have hs1 := set_same ob i _ h1
  have hs2 := set_same ob (i + 1) _ h2
  have hat := fun (k : Nat) (s : ByteArray) (h : l[k]? = some s) => show (l.map fun s => C.v (.string s))[k]? = some (.v (.string s)) by simp [h]
  have hlm : (l.map fun s => C.v (.string s)).length = l.length := by simp
  have g1 := get_set ob i _ h1
  have g3 : ∀ x y, ((ob.set i x).set (i + 1) y)[i]? = some x := fun x y => by rw [List.getElem?_set_ne (by omega), g1]
  have g4 : ∀ x y, ((ob.set i x).set (i + 1) y)[i + 1]? = some y := fun x y => by
    have := (List.getElem?_eq_some_iff.1 h2).1
    simp [this]
  have ss : ∀ x y z w, (((ob.set i x).set (i + 1) y).set i z).set (i + 1) w = (ob.set i z).set (i + 1) w := fun x y z w => by rw [List.set_comm _ _ (by omega : i + 1 ≠ i), List.set_set, List.set_set]
  generalize (l.map fun s => C.v (.string s)) = cs at *
  refine den_of Tryz.func36 rfl rfl (by simp [Tryz.ntmps36]) (fun X hX hO => ?_)
  rw [Tryz.ntmps36] at hX
  simp only [Tryz.results36]
  have hob : (ob.set i (bufO i (wsB s []))).set (i + 1) (bytO (wsB s [])) = ob := by
    show (ob.set i (bufO i s)).set (i + 1) (bytO s) = ob
    rw [hs1, hs2]
  repeat' (first 
   | (with_reducible first | refine awp_scope ?_ | refine awp_seq ?_ | refine awp_block ?_)
   | ((with_reducible first | refine awp_label ?_ | refine awp_skip ?_ | refine awp_exit ?_ | refine hother _ _ rfl ?_); try simp only [thenA, inBlockA, noGotoA, if_true, Nat.reduceEqDiff, if_false, ↓reduceIte])
   | ((with_reducible first | refine awp_reg 23 hX [0, 1, 4, 12] ?_ | refine DEv_cut _ _ _ _ _ _ _ _ _ _ _ _ (by kernel_rfl) ?_ | change postOf _ _ _ _ _); simp [-List.reduceReplicate, Nat.add_one_le_iff, -getElem?_pos, -getElem?_neg, iC])
   | ((first | (with_reducible refine awp_ret ?_; try simp only [thenA, inBlockA, noGotoA])); try simp [-List.reduceReplicate, Nat.add_one_le_iff, -getElem?_pos, -getElem?_neg, iC])
   | (with_reducible refine awp_if_b rfl (fun hc => ?_) (fun hc => ?_) <;> (try simp [-getElem?_pos, -getElem?_neg] at hc) <;> (try (exfalso; omega)))
   | ((with_reducible first | refine GuardK_b (fun hc => ?_) (fun hc => ?_) | refine DGuard_b _ _ _ _ _ _ _ _ _ _ (fun hc => ?_) (fun hc => ?_)) <;> (try simp only [Bool.not_eq_true', Bool.not_eq_false', decide_eq_true_eq, decide_eq_false_iff_not] at hc) <;> (first | (exfalso; omega) | skip) <;> simp [-List.reduceReplicate, Nat.add_one_le_iff, -getElem?_pos, -getElem?_neg, iC, hc])
   | (with_reducible refine And.intro (by omega) ?_)
   | fail)
  refine awp_forU [0, 1, 4] (fun k (_u : Unit) => [(4, .c (iC k))]) (fun k (_u : Unit) => (ob.set i (bufO i (wsB s (l.take k)))).set (i + 1) (bytO (wsB s (l.take k)))) (fun k (_u : Unit) => True) (l.length) (()) (by first | trivial | (simp; done) | omega | (intros; simp at *; done)) (by simp [-List.reduceReplicate, keep, iC, hob]) (by simp [-List.reduceReplicate, iC, hob]) ?_
  rintro k _u Q1 hi hH next hother
  conv => arg 5; arg 1; simp only [List.cons_append, List.nil_append, keep, get, Nat.reduceEqDiff, if_true, if_false, ↓reduceIte]
  have hwk := wrap_in ((k : Int) + 1) (by omega)
  by_cases hlt : k < l.length
  · obtain ⟨t, ht⟩ : ∃ t, l[k]? = some t := ⟨_, List.getElem?_eq_getElem hlt⟩
    have ha := hat k t ht
    have hw := writeString_den i (wsB s (l.take k)) t _ (g3 _ _) (g4 (bufO i (wsB s (l.take k))) (bytO (wsB s (l.take k)))) (by rw [wsB_size]; have := totB_take l k t ht; omega)
    rw [ss, ← wsB_take s l k t ht] at hw
    have ho1 := g3 (bufO i (wsB s (l.take k))) (bytO (wsB s (l.take k)))
    have hbo : bufO i (wsB s (l.take k)) = ⟨129, 2, false, 0, [addrM i (wsB s (l.take k)).w, .ms (i + 1) (wsB s (l.take k)).g 0 (wsB s (l.take k)).b.size], none⟩ := rfl
    generalize (ob.set i (bufO i (wsB s (l.take k)))).set (i + 1) (bytO (wsB s (l.take k))) = o1 at *
    generalize (ob.set i (bufO i (wsB s (l.take (k + 1))))).set (i + 1) (bytO (wsB s (l.take (k + 1)))) = o2 at *
    rw [hbo] at ho1
    have h3 : (k : Int) < l.length := by omega
    repeat' (first 
     | (with_reducible first | refine awp_scope ?_ | refine awp_seq ?_ | refine awp_block ?_)
     | ((with_reducible first | refine awp_label ?_ | refine awp_skip ?_ | refine awp_exit ?_ | refine hother _ _ rfl ?_); try simp only [thenA, inBlockA, noGotoA, if_true, Nat.reduceEqDiff, if_false, ↓reduceIte])
     | ((with_reducible first | refine awp_reg 23 hX [0, 1, 4, 12] ?_ | refine DEv_cut _ _ _ _ _ _ _ _ _ _ _ _ (by kernel_rfl) ?_ | change postOf _ _ _ _ _); simp [-List.reduceReplicate, Nat.add_one_le_iff, -getElem?_pos, -getElem?_neg, iC, hlt, hlm, ho1, h3, ha])
     | ((first | (with_reducible refine awp_ret ?_; try simp only [thenA, inBlockA, noGotoA])); try simp [-List.reduceReplicate, Nat.add_one_le_iff, -getElem?_pos, -getElem?_neg, iC, hlt, hlm, ho1, h3, ha])
     | (with_reducible refine awp_if_b rfl (fun hc => ?_) (fun hc => ?_) <;> (try simp [-getElem?_pos, -getElem?_neg] at hc) <;> (try (exfalso; omega)))
     | ((with_reducible first | refine GuardK_b (fun hc => ?_) (fun hc => ?_) | refine DGuard_b _ _ _ _ _ _ _ _ _ _ (fun hc => ?_) (fun hc => ?_)) <;> (try simp only [Bool.not_eq_true', Bool.not_eq_false', decide_eq_true_eq, decide_eq_false_iff_not] at hc) <;> (first | (exfalso; omega) | skip) <;> simp [-List.reduceReplicate, Nat.add_one_le_iff, -getElem?_pos, -getElem?_neg, iC, hlt, hlm, ho1, h3, ha, hc])
     | (with_reducible refine And.intro (by omega) ?_)
     | fail)
    refine awp_drwc (id := 3) 23 hX [0, 1, 4, 12] [7] Tab.mixed (by kernel_rfl) ?_
    simp [-List.reduceReplicate, -getElem?_pos, -getElem?_neg, List.getElem?_cons_zero, List.getElem?_cons_succ, iC, hlt, hlm, ho1, h3, ha]
    refine ⟨_, _, hw, fun h => by simp [mayB] at h, ?_⟩
    repeat' (first 
     | (with_reducible first | refine awp_scope ?_ | refine awp_seq ?_ | refine awp_block ?_)
     | ((with_reducible first | refine awp_label ?_ | refine awp_skip ?_ | refine awp_exit ?_ | refine hother _ _ rfl ?_); try simp only [thenA, inBlockA, noGotoA, if_true, Nat.reduceEqDiff, if_false, ↓reduceIte])
     | ((with_reducible first | refine awp_reg 23 hX [0, 1, 4, 12] ?_ | refine DEv_cut _ _ _ _ _ _ _ _ _ _ _ _ (by kernel_rfl) ?_ | change postOf _ _ _ _ _); simp [-List.reduceReplicate, Nat.add_one_le_iff, -getElem?_pos, -getElem?_neg, iC, hwk])
     | ((first | (with_reducible refine awp_ret ?_; try simp only [thenA, inBlockA, noGotoA])); try simp [-List.reduceReplicate, Nat.add_one_le_iff, -getElem?_pos, -getElem?_neg, iC, hwk])
     | (with_reducible refine awp_if_b rfl (fun hc => ?_) (fun hc => ?_) <;> (try simp [-getElem?_pos, -getElem?_neg] at hc) <;> (try (exfalso; omega)))
     | ((with_reducible first | refine GuardK_b (fun hc => ?_) (fun hc => ?_) | refine DGuard_b _ _ _ _ _ _ _ _ _ _ (fun hc => ?_) (fun hc => ?_)) <;> (try simp only [Bool.not_eq_true', Bool.not_eq_false', decide_eq_true_eq, decide_eq_false_iff_not] at hc) <;> (first | (exfalso; omega) | skip) <;> simp [-List.reduceReplicate, Nat.add_one_le_iff, -getElem?_pos, -getElem?_neg, iC, hwk, hc])
     | (with_reducible refine And.intro (by omega) ?_)
     | fail)
    refine next _ _ (()) (by omega) (by first | trivial | omega | assumption) (by simp [-List.reduceReplicate, keep, iC]) (by simp [-List.reduceReplicate, iC])
  · obtain rfl : k = l.length := by omega
    have h3 : ¬ (l.length : Int) < l.length := by omega
    have ho1 := g3 (bufO i (wsB s (l.take l.length))) (bytO (wsB s (l.take l.length)))
    have hbo : bufO i (wsB s (l.take l.length)) = ⟨129, 2, false, 0, [addrM i (wsB s (l.take l.length)).w, .ms (i + 1) (wsB s (l.take l.length)).g 0 (wsB s (l.take l.length)).b.size], none⟩ := rfl
    rw [List.take_length] at *
    generalize hO1 : (ob.set i (bufO i (wsB s l))).set (i + 1) (bytO (wsB s l)) = o1 at *
    rw [hbo] at ho1
    repeat' (first 
     | (with_reducible first | refine awp_scope ?_ | refine awp_seq ?_ | refine awp_block ?_)
     | ((with_reducible first | refine awp_label ?_ | refine awp_skip ?_ | refine awp_exit ?_ | refine hother _ _ rfl ?_); try simp only [thenA, inBlockA, noGotoA, if_true, Nat.reduceEqDiff, if_false, ↓reduceIte])
     | ((with_reducible first | refine awp_reg 23 hX [0, 1, 4, 12] ?_ | refine DEv_cut _ _ _ _ _ _ _ _ _ _ _ _ (by kernel_rfl) ?_ | change postOf _ _ _ _ _); simp [-List.reduceReplicate, Nat.add_one_le_iff, -getElem?_pos, -getElem?_neg, iC, hlm, ho1, h3])
     | ((first | (with_reducible refine awp_ret ?_; try simp only [thenA, inBlockA, noGotoA])); try simp [-List.reduceReplicate, Nat.add_one_le_iff, -getElem?_pos, -getElem?_neg, iC, hlm, ho1, h3])
     | (with_reducible refine awp_if_b rfl (fun hc => ?_) (fun hc => ?_) <;> (try simp [-getElem?_pos, -getElem?_neg] at hc) <;> (try (exfalso; omega)))
     | ((with_reducible first | refine GuardK_b (fun hc => ?_) (fun hc => ?_) | refine DGuard_b _ _ _ _ _ _ _ _ _ _ (fun hc => ?_) (fun hc => ?_)) <;> (try simp only [Bool.not_eq_true', Bool.not_eq_false', decide_eq_true_eq, decide_eq_false_iff_not] at hc) <;> (first | (exfalso; omega) | skip) <;> simp [-List.reduceReplicate, Nat.add_one_le_iff, -getElem?_pos, -getElem?_neg, iC, hlm, ho1, h3, hc])
     | (with_reducible refine And.intro (by omega) ?_)
     | fail)
    all_goals trace_state
end Go.Av

set_option exponentiation.threshold 1000
set_option linter.unusedVariables false
set_option linter.unusedSimpArgs false
set_option maxRecDepth 100000
set_option maxHeartbeats 4000000
namespace Go.Av
open Go Go.Proofs Go.Proofs.YtpcnacknlgmmlaaGreat Go.RowKit
attribute [local simp] List.getElem?_cons_zero List.getElem?_cons_succ
/-! ### buf: Hash, Num, Bytes -/
attribute [local simp] Tryz.underlying125 Tryz.underlying127 Tryz.underlying117 Tryz.underlying5 Tryz.underlying182 Tryz.underlying3 Tryz.underlying9 Tryz.underlying4 Tryz.underlying39 Tryz.underlying129 Tryz.underlying77 Tryz.underlying24 Tryz.underlying52
def setB (ob : List Ob) (i : Nat) (s : Bf) : List Ob := (ob.set i (bufO i s)).set (i + 1) (bytO s)
theorem setB_len (ob : List Ob) (i : Nat) (s : Bf) : (setB ob i s).length = ob.length := by simp [setB]
theorem setB_get0 (ob : List Ob) (i : Nat) (s : Bf) (h : i + 1 < ob.length) : (setB ob i s)[i]? = some (bufO i s) := by
  unfold setB
  rw [List.getElem?_set_ne (by omega)]
  simp [show i < ob.length by omega]
theorem setB_get1 (ob : List Ob) (i : Nat) (s : Bf) (h : i + 1 < ob.length) : (setB ob i s)[i + 1]? = some (bytO s) := by
  unfold setB
  simp [h]
theorem setB_twice (ob : List Ob) (i : Nat) (s t : Bf) : setB (setB ob i s) i t = setB ob i t := by
  unfold setB
  rw [List.set_comm _ _ (by omega : i + 1 ≠ i), List.set_set, List.set_set]
theorem setB_app (ob e : List Ob) (i : Nat) (s : Bf) (h : i + 1 < ob.length) : setB (ob ++ e) i s = setB ob i s ++ e := by
  unfold setB
  rw [List.set_append_left _ _ (by omega), List.set_append_left _ _ (by simpa using h)]
theorem setB_ok (ob : List Ob) (i : Nat) (s : Bf) (h : i + 1 < ob.length) (hok : okCu ob) : okCu (setB ob i s) := by
  unfold okCu at *
  rw [setB_len, List.all_eq_true] at *
  intro q hq
  unfold setB at hq
  rcases List.mem_or_eq_of_mem_set hq with h1 | rfl
  · rcases List.mem_or_eq_of_mem_set h1 with h2 | rfl
    · exact hok q h2
    · cases hw : s.w <;> simp [bufO, addrM, hw, ltB] <;> omega
  · simp only [bytO, up, List.all_map, List.all_eq_true, Function.comp]
    intro x _
    rfl
theorem setB_same (ob : List Ob) (i : Nat) (s : Bf) (h1 : ob[i]? = some (bufO i s)) (h2 : ob[i + 1]? = some (bytO s)) : setB ob i s = ob := by
  unfold setB
  rw [set_same ob i _ h1, set_same ob (i + 1) _ h2]
theorem bufRaw2_den (i : Nat) (s : Bf) (l : List ByteArray) (n : Nat) (hn : l.length = n) (full : Bool) (ob : List Ob) (h1 : ob[i]? = some (bufO i s)) (h2 : ob[i + 1]? = some (bytO s)) (hz : s.b.size + totB l ≤ 140737488355327) (hN : n ≤ 1000000) :
    Den Tryz.prog 36 [.mp i 0 0, .c (.sl (l.map fun s => .v (.string s)) n full)] ob (fun r ob' => r = .tup [] ∧ ob' = setB ob i (wsB s l)) := by
  subst hn
  exact bufRaw_den i s l full ob h1 h2 hz hN
theorem bufNum_den (i : Nat) (s : Bf) (x : Nat) (hx : x < 18446744073709551616) (ob : List Ob) (h1 : ob[i]? = some (bufO i s)) (h2 : ob[i + 1]? = some (bytO s)) (hz : s.b.size + 10 ≤ 140737488355327) :
    Den Tryz.prog 39 [.mp i 0 0, .c (u64C x)] ob (fun r ob' => r = .tup [] ∧ ob' = setB ob i (wB s (bsS (putV x)))) := by
  have p1 := num_put_den x hx
  have hl : (bsS (putV x)).size ≤ 10 := by rw [bs_size]; exact putV_len10 x hx
  have p2 := bufRaw2_den i s [bsS (putV x)] 1 rfl true ob h1 h2 (by simp [totB]; omega) (by omega)
  simp only [wsB, List.map_cons, List.map_nil] at p2
  generalize bsS (putV x) = t at *
  generalize setB ob i (wB s t) = o2 at *
  refine den_of Tryz.func39 rfl rfl (by simp [Tryz.ntmps39]) (fun X hX hO => ?_)
  rw [Tryz.ntmps39] at hX
  simp only [Tryz.results39]
  repeat' (first 
   | (with_reducible first | refine awp_scope ?_ | refine awp_seq ?_ | refine awp_block ?_)
   | ((with_reducible first | refine awp_label ?_ | refine awp_skip ?_ | refine awp_exit ?_); try simp only [thenA, inBlockA, noGotoA, if_true, Nat.reduceEqDiff, if_false, ↓reduceIte])
   | ((with_reducible first | refine awp_reg 9 hX [] ?_ | change postOf _ _ _ _ _); simp [-List.reduceReplicate, Nat.add_one_le_iff, -getElem?_pos, -getElem?_neg, u64C])
   | ((first | (with_reducible refine awp_ret ?_; try simp only [thenA, inBlockA, noGotoA]) | (refine (p1 _).det ?_) | (refine (p2).det ?_)); try simp [-List.reduceReplicate, Nat.add_one_le_iff, -getElem?_pos, -getElem?_neg, u64C])
   | (with_reducible refine awp_if_b rfl (fun hc => ?_) (fun hc => ?_) <;> (try simp [-getElem?_pos, -getElem?_neg] at hc) <;> (try (exfalso; omega)))
   | (with_reducible refine And.intro (by omega) ?_)
   | fail)
theorem bufHash_den (i : Nat) (s : Bf) (l : List H32) (n : Nat) (hn : l.length = n) (full : Bool) (ob : List Ob) (h1 : ob[i]? = some (bufO i s)) (h2 : ob[i + 1]? = some (bytO s)) (hok : okCu ob) (hz : s.b.size + totB (l.map fun h => bsS h.1) ≤ 140737488355327) (hN : n ≤ 1000000) :
    Den Tryz.prog 38 [.mp i 0 0, .c (.sl (hsC l) n full)] ob (fun r ob' => r = .tup [] ∧ ob' = setB ob i (wsB s (l.map fun h => bsS h.1))) := by
  subst hn
  have hil := (List.getElem?_eq_some_iff.1 h2).1
  have hlen := hsC_len l
  have hat := hsC_at l
  have hob : setB ob i (wsB s []) = ob := setB_same ob i s h1 h2
  have hlm : (l.map fun h => bsS h.1).length = l.length := by simp
  have hlg : ∀ (k : Nat) (h : H32), l[k]? = some h → (l.map fun h => bsS h.1)[k]? = some (bsS h.1) := fun k h hh => by rw [List.getElem?_map, hh]; rfl
  generalize (l.map fun h => bsS h.1) = L at *
  generalize hsC l = cs at *
  refine Den.forget (by rw [setB_len]; exact Nat.le_refl _) rfl (setB_ok ob i (wsB s L) hil hok) ?_
  refine den_of Tryz.func38 rfl rfl (by simp [Tryz.ntmps38]) (fun X hX hO => ?_)
  rw [Tryz.ntmps38] at hX
  simp only [Tryz.results38]
  repeat' (first 
   | (with_reducible first | refine awp_scope ?_ | refine awp_seq ?_ | refine awp_block ?_)
   | ((with_reducible first | refine awp_label ?_ | refine awp_skip ?_ | refine awp_exit ?_ | refine hother _ _ rfl ?_); try simp only [thenA, inBlockA, noGotoA, if_true, Nat.reduceEqDiff, if_false, ↓reduceIte])
   | ((with_reducible first | refine awp_reg 18 hX [0, 5, 6, 7, 8, 9] ?_ | change postOf _ _ _ _ _); simp [-List.reduceReplicate, Nat.add_one_le_iff, -getElem?_pos, -getElem?_neg, iC])
   | ((first | (with_reducible refine awp_ret ?_; try simp only [thenA, inBlockA, noGotoA])); try simp [-List.reduceReplicate, Nat.add_one_le_iff, -getElem?_pos, -getElem?_neg, iC])
   | (with_reducible refine awp_if_b rfl (fun hc => ?_) (fun hc => ?_) <;> (try simp [-getElem?_pos, -getElem?_neg] at hc) <;> (try (exfalso; omega)))
   | (with_reducible refine And.intro (by omega) ?_)
   | fail)
  refine awp_forU [0, 6, 7, 8] (fun k (gr : List Ob) => [(8, .c (iC k))]) (fun k (gr : List Ob) => setB ob i (wsB s (L.take k)) ++ gr) (fun k (gr : List Ob) => True) (l.length) ([]) (by first | trivial | (simp; done) | omega | (intros; simp at *; done)) (by simp [-List.reduceReplicate, keep, iC, hob]) (by simp [-List.reduceReplicate, iC, hob]) ?_
  rintro k gr Q1 hi hH next hother
  conv => arg 5; arg 1; simp only [List.cons_append, List.nil_append, keep, get, Nat.reduceEqDiff, if_true, if_false, ↓reduceIte]
  have hwk := wrap_in ((k : Int) + 1) (by omega)
  have hsl := setB_len ob i (wsB s (L.take k))
  by_cases hlt : k < l.length
  · obtain ⟨h, hh⟩ : ∃ h, l[k]? = some h := ⟨_, List.getElem?_eq_getElem hlt⟩
    have ha := hat k h hh
    have hLk := hlg k h hh
    have g0 := setB_get0 ob i (wsB s (L.take k)) hil
    have g1 := setB_get1 ob i (wsB s (L.take k)) hil
    have t2 := hash_take h.1 h.2
    have hb : 32 ≤ cs.length - k * 32 := by omega
    have hb2 : k * 32 + 32 ≤ cs.length := by omega
    have h3 : (k : Int) < l.length := by omega
    have hr := bufRaw2_den i (wsB s (L.take k)) [bsS h.1] 1 rfl true (setB ob i (wsB s (L.take k)) ++ (gr ++ [⟨24, 1, false, 0, up (h.1.map bC8), none⟩])) (by rw [List.getElem?_append_left (by omega)]; exact g0) (by rw [List.getElem?_append_left (by omega)]; exact g1) (by have := totB_take L k _ hLk; rw [wsB_size]; simp only [totB]; omega) (by omega)
    rw [setB_app _ _ _ _ (by omega), setB_twice] at hr
    simp only [wsB, List.map_cons, List.map_nil] at hr
    rw [← wsB_take s L k _ hLk] at hr
    generalize setB ob i (wsB s (L.take (k + 1))) = o2 at *
    generalize setB ob i (wsB s (L.take k)) = o1 at *
    have q1 : ∀ x, (o1 ++ (gr ++ [x]))[ob.length + gr.length]? = some x := fun x => by rw [← hsl, ← List.append_assoc, List.getElem?_append_right (by simp)]; simp
    have q2 : ∀ x y, (o1 ++ (gr ++ [x])).set (ob.length + gr.length) y = o1 ++ (gr ++ [y]) := fun x y => by rw [← hsl, ← List.append_assoc, List.set_append_right _ _ (by simp)]; simp
    have hbm : bytesM (up (h.1.map bC8)) = some h.1 := bytesM_bytes h.1
    have hhl : (h.1.map bC8).length = 32 := by simp [h.2]
    have hbs : (⟨h.1.toArray⟩ : ByteArray) = bsS h.1 := rfl
    generalize h.1.map bC8 = H at *
    repeat' (first 
     | (with_reducible first | refine awp_scope ?_ | refine awp_seq ?_ | refine awp_block ?_)
     | ((with_reducible first | refine awp_label ?_ | refine awp_skip ?_ | refine awp_exit ?_ | refine hother _ _ rfl ?_); try simp only [thenA, inBlockA, noGotoA, if_true, Nat.reduceEqDiff, if_false, ↓reduceIte])
     | ((with_reducible first | refine awp_reg 18 hX [0, 5, 6, 7, 8, 9] ?_ | change postOf _ _ _ _ _); simp [-List.reduceReplicate, Nat.add_one_le_iff, -getElem?_pos, -getElem?_neg, iC, hlt, hwk, ha, hb, hb2, t2, h3, q1, q2, hbm, hhl, hbs, hsl])
     | ((first | (with_reducible refine awp_ret ?_; try simp only [thenA, inBlockA, noGotoA]) | (refine (hr).det ?_)); try simp [-List.reduceReplicate, Nat.add_one_le_iff, -getElem?_pos, -getElem?_neg, iC, hlt, hwk, ha, hb, hb2, t2, h3, q1, q2, hbm, hhl, hbs, hsl])
     | (with_reducible refine awp_if_b rfl (fun hc => ?_) (fun hc => ?_) <;> (try simp [-getElem?_pos, -getElem?_neg] at hc) <;> (try (exfalso; omega)))
     | (with_reducible refine And.intro (by omega) ?_)
     | fail)
    refine next _ _ (gr ++ [⟨24, 1, false, 0, up H, none⟩]) (by omega) (by first | trivial | omega | assumption) (by simp [-List.reduceReplicate, keep, iC]) (by simp [-List.reduceReplicate, iC])
  · obtain rfl : k = l.length := by omega
    have hexit := hother; clear next hother
    have hLt : L.take l.length = L := List.take_of_length_le (by omega)
    rw [hLt] at *
    generalize setB ob i (wsB s L) = o1 at *
    repeat' (first 
     | (with_reducible first | refine awp_scope ?_ | refine awp_seq ?_ | refine awp_block ?_)
     | ((with_reducible first | refine awp_label ?_ | refine awp_skip ?_ | refine awp_exit ?_ | refine hother _ _ rfl ?_); try simp only [thenA, inBlockA, noGotoA, if_true, Nat.reduceEqDiff, if_false, ↓reduceIte])
     | ((with_reducible first | refine awp_reg 18 hX [0, 5, 6, 7, 8, 9] ?_ | change postOf _ _ _ _ _); simp [-List.reduceReplicate, Nat.add_one_le_iff, -getElem?_pos, -getElem?_neg, iC])
     | ((first | (with_reducible refine awp_ret ?_; try simp only [thenA, inBlockA, noGotoA])); try simp [-List.reduceReplicate, Nat.add_one_le_iff, -getElem?_pos, -getElem?_neg, iC])
     | (with_reducible refine awp_if_b rfl (fun hc => ?_) (fun hc => ?_) <;> (try simp [-getElem?_pos, -getElem?_neg] at hc) <;> (try (exfalso; omega)))
     | (with_reducible refine And.intro (by omega) ?_)
     | fail)
    refine hexit _ _ rfl ?_
    simp only [inBlockA, thenA, ↓reduceIte]
    clear hexit
    repeat' (first 
     | (with_reducible first | refine awp_scope ?_ | refine awp_seq ?_ | refine awp_block ?_)
     | ((with_reducible first | refine awp_label ?_ | refine awp_skip ?_ | refine awp_exit ?_ | refine hother _ _ rfl ?_); try simp only [thenA, inBlockA, noGotoA, if_true, Nat.reduceEqDiff, if_false, ↓reduceIte])
     | ((with_reducible first | refine awp_reg 18 hX [0, 5, 6, 7, 8, 9] ?_ | change postOf _ _ _ _ _); simp [-List.reduceReplicate, Nat.add_one_le_iff, -getElem?_pos, -getElem?_neg, iC])
     | ((first | (with_reducible refine awp_ret ?_; try simp only [thenA, inBlockA, noGotoA])); try simp [-List.reduceReplicate, Nat.add_one_le_iff, -getElem?_pos, -getElem?_neg, iC])
     | (with_reducible refine awp_if_b rfl (fun hc => ?_) (fun hc => ?_) <;> (try simp [-getElem?_pos, -getElem?_neg] at hc) <;> (try (exfalso; omega)))
     | (with_reducible refine And.intro (by omega) ?_)
     | fail)
end Go.Av

set_option exponentiation.threshold 1000
set_option linter.unusedVariables false
set_option linter.unusedSimpArgs false
set_option maxRecDepth 100000
set_option maxHeartbeats 4000000
namespace Go.Av
open Go Go.Proofs Go.Proofs.YtpcnacknlgmmlaaGreat Go.RowKit
attribute [local simp] List.getElem?_cons_zero List.getElem?_cons_succ
/-! ### buf: Bytes; config.Encode -/
attribute [local simp] Tryz.underlying125 Tryz.underlying127 Tryz.underlying117 Tryz.underlying5 Tryz.underlying182 Tryz.underlying3 Tryz.underlying9 Tryz.underlying4 Tryz.underlying39 Tryz.underlying129 Tryz.underlying77 Tryz.underlying24 Tryz.underlying52
def endB (s : Bf) : Ob := if s.nl then bytO s else deadOb (bytO s)
def Bf.ok (s : Bf) : Prop := s.nl = decide (s.b.size = 0)
theorem wB_ok (s : Bf) (t : ByteArray) (h : s.ok) : (wB s t).ok := by
  unfold Bf.ok at *
  simp only [wB, h, ByteArray.size_append]
  rw [Bool.eq_iff_iff]
  simp
theorem wsB_ok (l : List ByteArray) : ∀ s : Bf, s.ok → (wsB s l).ok := by
  induction l with
  | nil => intro s h; exact h
  | cons t l ih => intro s h; exact ih _ (wB_ok s t h)
theorem wsB_b (l : List ByteArray) : ∀ s : Bf, (wsB s l).b = s.b ++ catB l := by
  induction l with
  | nil =>
    intro s
    show s.b = s.b ++ ByteArray.empty
    simp
  | cons t l ih => intro s; rw [wsB, ih]; simp [wB, catB, ByteArray.append_assoc]
theorem bString_den (i : Nat) (s : Bf) (hs : s.ok) (hz : s.b.size ≤ 9223372036854775807) (ob : List Ob) (h1 : ob[i]? = some (bufO i s)) (h2 : ob[i + 1]? = some (bytO s)) :
    Den Tryz.prog 80 [.mp i 0 0] ob (fun r ob' => r = .c (sC s.b) ∧ ob' = ob.set (i + 1) (endB s)) := by
  have hbl := bytsC_len s.b
  have hm := bytesM_bytes s.b.data.toList
  have hb : bytesC s.b.data.toList = bytsC s.b := rfl
  rw [hb] at hm
  have hbs : (⟨s.b.data.toList.toArray⟩ : ByteArray) = s.b := by cases s.b; simp
  have hsm := set_same ob (i + 1) _ h2
  unfold endB
  obtain ⟨w, g, nl, b⟩ := s
  unfold Bf.ok at hs
  simp only [bufO, bytO] at *
  have hz0 := size0_eq b
  have ht : (bytsC b).take b.size = bytsC b := List.take_of_length_le (by omega)
  refine den_of Tryz.func80 rfl rfl (by simp [Tryz.ntmps80]) (fun X hX hO => ?_)
  rw [Tryz.ntmps80] at hX
  simp only [Tryz.results80]
  by_cases h0 : b.size = 0
  · have hn : nl = true := by rw [hs]; simp [h0]
    subst hn
    obtain rfl := hz0.1 h0
    repeat' (first 
     | (with_reducible first | refine awp_scope ?_ | refine awp_seq ?_ | refine awp_block ?_)
     | ((with_reducible first | refine awp_label ?_ | refine awp_skip ?_ | refine awp_exit ?_); try simp only [thenA, inBlockA, noGotoA, if_true, Nat.reduceEqDiff, if_false, ↓reduceIte])
     | ((with_reducible first | refine awp_reg 14 hX [0, 2] ?_ | refine awp_drw 14 hX [0, 2] Tab.mixed (by kernel_rfl) ?_ | refine DEv_cut _ _ _ _ _ _ _ _ _ _ _ _ (by kernel_rfl) ?_ | change postOf _ _ _ _ _); simp [-List.reduceReplicate, Nat.add_one_le_iff, -getElem?_pos, -getElem?_neg, h1, h2, sC, hsm])
     | ((first | (with_reducible refine awp_ret ?_; try simp only [thenA, inBlockA, noGotoA])); try simp [-List.reduceReplicate, Nat.add_one_le_iff, -getElem?_pos, -getElem?_neg, h1, h2, sC, hsm])
     | (with_reducible refine awp_if_b rfl (fun hc => ?_) (fun hc => ?_) <;> (try simp [-getElem?_pos, -getElem?_neg] at hc) <;> (try (exfalso; omega)))
     | (with_reducible refine And.intro (by omega) ?_)
     | fail)
  · have hn : nl = false := by rw [hs]; simp [h0]
    subst hn
    have hp : 0 < b.size := by omega
    have hz1 : (b.size : Int) ≤ 9223372036854775807 := by omega
    repeat' (first 
     | (with_reducible first | refine awp_scope ?_ | refine awp_seq ?_ | refine awp_block ?_)
     | ((with_reducible first | refine awp_label ?_ | refine awp_skip ?_ | refine awp_exit ?_); try simp only [thenA, inBlockA, noGotoA, if_true, Nat.reduceEqDiff, if_false, ↓reduceIte])
     | ((with_reducible first | refine awp_reg 14 hX [0, 2] ?_ | refine awp_drw 14 hX [0, 2] Tab.mixed (by kernel_rfl) ?_ | refine DEv_cut _ _ _ _ _ _ _ _ _ _ _ _ (by kernel_rfl) ?_ | change postOf _ _ _ _ _); simp [-List.reduceReplicate, Nat.add_one_le_iff, -getElem?_pos, -getElem?_neg, h1, h2, sC, ht, hm, hp, h0, hbl, hbs, hz1])
     | ((first | (with_reducible refine awp_ret ?_; try simp only [thenA, inBlockA, noGotoA])); try simp [-List.reduceReplicate, Nat.add_one_le_iff, -getElem?_pos, -getElem?_neg, h1, h2, sC, ht, hm, hp, h0, hbl, hbs, hz1])
     | (with_reducible refine awp_if_b rfl (fun hc => ?_) (fun hc => ?_) <;> (try simp [-getElem?_pos, -getElem?_neg] at hc) <;> (try (exfalso; omega)))
     | (with_reducible refine And.intro (by omega) ?_)
     | fail)
theorem bufBytes_den (i : Nat) (s : Bf) (hs : s.ok) (hz : s.b.size ≤ 9223372036854775807) (ob : List Ob) (h1 : ob[i]? = some (bufO i s)) (h2 : ob[i + 1]? = some (bytO s)) :
    Den Tryz.prog 40 [.mp i 0 0] ob (fun r ob' => r = .c (sC s.b) ∧ ob' = ob.set (i + 1) (endB s)) := by
  have p1 := bString_den i s hs hz ob h1 h2
  generalize ob.set (i + 1) (endB s) = o2 at *
  simp only [bufO] at h1
  refine den_of Tryz.func40 rfl rfl (by simp [Tryz.ntmps40]) (fun X hX hO => ?_)
  rw [Tryz.ntmps40] at hX
  simp only [Tryz.results40]
  repeat' (first 
   | (with_reducible first | refine awp_scope ?_ | refine awp_seq ?_ | refine awp_block ?_)
   | ((with_reducible first | refine awp_label ?_ | refine awp_skip ?_ | refine awp_exit ?_); try simp only [thenA, inBlockA, noGotoA, if_true, Nat.reduceEqDiff, if_false, ↓reduceIte])
   | ((with_reducible first | refine awp_reg 9 hX [0, 2, 4] ?_ | change postOf _ _ _ _ _); simp [-List.reduceReplicate, Nat.add_one_le_iff, -getElem?_pos, -getElem?_neg, h1, sC])
   | ((first | (with_reducible refine awp_ret ?_; try simp only [thenA, inBlockA, noGotoA]) | (refine (p1).det ?_)); try simp [-List.reduceReplicate, Nat.add_one_le_iff, -getElem?_pos, -getElem?_neg, h1, sC])
   | (with_reducible refine awp_if_b rfl (fun hc => ?_) (fun hc => ?_) <;> (try simp [-getElem?_pos, -getElem?_neg] at hc) <;> (try (exfalso; omega)))
   | (with_reducible refine And.intro (by omega) ?_)
   | fail)
end Go.Av

set_option exponentiation.threshold 1000
set_option linter.unusedVariables false
set_option linter.unusedSimpArgs false
set_option maxRecDepth 100000
set_option maxHeartbeats 4000000
namespace Go.Av
open Go Go.Proofs Go.Proofs.YtpcnacknlgmmlaaGreat Go.RowKit
attribute [local simp] List.getElem?_cons_zero List.getElem?_cons_succ
/-! ### config.Encode, milepostref52.EncodeConfig -/
attribute [local simp] Tryz.underlying9 Tryz.underlying3 Tryz.underlying4 Tryz.underlying30 Tryz.underlying24 Tryz.underlying27 Tryz.underlying29 Tryz.underlying61 Tryz.underlying64 Tryz.underlying39 Tryz.underlying52 Tryz.underlying73
def intsL (c : CF) : List Int := [c.m, c.k, c.a, c.b, c.mb, c.mp]
/-- The parts of a configuration's bytes. -/
def partsL (c : CF) : List ByteArray := bsS (hdL c.g) :: bsS c.t.1 :: (intsL c).map fun x => bsS (putV x.toNat)
def encB (c : CF) : ByteArray := catB (partsL c)
def encC (c : CF) : ByteArray × Int := if checkC c = 0 then (encB c, 0) else (e0, checkC c)
theorem check_ints (c : CF) (h : checkC c = 0) : ∀ x ∈ intsL c, 0 < x ∧ x ≤ 65536 := by
  unfold checkC at h
  split at h
  · simp at h
  · split at h
    · simp at h
    · rename_i h2
      split at h
      · simp at h
      · rename_i h3
        simp [mayP, mayR] at h2
        simp [rangeC] at h3
        intro x hx
        simp [intsL] at hx
        rcases hx with rfl | rfl | rfl | rfl | rfl | rfl <;> omega
theorem partsL_tot (c : CF) (h : ∀ x ∈ intsL c, 0 < x ∧ x ≤ 65536) : totB (partsL c) ≤ 168 := by
  have h1 : ∀ x ∈ intsL c, (bsS (putV x.toNat)).size ≤ 10 := fun x hx => by
    rw [bs_size]
    exact putV_len10 _ (by have := h x hx; omega)
  simp only [intsL, List.mem_cons, List.mem_nil_iff, or_false, forall_eq_or_imp, forall_eq] at h1
  simp only [partsL, totB, intsL, List.map_cons, List.map_nil]
  rw [bs_size, bs_size, hdL_len, c.t.2]
  omega
def bf0 : Bf := ⟨false, 0, true, e0⟩
theorem bf0_ok : bf0.ok := rfl
theorem intsL_get (c : CF) (k : Nat) (x : Int) (h : (intsL c)[k]? = some x) : (cfC c)[98 + k]? = some (iC x) ∧ (partsL c)[2 + k]? = some (bsS (putV x.toNat)) ∧ k < 6 := by
  match k, h with
  | 0, h | 1, h | 2, h | 3, h | 4, h | 5, h => obtain rfl := Option.some.inj h; exact ⟨by rw [cfC_n]; rfl, rfl, by omega⟩
  | k + 6, h => simp [intsL] at h
theorem okCu3 (K : List C) (s : Bf) : okCu [cfO K, bufO 1 s, bytO s] := by
  have hu : ∀ (n : Nat) (L : List C), ∀ x ∈ up L, ltB n x = true := fun n L x hx => by simp only [up, List.mem_map] at hx; obtain ⟨_, _, rfl⟩ := hx; rfl
  cases hw : s.w <;> simp [okCu, cfO, bufO, bytO, addrM, hw, ltB] <;> exact ⟨hu _ _, hu _ _⟩
theorem setB3 (o : Ob) (s t : Bf) (r : List Ob) : setB (o :: bufO 1 s :: bytO s :: r) 1 t = o :: bufO 1 t :: bytO t :: r := rfl
theorem encB_b (c : CF) : (wsB bf0 (partsL c)).b = encB c := by
  rw [wsB_b]
  show e0 ++ catB (partsL c) = catB (partsL c)
  show ByteArray.empty ++ _ = _
  simp
theorem encode_den (c : CF) (hok : HDok c.g) : DenV Tryz.prog 9 [cfM c] (.tup [.c (sC (encC c).1), .c (iC (encC c).2)]) := by
  refine Den.frame (by simp [cfM, ltB, ltBs]) rfl ?_
  have p1 := check_den c hok
  have kl := cfC_len c
  have kt : (cfC c).take 104 = cfC c := List.take_of_length_le (by omega)
  have kg := cfC_g c
  have ktt := cfC_t c
  have hec : encC c = if checkC c = 0 then (encB c, 0) else (e0, checkC c) := rfl
  unfold cfM at *
  by_cases h0 : checkC c = 0
  · have hI := check_ints c h0
    have htot := partsL_tot c hI
    have htk := fun i t h => totB_take (partsL c) i t h
    have p2 := bufNew_den [cfO (cfC c)]
    have p3 := headBytes_den c.g hok
    rw [h0] at p1 hec
    simp only [if_true] at hec
    rw [hec, ← encB_b]
    have wt := fun i t => wsB_take bf0 (partsL c) i t
    have w1 : wB bf0 (bsS (hdL c.g)) = wsB bf0 ((partsL c).take 1) := rfl
    have w2 : wB (wsB bf0 ((partsL c).take 1)) (bsS c.t.1) = wsB bf0 ((partsL c).take (2 + 0)) := rfl
    have hz1 := bs_size (hdL c.g)
    rw [hdL_len] at hz1
    have hz2 := bs_size c.t.1
    rw [c.t.2] at hz2
    have q1 := bufRaw2_den 1 bf0 [bsS (hdL c.g)] 1 rfl true [cfO (cfC c), bufO 1 bf0, bytO bf0] rfl rfl (by simp only [totB, hz1]; decide) (by omega)
    simp only [wsB, w1, setB3, List.map_cons, List.map_nil] at q1
    have hs1 : (wsB bf0 ((partsL c).take 1)).b.size ≤ 168 := by rw [wsB_size]; show bf0.b.size + totB [bsS (hdL c.g)] ≤ 168; simp only [totB, hz1]; decide
    have q2 := bufHash_den 1 (wsB bf0 ((partsL c).take 1)) [c.t] 1 rfl true [cfO (cfC c), bufO 1 (wsB bf0 ((partsL c).take 1)), bytO (wsB bf0 ((partsL c).take 1))] rfl rfl (okCu3 _ _) (by simp only [List.map_cons, List.map_nil, totB, hz2]; omega) (by omega)
    simp only [List.map_cons, List.map_nil, setB3] at q2
    rw [show wsB (wsB bf0 ((partsL c).take 1)) [bsS c.t.1] = wsB bf0 ((partsL c).take (2 + 0)) from w2, show hsC [c.t] = c.t.1.map bC8 by simp [hsC]] at q2
    have q3 := nums_den 0 (cfC c) kl [cfO (cfC c), bufO 1 (wsB bf0 ((partsL c).take (2 + 0))), bytO (wsB bf0 ((partsL c).take (2 + 0)))] rfl
    have hpl : (partsL c).length = 8 := rfl
    have hgl := hdC_len c.g
    have hgt : (hdC c.g).take 66 = hdC c.g := List.take_of_length_le (by omega)
    have htl : (c.t.1.map bC8).length = 32 := by simp [c.t.2]
    unfold hdM at p3
    simp only [cfO, numsO, List.length_cons, List.length_nil, List.cons_append, List.nil_append, show (⟨false, 0, true, e0⟩ : Bf) = bf0 from rfl] at p2 q1 q2 q3
    have hnl : (numsL 0).length = 6 := rfl
    have hng := numsL_get 0
    have hig := intsL_get c
    have hil : (intsL c).length = 6 := rfl
    generalize numsL 0 = NL at *
    generalize hdC c.g = G at *
    generalize bsS (hdL c.g) = bh at *
    generalize c.t.1.map bC8 = T at *
    generalize hK : cfC c = K at *
    refine den_of Tryz.func9 rfl rfl (by simp [Tryz.ntmps9]) (fun X hX hO => ?_)
    rw [Tryz.ntmps9] at hX
    simp only [Tryz.results9]
    repeat' (first 
     | (with_reducible first | refine awp_scope ?_ | refine awp_seq ?_ | refine awp_block ?_)
     | ((with_reducible first | refine awp_label ?_ | refine awp_skip ?_ | refine awp_exit ?_ | refine hother _ _ rfl ?_); try simp only [thenA, inBlockA, noGotoA, if_true, Nat.reduceEqDiff, if_false, ↓reduceIte])
     | ((with_reducible first | refine awp_reg 40 hX [1, 2, 3, 4, 5, 7, 11, 25, 26, 27, 28] ?_ | change postOf _ _ _ _ _); simp [-List.reduceReplicate, Nat.add_one_le_iff, -getElem?_pos, -getElem?_neg, iC, sC, kl, kt, kg, ktt, hgl, hgt, htl, hnl])
     | ((first | (with_reducible refine awp_ret ?_; try simp only [thenA, inBlockA, noGotoA]) | (refine (p1 _).det ?_) | (refine (p2).det ?_) | (refine (p3 _).det ?_) | (refine (q1).det ?_) | (refine (q2).det ?_) | (refine (q3).det ?_)); try simp [-List.reduceReplicate, Nat.add_one_le_iff, -getElem?_pos, -getElem?_neg, iC, sC, kl, kt, kg, ktt, hgl, hgt, htl, hnl])
     | (with_reducible refine awp_if_b rfl (fun hc => ?_) (fun hc => ?_) <;> (try simp [-getElem?_pos, -getElem?_neg] at hc) <;> (try (exfalso; omega)))
     | (with_reducible refine And.intro (by omega) ?_)
     | fail)
    refine awp_forU [5, 25, 26, 27] (fun k (_u : Unit) => [(27, .c (iC k))]) (fun k (_u : Unit) => [⟨29, 1, false, 0, up K, none⟩, bufO 1 (wsB bf0 ((partsL c).take (2 + k))), bytO (wsB bf0 ((partsL c).take (2 + k))), ⟨64, 1, false, 0, NL, none⟩]) (fun k (_u : Unit) => True) (6) (()) (by first | trivial | (simp; done) | omega | (intros; simp at *; done)) (by simp [-List.reduceReplicate, keep, iC]) (by simp [-List.reduceReplicate, iC]) ?_
    rintro k _u Q1 hi hH next hother
    conv => arg 5; arg 1; simp only [List.cons_append, List.nil_append, keep, get, Nat.reduceEqDiff, if_true, if_false, ↓reduceIte]
    have hwk := wrap_in ((k : Int) + 1) (by omega)
    by_cases hlt : k < 6
    · obtain ⟨x, hx⟩ : ∃ x, (intsL c)[k]? = some x := ⟨_, List.getElem?_eq_getElem (by omega)⟩
      obtain ⟨hx1, hx2⟩ := hI x (List.mem_of_getElem? hx)
      obtain ⟨g1, g2, _⟩ := hig k x hx
      have hg := hng k hlt
      have ht := htk (2 + k) _ g2
      have hw := wt (2 + k) _ g2
      rw [show 2 + k + 1 = 2 + (k + 1) by omega] at hw
      have hq := bufNum_den 1 (wsB bf0 ((partsL c).take (2 + k))) x.toNat (by omega) [⟨29, 1, false, 0, up K, none⟩, bufO 1 (wsB bf0 ((partsL c).take (2 + k))), bytO (wsB bf0 ((partsL c).take (2 + k))), ⟨64, 1, false, 0, NL, none⟩] rfl rfl (by rw [wsB_size]; show 0 + _ + 10 ≤ _; omega)
      simp only [setB3] at hq
      rw [← hw] at hq
      have hxn : ((x.toNat : Nat) : Int) = x := by omega
      have hwx := wrapU64 x (by omega)
      unfold u64C at hq
      rw [hxn] at hq
      have h3 : (k : Int) < 6 := by omega
      have h5 : (k : Int) ≤ 5 := by omega
      have h6 : k ≤ 5 := by omega
      generalize wsB bf0 ((partsL c).take (2 + (k + 1))) = s2 at *
      generalize wsB bf0 ((partsL c).take (2 + k)) = s1 at *
      repeat' (first 
       | (with_reducible first | refine awp_scope ?_ | refine awp_seq ?_ | refine awp_block ?_)
       | ((with_reducible first | refine awp_label ?_ | refine awp_skip ?_ | refine awp_exit ?_ | refine hother _ _ rfl ?_); try simp only [thenA, inBlockA, noGotoA, if_true, Nat.reduceEqDiff, if_false, ↓reduceIte])
       | ((with_reducible first | refine awp_reg 40 hX [1, 2, 3, 4, 5, 7, 11, 25, 26, 27, 28] ?_ | change postOf _ _ _ _ _); simp [-List.reduceReplicate, Nat.add_one_le_iff, -getElem?_pos, -getElem?_neg, iC, hlt, h3, h5, h6, hwk, hwx, hnl, hg, g1])
       | ((first | (with_reducible refine awp_ret ?_; try simp only [thenA, inBlockA, noGotoA]) | (refine (hq).det ?_)); try simp [-List.reduceReplicate, Nat.add_one_le_iff, -getElem?_pos, -getElem?_neg, iC, hlt, h3, h5, h6, hwk, hwx, hnl, hg, g1])
       | (with_reducible refine awp_if_b rfl (fun hc => ?_) (fun hc => ?_) <;> (try simp [-getElem?_pos, -getElem?_neg] at hc) <;> (try (exfalso; omega)))
       | (with_reducible refine And.intro (by omega) ?_)
       | fail)
      refine next _ _ (()) (by omega) (by first | trivial | omega | assumption) (by simp [-List.reduceReplicate, keep, iC]) (by simp [-List.reduceReplicate, iC])
    · obtain rfl : k = 6 := by omega
      have hexit := hother; clear next hother
      have hfull : (partsL c).take (2 + 6) = partsL c := List.take_of_length_le (by omega)
      rw [hfull]
      have hokB := wsB_ok (partsL c) bf0 bf0_ok
      have hq := bufBytes_den 1 (wsB bf0 (partsL c)) hokB (by rw [wsB_size]; show 0 + _ ≤ _; omega) [⟨29, 1, false, 0, up K, none⟩, bufO 1 (wsB bf0 (partsL c)), bytO (wsB bf0 (partsL c)), ⟨64, 1, false, 0, NL, none⟩] rfl rfl
      generalize wsB bf0 (partsL c) = s1 at *
      repeat' (first 
       | (with_reducible first | refine awp_scope ?_ | refine awp_seq ?_ | refine awp_block ?_)
       | ((with_reducible first | refine awp_label ?_ | refine awp_skip ?_ | refine awp_exit ?_ | refine hother _ _ rfl ?_); try simp only [thenA, inBlockA, noGotoA, if_true, Nat.reduceEqDiff, if_false, ↓reduceIte])
       | ((with_reducible first | refine awp_reg 40 hX [1, 2, 3, 4, 5, 7, 11, 25, 26, 27, 28] ?_ | change postOf _ _ _ _ _); simp [-List.reduceReplicate, Nat.add_one_le_iff, -getElem?_pos, -getElem?_neg, iC])
       | ((first | (with_reducible refine awp_ret ?_; try simp only [thenA, inBlockA, noGotoA])); try simp [-List.reduceReplicate, Nat.add_one_le_iff, -getElem?_pos, -getElem?_neg, iC])
       | (with_reducible refine awp_if_b rfl (fun hc => ?_) (fun hc => ?_) <;> (try simp [-getElem?_pos, -getElem?_neg] at hc) <;> (try (exfalso; omega)))
       | (with_reducible refine And.intro (by omega) ?_)
       | fail)
      refine hexit _ _ rfl ?_
      simp only [inBlockA, thenA, ↓reduceIte]
      clear hexit
      repeat' (first 
       | (with_reducible first | refine awp_scope ?_ | refine awp_seq ?_ | refine awp_block ?_)
       | ((with_reducible first | refine awp_label ?_ | refine awp_skip ?_ | refine awp_exit ?_ | refine hother _ _ rfl ?_); try simp only [thenA, inBlockA, noGotoA, if_true, Nat.reduceEqDiff, if_false, ↓reduceIte])
       | ((with_reducible first | refine awp_reg 40 hX [1, 2, 3, 4, 5, 7, 11, 25, 26, 27, 28] ?_ | change postOf _ _ _ _ _); simp [-List.reduceReplicate, Nat.add_one_le_iff, -getElem?_pos, -getElem?_neg, iC, sC])
       | ((first | (with_reducible refine awp_ret ?_; try simp only [thenA, inBlockA, noGotoA]) | (refine (hq).det ?_)); try simp [-List.reduceReplicate, Nat.add_one_le_iff, -getElem?_pos, -getElem?_neg, iC, sC])
       | (with_reducible refine awp_if_b rfl (fun hc => ?_) (fun hc => ?_) <;> (try simp [-getElem?_pos, -getElem?_neg] at hc) <;> (try (exfalso; omega)))
       | (with_reducible refine And.intro (by omega) ?_)
       | fail)
  · rw [if_neg h0] at hec
    rw [hec]
    generalize checkC c = e at *
    generalize cfC c = K at *
    refine den_of Tryz.func9 rfl rfl (by simp [Tryz.ntmps9]) (fun X hX hO => ?_)
    rw [Tryz.ntmps9] at hX
    simp only [Tryz.results9]
    repeat' (first 
     | (with_reducible first | refine awp_scope ?_ | refine awp_seq ?_ | refine awp_block ?_)
     | ((with_reducible first | refine awp_label ?_ | refine awp_skip ?_ | refine awp_exit ?_ | refine hother _ _ rfl ?_); try simp only [thenA, inBlockA, noGotoA, if_true, Nat.reduceEqDiff, if_false, ↓reduceIte])
     | ((with_reducible first | refine awp_reg 40 hX [1, 2, 3, 4, 5, 7, 11, 25, 26, 27, 28] ?_ | change postOf _ _ _ _ _); simp [-List.reduceReplicate, Nat.add_one_le_iff, -getElem?_pos, -getElem?_neg, iC, sC, kl, kt, h0, mk_e0, mk_e1])
     | ((first | (with_reducible refine awp_ret ?_; try simp only [thenA, inBlockA, noGotoA]) | (refine (p1 _).det ?_)); try simp [-List.reduceReplicate, Nat.add_one_le_iff, -getElem?_pos, -getElem?_neg, iC, sC, kl, kt, h0, mk_e0, mk_e1])
     | (with_reducible refine awp_if_b rfl (fun hc => ?_) (fun hc => ?_) <;> (try simp [-getElem?_pos, -getElem?_neg] at hc) <;> (try (exfalso; omega)))
     | (with_reducible refine And.intro (by omega) ?_)
     | fail)
theorem catB_take (l : List ByteArray) (i : Nat) (t : ByteArray) (h : l[i]? = some t) : catB (l.take (i + 1)) = catB (l.take i) ++ t := by
  induction l generalizing i with
  | nil => simp at h
  | cons x l ih =>
    cases i with
    | zero =>
      simp at h
      subst h
      show x ++ ByteArray.empty = ByteArray.empty ++ x
      simp
    | succ i =>
      simp at h
      show x ++ catB (l.take (i + 1)) = (x ++ catB (l.take i)) ++ t
      rw [ih i h, ByteArray.append_assoc]
theorem catB_size (l : List ByteArray) : (catB l).size = totB l := by
  induction l with
  | nil => rfl
  | cons x l ih => show (x ++ catB l).size = _; rw [ByteArray.size_append, ih]; rfl
theorem encode52_den (c : CF) (hok : HDok c.g) : DenV Tryz.prog 10 [cfM c] (.tup [.c (sC (encC c).1), .c (iC (encC c).2)]) := by
  refine Den.frame (by simp [cfM, ltB, ltBs]) rfl ?_
  have p1 := check52_den c hok
  have kl := cfC_len c
  have kt : (cfC c).take 104 = cfC c := List.take_of_length_le (by omega)
  have kg := cfC_g c
  have ktt := cfC_t c
  have hec : encC c = if checkC c = 0 then (encB c, 0) else (e0, checkC c) := rfl
  unfold cfM at *
  by_cases h0 : checkC c = 0
  · have hI := check_ints c h0
    have htot := partsL_tot c hI
    have htk := fun i t h => totB_take (partsL c) i t h
    have p3 := bytes17_den c.g hok
    have p4 := raw_den' c.t.1 c.t.2
    rw [h0] at p1 hec
    simp only [if_true] at hec
    rw [hec]
    have hz1 := bs_size (hdL c.g)
    rw [hdL_len] at hz1
    have hz2 := bs_size c.t.1
    rw [c.t.2] at hz2
    have hc2 : bsS (hdL c.g) ++ bsS c.t.1 = catB ((partsL c).take (2 + 0)) := by
      show _ = bsS (hdL c.g) ++ (bsS c.t.1 ++ ByteArray.empty)
      simp
    have hsz : (bsS (hdL c.g)).size + (bsS c.t.1).size ≤ 9223372036854775807 := by omega
    have hgl := hdC_len c.g
    have hgt : (hdC c.g).take 66 = hdC c.g := List.take_of_length_le (by omega)
    have htl : (c.t.1.map bC8).length = 32 := by simp [c.t.2]
    have hig := intsL_get c
    have hil : (intsL c).length = 6 := rfl
    have hpl : (partsL c).length = 8 := rfl
    have k0 : (cfC c)[98]? = some (iC c.m) := cfC_n c 0
    have k1 : (cfC c)[99]? = some (iC c.k) := cfC_n c 1
    have k2 : (cfC c)[100]? = some (iC c.a) := cfC_n c 2
    have k3 : (cfC c)[101]? = some (iC c.b) := cfC_n c 3
    have k4 : (cfC c)[102]? = some (iC c.mb) := cfC_n c 4
    have k5 : (cfC c)[103]? = some (iC c.mp) := cfC_n c 5
    unfold hdM at p3
    unfold hashM at p4
    simp only [iC] at k0 k1 k2 k3 k4 k5
    generalize hdC c.g = G at *
    generalize bsS (hdL c.g) = bh at *
    generalize c.t.1.map bC8 = T at *
    generalize bsS c.t.1 = bt at *
    generalize hK : cfC c = K at *
    have hcl : ((intsL c).map iC).length = 6 := rfl
    have hcg : ∀ k x, (intsL c)[k]? = some x → ((intsL c).map iC)[k]? = some (iC x) := fun k x h => by rw [List.getElem?_map, h]; rfl
    have hcI : ((((((List.replicate 6 (C.v (Value.int .i64 0))).set 0 (C.v (.int .i64 c.m))).set 1 (C.v (.int .i64 c.k))).set 2 (C.v (.int .i64 c.a))).set 3 (C.v (.int .i64 c.b))).set 4 (C.v (.int .i64 c.mb))).set 5 (C.v (.int .i64 c.mp)) = (intsL c).map iC := rfl
    generalize (intsL c).map iC = CI at *
    refine den_of Tryz.func10 rfl rfl (by simp [Tryz.ntmps10]) (fun X hX hO => ?_)
    rw [Tryz.ntmps10] at hX
    simp only [Tryz.results10]
    repeat' (first 
     | (with_reducible first | refine awp_scope ?_ | refine awp_seq ?_ | refine awp_block ?_)
     | ((with_reducible first | refine awp_label ?_ | refine awp_skip ?_ | refine awp_exit ?_ | refine hother _ _ rfl ?_); try simp only [thenA, inBlockA, noGotoA, if_true, Nat.reduceEqDiff, if_false, ↓reduceIte])
     | ((with_reducible first | refine awp_reg 48 hX [1, 2, 3, 4, 5, 6, 7, 11, 36] ?_ | refine awp_drw 48 hX [1, 2, 3, 4, 5, 6, 7, 11, 36] Tab.mixed (by kernel_rfl) ?_ | refine DEv_cut _ _ _ _ _ _ _ _ _ _ _ _ (by kernel_rfl) ?_ | change postOf _ _ _ _ _); simp [-List.reduceReplicate, Nat.add_one_le_iff, -getElem?_pos, -getElem?_neg, iC, sC, kl, kt, kg, ktt, hgl, hgt, htl, k0, k1, k2, k3, k4, k5, hc2, hsz, hcI])
     | ((first | (with_reducible refine awp_ret ?_; try simp only [thenA, inBlockA, noGotoA]) | (refine (p1 _).det ?_) | (refine ⟨_, _, p1 _, fun _ => rfl, ?_⟩) | (refine (p3 _).det ?_) | (refine ⟨_, _, p3 _, fun _ => rfl, ?_⟩) | (refine (p4 _).det ?_) | (refine ⟨_, _, p4 _, fun _ => rfl, ?_⟩)); try simp [-List.reduceReplicate, Nat.add_one_le_iff, -getElem?_pos, -getElem?_neg, iC, sC, kl, kt, kg, ktt, hgl, hgt, htl, k0, k1, k2, k3, k4, k5, hc2, hsz, hcI])
     | (with_reducible refine awp_if_b rfl (fun hc => ?_) (fun hc => ?_) <;> (try simp [-getElem?_pos, -getElem?_neg] at hc) <;> (try (exfalso; omega)))
     | (with_reducible refine And.intro (by omega) ?_)
     | fail)
    refine awp_forU [5, 6, 7] (fun k (_u : Unit) => [(5, .c (.sl CI 6 true)), (6, .c (sC (catB ((partsL c).take (2 + k))))), (7, .c (iC k))]) (fun k (_u : Unit) => [⟨29, 1, false, 0, up K, none⟩]) (fun k (_u : Unit) => True) (6) (()) (by first | trivial | (simp; done) | omega | (intros; simp at *; done)) (by simp [-List.reduceReplicate, keep, iC, sC]) (by simp [-List.reduceReplicate, iC, sC]) ?_
    rintro k _u Q1 hi hH next hother
    conv => arg 5; arg 1; simp only [List.cons_append, List.nil_append, keep, get, Nat.reduceEqDiff, if_true, if_false, ↓reduceIte]
    have hwk := wrap_in ((k : Int) + 1) (by omega)
    by_cases hlt : k < 6
    · obtain ⟨x, hx⟩ : ∃ x, (intsL c)[k]? = some x := ⟨_, List.getElem?_eq_getElem (by omega)⟩
      obtain ⟨hx1, hx2⟩ := hI x (List.mem_of_getElem? hx)
      obtain ⟨g1, g2, _⟩ := hig k x hx
      have hg := hcg k x hx
      have ht := htk (2 + k) _ g2
      have hw := catB_take (partsL c) (2 + k) _ g2
      have hcs := catB_size ((partsL c).take (2 + k))
      rw [show 2 + k + 1 = 2 + (k + 1) by omega] at hw
      have hq := ref07_put_den x.toNat (by omega)
      have hss : (catB ((partsL c).take (2 + k))).size + (bsS (putV x.toNat)).size ≤ 9223372036854775807 := by omega
      have hxn : ((x.toNat : Nat) : Int) = x := by omega
      have hwx := wrapU64 x (by omega)
      unfold u64C at hq
      rw [hxn] at hq
      have h3 : (k : Int) < 6 := by omega
      have h5 : (k : Int) ≤ 5 := by omega
      have h6 : k ≤ 5 := by omega
      generalize bsS (putV x.toNat) = q at *
      generalize catB ((partsL c).take (2 + (k + 1))) = s2 at *
      generalize catB ((partsL c).take (2 + k)) = s1 at *
      repeat' (first 
       | (with_reducible first | refine awp_scope ?_ | refine awp_seq ?_ | refine awp_block ?_)
       | ((with_reducible first | refine awp_label ?_ | refine awp_skip ?_ | refine awp_exit ?_ | refine hother _ _ rfl ?_); try simp only [thenA, inBlockA, noGotoA, if_true, Nat.reduceEqDiff, if_false, ↓reduceIte])
       | ((with_reducible first | refine awp_reg 48 hX [1, 2, 3, 4, 5, 6, 7, 11, 36] ?_ | refine awp_drw 48 hX [1, 2, 3, 4, 5, 6, 7, 11, 36] Tab.mixed (by kernel_rfl) ?_ | refine DEv_cut _ _ _ _ _ _ _ _ _ _ _ _ (by kernel_rfl) ?_ | change postOf _ _ _ _ _); simp [-List.reduceReplicate, Nat.add_one_le_iff, -getElem?_pos, -getElem?_neg, iC, sC, hlt, h3, h5, h6, hwk, hwx, hcl, hg, hss, ← hw])
       | ((first | (with_reducible refine awp_ret ?_; try simp only [thenA, inBlockA, noGotoA]) | (refine (hq _).det ?_) | (refine ⟨_, _, hq _, fun _ => rfl, ?_⟩)); try simp [-List.reduceReplicate, Nat.add_one_le_iff, -getElem?_pos, -getElem?_neg, iC, sC, hlt, h3, h5, h6, hwk, hwx, hcl, hg, hss, ← hw])
       | (with_reducible refine awp_if_b rfl (fun hc => ?_) (fun hc => ?_) <;> (try simp [-getElem?_pos, -getElem?_neg] at hc) <;> (try (exfalso; omega)))
       | (with_reducible refine And.intro (by omega) ?_)
       | fail)
      refine next _ _ (()) (by omega) (by first | trivial | omega | assumption) (by simp [-List.reduceReplicate, keep, iC, sC]) (by simp [-List.reduceReplicate, iC, sC])
    · obtain rfl : k = 6 := by omega
      have hexit := hother; clear next hother
      have hfull : (partsL c).take (2 + 6) = partsL c := List.take_of_length_le (by omega)
      rw [hfull, show catB (partsL c) = encB c from rfl]
      repeat' (first 
       | (with_reducible first | refine awp_scope ?_ | refine awp_seq ?_ | refine awp_block ?_)
       | ((with_reducible first | refine awp_label ?_ | refine awp_skip ?_ | refine awp_exit ?_ | refine hother _ _ rfl ?_); try simp only [thenA, inBlockA, noGotoA, if_true, Nat.reduceEqDiff, if_false, ↓reduceIte])
       | ((with_reducible first | refine awp_reg 48 hX [1, 2, 3, 4, 5, 6, 7, 11, 36] ?_ | refine awp_drw 48 hX [1, 2, 3, 4, 5, 6, 7, 11, 36] Tab.mixed (by kernel_rfl) ?_ | refine DEv_cut _ _ _ _ _ _ _ _ _ _ _ _ (by kernel_rfl) ?_ | change postOf _ _ _ _ _); simp [-List.reduceReplicate, Nat.add_one_le_iff, -getElem?_pos, -getElem?_neg, iC, hcl])
       | ((first | (with_reducible refine awp_ret ?_; try simp only [thenA, inBlockA, noGotoA])); try simp [-List.reduceReplicate, Nat.add_one_le_iff, -getElem?_pos, -getElem?_neg, iC, hcl])
       | (with_reducible refine awp_if_b rfl (fun hc => ?_) (fun hc => ?_) <;> (try simp [-getElem?_pos, -getElem?_neg] at hc) <;> (try (exfalso; omega)))
       | (with_reducible refine And.intro (by omega) ?_)
       | fail)
      refine hexit _ _ rfl ?_
      simp only [inBlockA, thenA, ↓reduceIte]
      clear hexit
      repeat' (first 
       | (with_reducible first | refine awp_scope ?_ | refine awp_seq ?_ | refine awp_block ?_)
       | ((with_reducible first | refine awp_label ?_ | refine awp_skip ?_ | refine awp_exit ?_ | refine hother _ _ rfl ?_); try simp only [thenA, inBlockA, noGotoA, if_true, Nat.reduceEqDiff, if_false, ↓reduceIte])
       | ((with_reducible first | refine awp_reg 48 hX [1, 2, 3, 4, 5, 6, 7, 11, 36] ?_ | refine awp_drw 48 hX [1, 2, 3, 4, 5, 6, 7, 11, 36] Tab.mixed (by kernel_rfl) ?_ | refine DEv_cut _ _ _ _ _ _ _ _ _ _ _ _ (by kernel_rfl) ?_ | change postOf _ _ _ _ _); simp [-List.reduceReplicate, Nat.add_one_le_iff, -getElem?_pos, -getElem?_neg, iC, sC])
       | ((first | (with_reducible refine awp_ret ?_; try simp only [thenA, inBlockA, noGotoA])); try simp [-List.reduceReplicate, Nat.add_one_le_iff, -getElem?_pos, -getElem?_neg, iC, sC])
       | (with_reducible refine awp_if_b rfl (fun hc => ?_) (fun hc => ?_) <;> (try simp [-getElem?_pos, -getElem?_neg] at hc) <;> (try (exfalso; omega)))
       | (with_reducible refine And.intro (by omega) ?_)
       | fail)
  · rw [if_neg h0] at hec
    rw [hec]
    generalize checkC c = e at *
    generalize cfC c = K at *
    refine den_of Tryz.func10 rfl rfl (by simp [Tryz.ntmps10]) (fun X hX hO => ?_)
    rw [Tryz.ntmps10] at hX
    simp only [Tryz.results10]
    repeat' (first 
     | (with_reducible first | refine awp_scope ?_ | refine awp_seq ?_ | refine awp_block ?_)
     | ((with_reducible first | refine awp_label ?_ | refine awp_skip ?_ | refine awp_exit ?_ | refine hother _ _ rfl ?_); try simp only [thenA, inBlockA, noGotoA, if_true, Nat.reduceEqDiff, if_false, ↓reduceIte])
     | ((with_reducible first | refine awp_reg 48 hX [1, 2, 3, 4, 5, 6, 7, 11, 36] ?_ | refine awp_drw 48 hX [1, 2, 3, 4, 5, 6, 7, 11, 36] Tab.mixed (by kernel_rfl) ?_ | refine DEv_cut _ _ _ _ _ _ _ _ _ _ _ _ (by kernel_rfl) ?_ | change postOf _ _ _ _ _); simp [-List.reduceReplicate, Nat.add_one_le_iff, -getElem?_pos, -getElem?_neg, iC, sC, kl, kt, h0, mk_e0, mk_e1])
     | ((first | (with_reducible refine awp_ret ?_; try simp only [thenA, inBlockA, noGotoA]) | (refine (p1 _).det ?_) | (refine ⟨_, _, p1 _, fun _ => rfl, ?_⟩)); try simp [-List.reduceReplicate, Nat.add_one_le_iff, -getElem?_pos, -getElem?_neg, iC, sC, kl, kt, h0, mk_e0, mk_e1])
     | (with_reducible refine awp_if_b rfl (fun hc => ?_) (fun hc => ?_) <;> (try simp [-getElem?_pos, -getElem?_neg] at hc) <;> (try (exfalso; omega)))
     | (with_reducible refine And.intro (by omega) ?_)
     | fail)
end Go.Av

set_option exponentiation.threshold 1000
set_option linter.unusedVariables false
set_option linter.unusedSimpArgs false
set_option maxRecDepth 100000
set_option maxHeartbeats 4000000
namespace Go.Av
open Go Go.Proofs Go.Proofs.YtpcnacknlgmmlaaGreat Go.RowKit
attribute [local simp] List.getElem?_cons_zero List.getElem?_cons_succ
end Go.Av

set_option exponentiation.threshold 1000
set_option linter.unusedVariables false
set_option linter.unusedSimpArgs false
set_option maxRecDepth 100000
set_option maxHeartbeats 4000000
namespace Go.Av
open Go Go.Proofs Go.Proofs.YtpcnacknlgmmlaaGreat Go.RowKit
attribute [local simp] List.getElem?_cons_zero List.getElem?_cons_succ
/-! ### headers as arguments -/
theorem reads_app {W : World} {es1 es2 : List C} {cs : List Value} (k : Nat) (h1 : Reads W es1 (cs.take k)) (h2 : Reads W es2 (cs.drop k)) (hk : es1.length = k) : Reads W (es1 ++ es2) cs := by
  have hl : k ≤ cs.length := by
    have := h1.1
    rw [hk, List.length_take] at this
    omega
  refine ⟨?_, fun j c y hc hy => ?_⟩
  · have := h2.1
    rw [List.length_drop] at this
    rw [List.length_append]
    omega
  · by_cases hj : j < k
    · rw [List.getElem?_append_left (by omega)] at hc
      exact h1.2 j c y hc (by rw [List.getElem?_take_of_lt hj]; exact hy)
    · rw [List.getElem?_append_right (by omega), hk] at hc
      exact h2.2 (j - k) c y hc (by rw [List.getElem?_drop, show k + (j - k) = j by omega]; exact hy)
theorem opens_u32 {P : Program} {t : TypeId} (ht : P.underlying t = some (.int .u32)) : Opens P t (fun n : Nat => [u32v n]) (fun n => n < 4294967296) :=
  (opens_int ht).conv fun n hn => by
    have h : 0 ≤ n ∧ n ≤ 4294967295 := by simpa [Lit.wf, IntKind.min, IntKind.max, IntKind.signed, IntKind.bits] using hn
    exact ⟨n.toNat, by omega, by simp only [u32v]; rw [show ((n.toNat : Nat) : Int) = n by omega]⟩
theorem opens_header {P : Program} {t tv th tb tn : TypeId} {fs : Array Field} (ht : P.underlying t = some (.struct fs)) (hv : P.underlying tv = some (.int .u32)) (hh : P.underlying th = some (.array 32 tb)) (hb : P.underlying tb = some (.int .u8)) (hn : P.underlying tn = some (.int .u64))
    (c1 : P.cellsOf tv = 1) (c2 : P.cellsOf th = 32) (c3 : P.cellsOf tb = 1) (c4 : P.cellsOf tn = 1) (c5 : P.cellsOf t = 66)
    (f0 : (fs[0]?).map (fun f => (f.offset, f.type)) = some (0, tv)) (f1 : (fs[1]?).map (fun f => (f.offset, f.type)) = some (1, th)) (f2 : (fs[2]?).map (fun f => (f.offset, f.type)) = some (33, th)) (f3 : (fs[3]?).map (fun f => (f.offset, f.type)) = some (65, tn)) (hs : fs.size = 4) :
    Opens P t hdC HDok := fun H e0 W fuel cs x hx => by
  obtain ⟨xs, m, _, _, hlen, hxl, hel⟩ := DataW.trod_struct ht hx
  have key : ∀ (i off : Nat) (q : TypeId), (fs[i]?).map (fun f => (f.offset, f.type)) = some (off, q) → ∃ y, DataW.trod e0 P W 0 (fun _ => true) true m q ((cs.drop off).take (P.cellsOf q)) = some y := by
    intro i off q h
    rw [Option.map_eq_some_iff] at h
    obtain ⟨f, hf, he⟩ := h
    simp only [Prod.mk.injEq] at he
    obtain ⟨rfl, rfl⟩ := he
    have hlt := (Array.getElem?_eq_some_iff.1 hf).1
    rw [hel i f hf]
    exact ⟨xs[i], List.getElem?_eq_getElem (by omega)⟩
  obtain ⟨y0, h0⟩ := key 0 _ _ f0
  obtain ⟨y1, h1⟩ := key 1 _ _ f1
  obtain ⟨y2, h2⟩ := key 2 _ _ f2
  obtain ⟨y3, h3⟩ := key 3 _ _ f3
  obtain ⟨v, hv1, r0⟩ := opens_u32 hv H e0 W _ _ _ h0
  obtain ⟨a, _, r1⟩ := opens_hash hh hb c3 c2 H e0 W _ _ _ h1
  obtain ⟨b, _, r2⟩ := opens_hash hh hb c3 c2 H e0 W _ _ _ h2
  obtain ⟨n, hn1, r3⟩ := opens_u64 hn H e0 W _ _ _ h3
  rw [c1, List.drop_zero] at r0
  rw [c2] at r1 r2
  rw [c4] at r3
  rw [c5] at hlen
  rw [List.take_of_length_le (by rw [List.length_drop]; omega)] at r3
  refine ⟨⟨v, a, b, n⟩, ⟨hv1, hn1⟩, ?_⟩
  refine reads_app 1 r0 (reads_app 32 r1 (reads_app 32 ?_ ?_ ?_) ?_) rfl
  · rw [List.drop_drop]; exact r2
  · rw [List.drop_drop, List.drop_drop]; exact r3
  · rw [List.length_map]; exact b.2
  · rw [List.length_map]; exact a.2
end Go.Av

set_option exponentiation.threshold 1000
set_option linter.unusedVariables false
set_option linter.unusedSimpArgs false
set_option maxRecDepth 100000
set_option maxHeartbeats 4000000
namespace Go.Av
open Go Go.Proofs Go.Proofs.YtpcnacknlgmmlaaGreat Go.RowKit
attribute [local simp] List.getElem?_cons_zero List.getElem?_cons_succ
/-! ### a configuration as an argument -/
def cfA (p : HD × H32 × Int × Int × Int × Int × Int × Int) : CF := ⟨p.1, p.2.1, p.2.2.1, p.2.2.2.1, p.2.2.2.2.1, p.2.2.2.2.2.1, p.2.2.2.2.2.2.1, p.2.2.2.2.2.2.2⟩
theorem opens_cfg {P : Program} {t ti th tb tH tv tn : TypeId} {fs fh : Array Field} (ht : P.underlying t = some (.struct fs)) (hi : P.underlying ti = some (.int .i64)) (hh : P.underlying th = some (.array 32 tb)) (hb : P.underlying tb = some (.int .u8))
    (hH : P.underlying tH = some (.struct fh)) (hv' : P.underlying tv = some (.int .u32)) (hn : P.underlying tn = some (.int .u64))
    (s0 : (fs[0]?).map (fun f => (f.offset, f.type)) = some (0, tH)) (s1 : (fs[1]?).map (fun f => (f.offset, f.type)) = some (66, th)) (s2 : (fs[2]?).map (fun f => (f.offset, f.type)) = some (98, ti)) (s3 : (fs[3]?).map (fun f => (f.offset, f.type)) = some (99, ti)) (s4 : (fs[4]?).map (fun f => (f.offset, f.type)) = some (100, ti)) (s5 : (fs[5]?).map (fun f => (f.offset, f.type)) = some (101, ti)) (s6 : (fs[6]?).map (fun f => (f.offset, f.type)) = some (102, ti)) (s7 : (fs[7]?).map (fun f => (f.offset, f.type)) = some (103, ti))
    (k0 : P.cellsOf t = 104) (k1 : P.cellsOf tH = 66) (c1 : P.cellsOf ti = 1) (c3 : P.cellsOf th = 32) (c4 : P.cellsOf tb = 1)
    (d1 : P.cellsOf tv = 1) (d4 : P.cellsOf tn = 1) (g0 : (fh[0]?).map (fun f => (f.offset, f.type)) = some (0, tv)) (g1 : (fh[1]?).map (fun f => (f.offset, f.type)) = some (1, th)) (g2 : (fh[2]?).map (fun f => (f.offset, f.type)) = some (33, th)) (g3 : (fh[3]?).map (fun f => (f.offset, f.type)) = some (65, tn)) (gs : fh.size = 4) :
    Opens P t cfC (fun c => HDok c.g) :=
  (((seg_field 0 0 66 ht s0 k1 (opens_header hH hv' hh hb hn d1 c3 c4 d4 k1 g0 g1 g2 g3 gs)).app ((seg_field 1 66 32 ht s1 c3 (opens_hash hh hb c4 c3)).app ((seg_field 2 98 1 ht s2 c1 (opens_int hi)).app ((seg_field 3 99 1 ht s3 c1 (opens_int hi)).app ((seg_field 4 100 1 ht s4 c1 (opens_int hi)).app ((seg_field 5 101 1 ht s5 c1 (opens_int hi)).app ((seg_field 6 102 1 ht s6 c1 (opens_int hi)).app (seg_field 7 103 1 ht s7 c1 (opens_int hi)) (fun _ => rfl)) (fun _ => rfl)) (fun _ => rfl)) (fun _ => rfl)) (fun _ => rfl)) (fun h => by simp [h.2])) hdC_len).opens ht k0).conv fun p hp => ⟨cfA p, hp.1, rfl⟩
end Go.Av

set_option exponentiation.threshold 1000
set_option linter.unusedVariables false
set_option linter.unusedSimpArgs false
set_option maxRecDepth 100000
set_option maxHeartbeats 4000000
namespace Go.Av
open Go Go.Proofs Go.Proofs.YtpcnacknlgmmlaaGreat Go.RowKit
attribute [local simp] List.getElem?_cons_zero List.getElem?_cons_succ
/-! ### ConfigChecks -/
attribute [local simp] Tryz.underlying9 Tryz.underlying3 Tryz.underlying4 Tryz.underlying30 Tryz.underlying29
theorem configChecks_den (c : CF) (hok : HDok c.g) : DenV Tryz.prog 4 [cfM c] (.c (bC true)) := by
  refine Den.frame (by simp [cfM, ltB, ltBs]) rfl ?_
  have p1 := check_den c hok
  have p2 := check52_den c hok
  have p3 := encode_den c hok
  have p4 := encode52_den c hok
  have kl := cfC_len c
  have kt : (cfC c).take 104 = cfC c := List.take_of_length_le (by omega)
  have aw := awake52_den
  unfold cfM at *
  generalize checkC c = e1 at *
  generalize encC c = q at *
  obtain ⟨s, e2⟩ := q
  generalize cfC c = K at *
  refine den_of Tryz.func4 rfl rfl (by simp [Tryz.ntmps4]) (fun X hX hO => ?_)
  rw [Tryz.ntmps4] at hX
  simp only [Tryz.results4]
  repeat' (first 
   | (with_reducible first | refine awp_scope ?_ | refine awp_seq ?_ | refine awp_block ?_)
   | ((with_reducible first | refine awp_label ?_ | refine awp_skip ?_ | refine awp_exit ?_); try simp only [thenA, inBlockA, noGotoA, if_true, Nat.reduceEqDiff, if_false, ↓reduceIte])
   | ((with_reducible first | refine awp_reg 35 hX [1, 2, 3, 4, 5, 6] ?_ | refine awp_drw 35 hX [1, 2, 3, 4, 5, 6] Tab.mixed (by kernel_rfl) ?_ | refine DEv_cut _ _ _ _ _ _ _ _ _ _ _ _ (by kernel_rfl) ?_ | change postOf _ _ _ _ _); simp [-List.reduceReplicate, Nat.add_one_le_iff, -getElem?_pos, -getElem?_neg, iC, sC, bC, kl, kt])
   | ((first | (with_reducible refine awp_ret ?_; try simp only [thenA, inBlockA, noGotoA]) | (refine (p1 _).det ?_) | (refine ⟨_, _, p1 _, fun _ => rfl, ?_⟩) | (refine (p2 _).det ?_) | (refine ⟨_, _, p2 _, fun _ => rfl, ?_⟩) | (refine (p3 _).det ?_) | (refine ⟨_, _, p3 _, fun _ => rfl, ?_⟩) | (refine (p4 _).det ?_) | (refine ⟨_, _, p4 _, fun _ => rfl, ?_⟩) | (refine (aw _).det ?_) | (refine ⟨_, _, aw _, fun _ => rfl, ?_⟩)); try simp [-List.reduceReplicate, Nat.add_one_le_iff, -getElem?_pos, -getElem?_neg, iC, sC, bC, kl, kt])
   | (with_reducible refine awp_if_b rfl (fun hc => ?_) (fun hc => ?_) <;> (try simp [-getElem?_pos, -getElem?_neg] at hc) <;> (try (exfalso; omega)))
   | ((with_reducible first | refine GuardK_b (fun hc => ?_) (fun hc => ?_) | refine DGuard_b _ _ _ _ _ _ _ _ _ _ (fun hc => ?_) (fun hc => ?_)) <;> (try simp only [Bool.not_eq_true', Bool.not_eq_false', decide_eq_true_eq, decide_eq_false_iff_not] at hc) <;> (first | (exfalso; omega) | skip) <;> simp [-List.reduceReplicate, Nat.add_one_le_iff, -getElem?_pos, -getElem?_neg, iC, sC, bC, kl, kt, hc])
   | (with_reducible refine And.intro (by omega) ?_)
   | fail)
end Go.Av
