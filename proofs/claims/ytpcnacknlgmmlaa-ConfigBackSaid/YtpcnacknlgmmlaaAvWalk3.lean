/- 8 texts of the program logic over abstract values, joined: each is proved without any condition beyond its own words. -/
import Derived.Test.YtpcnacknlgmmlaaAvWalk2
import Derived.Test.YtpcnacknlgmmlaaAvEngine4
set_option exponentiation.threshold 1000
set_option linter.unusedVariables false
set_option linter.unusedSimpArgs false
set_option maxRecDepth 100000
set_option maxHeartbeats 4000000
namespace Go.Av
open Go Go.Proofs Go.Proofs.Ytpcnacknlgmmlaa Go.RowKit
attribute [local simp] List.getElem?_cons_zero List.getElem?_cons_succ
attribute [local simp] Try.underlying9 Try.underlying3 Try.underlying4 Try.underlying27 Try.underlying45 Try.underlying47 Try.underlying49 Try.underlying64 Try.underlying67 Try.underlying22 Try.underlying95 Try.underlying37
def intsL (c : CF) : List Int := [c.m, c.k, c.a, c.b, c.mb, c.mp]
def partsL (c : CF) : List ByteArray := bsS (hdL c.g) :: bsS c.t.1 :: (intsL c).map fun x => bsS (putV x.toNat)
def encB (c : CF) : ByteArray := catB (partsL c)
def encC (c : CF) : ByteArray × Int := if checkC c = 0 then (encB c, 0) else (e0, checkC c)
theorem check_ints (c : CF) (h : checkC c = 0) : ∀ x ∈ intsL c, 0 < x ∧ x ≤ 65536 := by
  unfold checkC at h
  split at h
  · simp at h
  · split at h
    · simp at h
    · rename_i h2
      split at h
      · simp at h
      · rename_i h3
        simp [mayP, mayR] at h2
        simp [rangeC] at h3
        intro x hx
        simp [intsL] at hx
        rcases hx with rfl | rfl | rfl | rfl | rfl | rfl <;> omega
theorem partsL_tot (c : CF) (h : ∀ x ∈ intsL c, 0 < x ∧ x ≤ 65536) : totB (partsL c) ≤ 168 := by
  have h1 : ∀ x ∈ intsL c, (bsS (putV x.toNat)).size ≤ 10 := fun x hx => by
    rw [bs_size]
    exact putV_len10 _ (by have := h x hx; omega)
  simp only [intsL, List.mem_cons, List.mem_nil_iff, or_false, forall_eq_or_imp, forall_eq] at h1
  simp only [partsL, totB, intsL, List.map_cons, List.map_nil]
  rw [bs_size, bs_size, hdL_len, c.t.2]
  omega
def bf0 : Bf := ⟨false, 0, true, e0⟩
theorem bf0_ok : bf0.ok := rfl
theorem intsL_get (c : CF) (k : Nat) (x : Int) (h : (intsL c)[k]? = some x) : (cfC c)[98 + k]? = some (iC x) ∧ (partsL c)[2 + k]? = some (bsS (putV x.toNat)) ∧ k < 6 := by
  match k, h with
  | 0, h | 1, h | 2, h | 3, h | 4, h | 5, h => obtain rfl := Option.some.inj h; exact ⟨by rw [cfC_n]; rfl, rfl, by omega⟩
  | k + 6, h => simp [intsL] at h
theorem okCu3 (K : List C) (s : Bf) : okCu [cfO K, bufO 1 s, bytO s] := by
  have hu : ∀ (n : Nat) (L : List C), ∀ x ∈ up L, ltB n x = true := fun n L x hx => by simp only [up, List.mem_map] at hx; obtain ⟨_, _, rfl⟩ := hx; rfl
  cases hw : s.w <;> simp [okCu, cfO, bufO, bytO, addrM, hw, ltB] <;> exact ⟨hu _ _, hu _ _⟩
theorem setB3 (o : Ob) (s t : Bf) (r : List Ob) : setB (o :: bufO 1 s :: bytO s :: r) 1 t = o :: bufO 1 t :: bytO t :: r := rfl
theorem encB_b (c : CF) : (wsB bf0 (partsL c)).b = encB c := by
  rw [wsB_b]
  show e0 ++ catB (partsL c) = catB (partsL c)
  show ByteArray.empty ++ _ = _
  simp
theorem encode_den (c : CF) (hok : HDok c.g) : DenV Try.prog 17 [cfM c] (.tup [.c (sC (encC c).1), .c (iC (encC c).2)]) := by
  refine Den.frame (by simp [cfM, ltB, ltBs]) rfl ?_
  have p1 := check_den c hok
  have kl := cfC_len c
  have kt : (cfC c).take 104 = cfC c := List.take_of_length_le (by omega)
  have kg := cfC_g c
  have ktt := cfC_t c
  have hec : encC c = if checkC c = 0 then (encB c, 0) else (e0, checkC c) := rfl
  unfold cfM at *
  by_cases h0 : checkC c = 0
  · have hI := check_ints c h0
    have htot := partsL_tot c hI
    have htk := fun i t h => totB_take (partsL c) i t h
    have p2 := bufNew_den [cfO (cfC c)]
    have p3 := headBytes_den c.g hok
    rw [h0] at p1 hec
    simp only [if_true] at hec
    rw [hec, ← encB_b]
    have wt := fun i t => wsB_take bf0 (partsL c) i t
    have w1 : wB bf0 (bsS (hdL c.g)) = wsB bf0 ((partsL c).take 1) := rfl
    have w2 : wB (wsB bf0 ((partsL c).take 1)) (bsS c.t.1) = wsB bf0 ((partsL c).take (2 + 0)) := rfl
    have hz1 := bs_size (hdL c.g)
    rw [hdL_len] at hz1
    have hz2 := bs_size c.t.1
    rw [c.t.2] at hz2
    have q1 := bufRaw2_den 1 bf0 [bsS (hdL c.g)] 1 rfl true [cfO (cfC c), bufO 1 bf0, bytO bf0] rfl rfl (by simp only [totB, hz1]; decide) (by omega)
    simp only [wsB, w1, setB3, List.map_cons, List.map_nil] at q1
    have hs1 : (wsB bf0 ((partsL c).take 1)).b.size ≤ 168 := by rw [wsB_size]; show bf0.b.size + totB [bsS (hdL c.g)] ≤ 168; simp only [totB, hz1]; decide
    have q2 := bufHash_den 1 (wsB bf0 ((partsL c).take 1)) [c.t] 1 rfl true [cfO (cfC c), bufO 1 (wsB bf0 ((partsL c).take 1)), bytO (wsB bf0 ((partsL c).take 1))] rfl rfl (okCu3 _ _) (by simp only [List.map_cons, List.map_nil, totB, hz2]; omega) (by omega)
    simp only [List.map_cons, List.map_nil, setB3] at q2
    rw [show wsB (wsB bf0 ((partsL c).take 1)) [bsS c.t.1] = wsB bf0 ((partsL c).take (2 + 0)) from w2, show hsC [c.t] = c.t.1.map bC8 by simp [hsC]] at q2
    have q3 := nums_den 0 (cfC c) kl [cfO (cfC c), bufO 1 (wsB bf0 ((partsL c).take (2 + 0))), bytO (wsB bf0 ((partsL c).take (2 + 0)))] rfl
    have hpl : (partsL c).length = 8 := rfl
    have hgl := hdC_len c.g
    have hgt : (hdC c.g).take 66 = hdC c.g := List.take_of_length_le (by omega)
    have htl : (c.t.1.map bC8).length = 32 := by simp [c.t.2]
    unfold hdM at p3
    simp only [cfO, numsO, List.length_cons, List.length_nil, List.cons_append, List.nil_append, show (⟨false, 0, true, e0⟩ : Bf) = bf0 from rfl] at p2 q1 q2 q3
    have hnl : (numsL 0).length = 6 := rfl
    have hng := numsL_get 0
    have hig := intsL_get c
    have hil : (intsL c).length = 6 := rfl
    generalize numsL 0 = NL at *
    generalize hdC c.g = G at *
    generalize bsS (hdL c.g) = bh at *
    generalize c.t.1.map bC8 = T at *
    generalize hK : cfC c = K at *
    refine den_of Try.func17 rfl rfl (by simp [Try.ntmps17]) (fun X hX hO => ?_)
    rw [Try.ntmps17] at hX
    simp only [Try.results17]
    repeat' (first 
     | (with_reducible first | refine awp_scope ?_ | refine awp_seq ?_ | refine awp_block ?_)
     | ((with_reducible first | refine awp_label ?_ | refine awp_skip ?_ | refine awp_exit ?_ | refine hother _ _ rfl ?_); try simp only [thenA, inBlockA, noGotoA, if_true, Nat.reduceEqDiff, if_false, ↓reduceIte])
     | ((with_reducible first | refine awp_reg 40 hX [1, 2, 3, 4, 5, 7, 11, 25, 26, 27, 28] ?_ | change postOf _ _ _ _ _); simp [-List.reduceReplicate, Nat.add_one_le_iff, -getElem?_pos, -getElem?_neg, iC, sC, kl, kt, kg, ktt, hgl, hgt, htl, hnl])
     | ((first | (with_reducible refine awp_ret ?_; try simp only [thenA, inBlockA, noGotoA]) | (refine (p1 _).det ?_) | (refine (p2).det ?_) | (refine (p3 _).det ?_) | (refine (q1).det ?_) | (refine (q2).det ?_) | (refine (q3).det ?_)); try simp [-List.reduceReplicate, Nat.add_one_le_iff, -getElem?_pos, -getElem?_neg, iC, sC, kl, kt, kg, ktt, hgl, hgt, htl, hnl])
     | (with_reducible refine awp_if_b rfl (fun hc => ?_) (fun hc => ?_) <;> (try simp [-getElem?_pos, -getElem?_neg] at hc) <;> (try (exfalso; omega)))
     | (with_reducible refine And.intro (by omega) ?_)
     | fail)
    refine awp_forU [5, 25, 26, 27] (fun k (_u : Unit) => [(27, .c (iC k))]) (fun k (_u : Unit) => [⟨49, 1, false, 0, up K, none⟩, bufO 1 (wsB bf0 ((partsL c).take (2 + k))), bytO (wsB bf0 ((partsL c).take (2 + k))), ⟨67, 1, false, 0, NL, none⟩]) (fun k (_u : Unit) => True) (6) (()) (by first | trivial | (simp; done) | omega | (intros; simp at *; done)) (by simp [-List.reduceReplicate, keep, iC]) (by simp [-List.reduceReplicate, iC]) ?_
    rintro k _u Q1 hi hH next hother
    conv => arg 5; arg 1; simp only [List.cons_append, List.nil_append, keep, get, Nat.reduceEqDiff, if_true, if_false, ↓reduceIte]
    have hwk := wrap_in ((k : Int) + 1) (by omega)
    by_cases hlt : k < 6
    · obtain ⟨x, hx⟩ : ∃ x, (intsL c)[k]? = some x := ⟨_, List.getElem?_eq_getElem (by omega)⟩
      obtain ⟨hx1, hx2⟩ := hI x (List.mem_of_getElem? hx)
      obtain ⟨g1, g2, _⟩ := hig k x hx
      have hg := hng k hlt
      have ht := htk (2 + k) _ g2
      have hw := wt (2 + k) _ g2
      rw [show 2 + k + 1 = 2 + (k + 1) by omega] at hw
      have hq := bufNum_den 1 (wsB bf0 ((partsL c).take (2 + k))) x.toNat (by omega) [⟨49, 1, false, 0, up K, none⟩, bufO 1 (wsB bf0 ((partsL c).take (2 + k))), bytO (wsB bf0 ((partsL c).take (2 + k))), ⟨67, 1, false, 0, NL, none⟩] rfl rfl (by rw [wsB_size]; show 0 + _ + 10 ≤ _; omega)
      simp only [setB3] at hq
      rw [← hw] at hq
      have hxn : ((x.toNat : Nat) : Int) = x := by omega
      have hwx := wrapU64 x (by omega)
      unfold u64C at hq
      rw [hxn] at hq
      have h3 : (k : Int) < 6 := by omega
      have h5 : (k : Int) ≤ 5 := by omega
      have h6 : k ≤ 5 := by omega
      generalize wsB bf0 ((partsL c).take (2 + (k + 1))) = s2 at *
      generalize wsB bf0 ((partsL c).take (2 + k)) = s1 at *
      repeat' (first 
       | (with_reducible first | refine awp_scope ?_ | refine awp_seq ?_ | refine awp_block ?_)
       | ((with_reducible first | refine awp_label ?_ | refine awp_skip ?_ | refine awp_exit ?_ | refine hother _ _ rfl ?_); try simp only [thenA, inBlockA, noGotoA, if_true, Nat.reduceEqDiff, if_false, ↓reduceIte])
       | ((with_reducible first | refine awp_reg 40 hX [1, 2, 3, 4, 5, 7, 11, 25, 26, 27, 28] ?_ | change postOf _ _ _ _ _); simp [-List.reduceReplicate, Nat.add_one_le_iff, -getElem?_pos, -getElem?_neg, iC, hlt, h3, h5, h6, hwk, hwx, hnl, hg, g1])
       | ((first | (with_reducible refine awp_ret ?_; try simp only [thenA, inBlockA, noGotoA]) | (refine (hq).det ?_)); try simp [-List.reduceReplicate, Nat.add_one_le_iff, -getElem?_pos, -getElem?_neg, iC, hlt, h3, h5, h6, hwk, hwx, hnl, hg, g1])
       | (with_reducible refine awp_if_b rfl (fun hc => ?_) (fun hc => ?_) <;> (try simp [-getElem?_pos, -getElem?_neg] at hc) <;> (try (exfalso; omega)))
       | (with_reducible refine And.intro (by omega) ?_)
       | fail)
      refine next _ _ (()) (by omega) (by first | trivial | omega | assumption) (by simp [-List.reduceReplicate, keep, iC]) (by simp [-List.reduceReplicate, iC])
    · obtain rfl : k = 6 := by omega
      have hexit := hother; clear next hother
      have hfull : (partsL c).take (2 + 6) = partsL c := List.take_of_length_le (by omega)
      rw [hfull]
      have hokB := wsB_ok (partsL c) bf0 bf0_ok
      have hq := bufBytes_den 1 (wsB bf0 (partsL c)) hokB (by rw [wsB_size]; show 0 + _ ≤ _; omega) [⟨49, 1, false, 0, up K, none⟩, bufO 1 (wsB bf0 (partsL c)), bytO (wsB bf0 (partsL c)), ⟨67, 1, false, 0, NL, none⟩] rfl rfl
      generalize wsB bf0 (partsL c) = s1 at *
      repeat' (first 
       | (with_reducible first | refine awp_scope ?_ | refine awp_seq ?_ | refine awp_block ?_)
       | ((with_reducible first | refine awp_label ?_ | refine awp_skip ?_ | refine awp_exit ?_ | refine hother _ _ rfl ?_); try simp only [thenA, inBlockA, noGotoA, if_true, Nat.reduceEqDiff, if_false, ↓reduceIte])
       | ((with_reducible first | refine awp_reg 40 hX [1, 2, 3, 4, 5, 7, 11, 25, 26, 27, 28] ?_ | change postOf _ _ _ _ _); simp [-List.reduceReplicate, Nat.add_one_le_iff, -getElem?_pos, -getElem?_neg, iC])
       | ((first | (with_reducible refine awp_ret ?_; try simp only [thenA, inBlockA, noGotoA])); try simp [-List.reduceReplicate, Nat.add_one_le_iff, -getElem?_pos, -getElem?_neg, iC])
       | (with_reducible refine awp_if_b rfl (fun hc => ?_) (fun hc => ?_) <;> (try simp [-getElem?_pos, -getElem?_neg] at hc) <;> (try (exfalso; omega)))
       | (with_reducible refine And.intro (by omega) ?_)
       | fail)
      refine hexit _ _ rfl ?_
      simp only [inBlockA, thenA, ↓reduceIte]
      clear hexit
      repeat' (first 
       | (with_reducible first | refine awp_scope ?_ | refine awp_seq ?_ | refine awp_block ?_)
       | ((with_reducible first | refine awp_label ?_ | refine awp_skip ?_ | refine awp_exit ?_ | refine hother _ _ rfl ?_); try simp only [thenA, inBlockA, noGotoA, if_true, Nat.reduceEqDiff, if_false, ↓reduceIte])
       | ((with_reducible first | refine awp_reg 40 hX [1, 2, 3, 4, 5, 7, 11, 25, 26, 27, 28] ?_ | change postOf _ _ _ _ _); simp [-List.reduceReplicate, Nat.add_one_le_iff, -getElem?_pos, -getElem?_neg, iC, sC])
       | ((first | (with_reducible refine awp_ret ?_; try simp only [thenA, inBlockA, noGotoA]) | (refine (hq).det ?_)); try simp [-List.reduceReplicate, Nat.add_one_le_iff, -getElem?_pos, -getElem?_neg, iC, sC])
       | (with_reducible refine awp_if_b rfl (fun hc => ?_) (fun hc => ?_) <;> (try simp [-getElem?_pos, -getElem?_neg] at hc) <;> (try (exfalso; omega)))
       | (with_reducible refine And.intro (by omega) ?_)
       | fail)
  · rw [if_neg h0] at hec
    rw [hec]
    generalize checkC c = e at *
    generalize cfC c = K at *
    refine den_of Try.func17 rfl rfl (by simp [Try.ntmps17]) (fun X hX hO => ?_)
    rw [Try.ntmps17] at hX
    simp only [Try.results17]
    repeat' (first 
     | (with_reducible first | refine awp_scope ?_ | refine awp_seq ?_ | refine awp_block ?_)
     | ((with_reducible first | refine awp_label ?_ | refine awp_skip ?_ | refine awp_exit ?_ | refine hother _ _ rfl ?_); try simp only [thenA, inBlockA, noGotoA, if_true, Nat.reduceEqDiff, if_false, ↓reduceIte])
     | ((with_reducible first | refine awp_reg 40 hX [1, 2, 3, 4, 5, 7, 11, 25, 26, 27, 28] ?_ | change postOf _ _ _ _ _); simp [-List.reduceReplicate, Nat.add_one_le_iff, -getElem?_pos, -getElem?_neg, iC, sC, kl, kt, h0, mk_e0, mk_e1])
     | ((first | (with_reducible refine awp_ret ?_; try simp only [thenA, inBlockA, noGotoA]) | (refine (p1 _).det ?_)); try simp [-List.reduceReplicate, Nat.add_one_le_iff, -getElem?_pos, -getElem?_neg, iC, sC, kl, kt, h0, mk_e0, mk_e1])
     | (with_reducible refine awp_if_b rfl (fun hc => ?_) (fun hc => ?_) <;> (try simp [-getElem?_pos, -getElem?_neg] at hc) <;> (try (exfalso; omega)))
     | (with_reducible refine And.intro (by omega) ?_)
     | fail)
theorem catB_size (l : List ByteArray) : (catB l).size = totB l := by
  induction l with
  | nil => rfl
  | cons x l ih => show (x ++ catB l).size = _; rw [ByteArray.size_append, ih]; rfl
end Go.Av

set_option exponentiation.threshold 1000
set_option linter.unusedVariables false
set_option linter.unusedSimpArgs false
set_option maxRecDepth 100000
set_option maxHeartbeats 4000000
namespace Go.Av
open Go Go.Proofs Go.Proofs.Ytpcnacknlgmmlaa Go.RowKit
attribute [local simp] List.getElem?_cons_zero List.getElem?_cons_succ
theorem leadV_putV (x : Nat) (hx : x < 18446744073709551616) (r : List UInt8) : leadV 10 (putV x ++ r) + 1 = (putV x).length := by
  have key : ∀ (n x : Nat), x < 128 ^ (n + 1) → ∀ k, n ≤ k → leadV (k + 1) (putV x ++ r) + 1 = (putV x).length := by
    intro n
    induction n with
    | zero =>
      intro x h k _
      rw [putV_lo (by simpa using h)]
      have : ¬ 128 ≤ (UInt8.ofNat x).toNat := by simp; simp at h; omega
      simp [leadV]
      omega
    | succ n ih =>
      intro x h k hk
      by_cases hx : x < 128
      · rw [putV_lo hx]
        have : ¬ 128 ≤ (UInt8.ofNat x).toNat := by simp; omega
        simp [leadV]
        omega
      · rw [putV_hi hx]
        have h1 : 128 ≤ (UInt8.ofNat (x % 128 + 128)).toNat := by simp; omega
        obtain ⟨k', rfl⟩ : ∃ k', k = k' + 1 := ⟨k - 1, by omega⟩
        have := ih (x / 128) (by rw [Nat.pow_succ] at h; exact Nat.div_lt_of_lt_mul (by omega)) k' (by omega)
        rw [List.cons_append, leadV, if_pos h1, List.length_cons]
        omega
  exact key 9 x (Nat.lt_of_lt_of_le hx (by decide)) 9 (Nat.le_refl _)
theorem valV_cons (b : UInt8) (l : List UInt8) : ∀ n, valV (b :: l) (n + 1) = b.toNat % 128 + 128 * valV l n := by
  intro n
  induction n with
  | zero => simp [valV]
  | succ n ih =>
    rw [valV, ih, valV, List.getD_cons_succ, Nat.pow_succ, Nat.mul_add]
    have : (l.getD n 0).toNat % 128 * (128 ^ n * 128) = 128 * ((l.getD n 0).toNat % 128 * 128 ^ n) := by
      rw [Nat.mul_comm (128 ^ n) 128, ← Nat.mul_assoc, Nat.mul_comm _ 128, Nat.mul_assoc]
    omega
theorem valV_putV : ∀ (x : Nat) (r : List UInt8), valV (putV x ++ r) (putV x).length = x := by
  intro x
  induction x using Nat.strongRecOn with
  | _ x ih =>
    intro r
    by_cases hx : x < 128
    · rw [putV_lo hx, List.length_singleton, List.singleton_append, valV_cons]
      simp [valV]
      omega
    · rw [putV_hi hx, List.length_cons, List.cons_append, valV_cons, ih (x / 128) (by omega)]
      simp
      omega
theorem putV_last : ∀ (x : Nat), ((putV x).getD ((putV x).length - 1) 0).toNat < 128 ∧ (128 ≤ x → ((putV x).getD ((putV x).length - 1) 0).toNat ≠ 0) := by
  intro x
  induction x using Nat.strongRecOn with
  | _ x ih =>
    by_cases hx : x < 128
    · rw [putV_lo hx]
      simp
      omega
    · obtain ⟨h1, h2⟩ := ih (x / 128) (by omega)
      have hp := putV_pos (x / 128)
      rw [putV_hi hx, List.length_cons]
      obtain ⟨m, hm⟩ : ∃ m, (putV (x / 128)).length = m + 1 := ⟨_, (Nat.succ_pred_eq_of_pos hp).symm⟩
      rw [hm] at h1 h2 ⊢
      simp only [Nat.add_sub_cancel] at h1 h2 ⊢
      rw [List.getD_cons_succ]
      refine ⟨h1, fun _ => ?_⟩
      by_cases h3 : 128 ≤ x / 128
      · exact h2 h3
      · have h4 : putV (x / 128) = [UInt8.ofNat (x / 128)] := putV_lo (by omega)
        rw [h4] at hm ⊢
        simp at hm
        subst hm
        simp
        omega
theorem takeV_putV (x : Nat) (hx : x < 18446744073709551616) (r : List UInt8) : takeV (bsS (putV x ++ r)) = (x, (putV x).length, 0) := by
  have hl := leadV_putV x hx r
  have hp := putV_pos x
  have h10 := putV_len10 x hx
  have hv := valV_putV x r
  obtain ⟨q1, q2⟩ := putV_last x
  have hd : (bsS (putV x ++ r)).data.toList = putV x ++ r := rfl
  have htv : takeV (bsS (putV x ++ r)) = if leadV 10 (bsS (putV x ++ r)).data.toList = 10 then (0, 0, 2) else if leadV 10 (bsS (putV x ++ r)).data.toList = (bsS (putV x ++ r)).data.toList.length then (0, 0, 1) else if 0 < leadV 10 (bsS (putV x ++ r)).data.toList ∧ ((bsS (putV x ++ r)).data.toList.getD (leadV 10 (bsS (putV x ++ r)).data.toList) 0).toNat = 0 then (0, 0, 2) else if leadV 10 (bsS (putV x ++ r)).data.toList = 9 ∧ 1 < ((bsS (putV x ++ r)).data.toList.getD (leadV 10 (bsS (putV x ++ r)).data.toList) 0).toNat then (0, 0, 3) else (valV (bsS (putV x ++ r)).data.toList (leadV 10 (bsS (putV x ++ r)).data.toList + 1), leadV 10 (bsS (putV x ++ r)).data.toList + 1, 0) := rfl
  rw [htv, hd]
  generalize hn : leadV 10 (putV x ++ r) = n at *
  have hlast : (putV x ++ r).getD n 0 = (putV x).getD ((putV x).length - 1) 0 := by
    rw [List.getD_eq_getElem?_getD, List.getElem?_append_left (by omega), ← List.getD_eq_getElem?_getD, show n = (putV x).length - 1 by omega]
  rw [hlast]
  rw [if_neg (by omega), if_neg (by rw [List.length_append]; omega)]
  rw [if_neg (fun h => by
    refine q2 ?_ h.2
    have : ¬ x < 128 := fun hc => by rw [putV_lo hc] at hl; simp at hl; omega
    omega)]
  rw [if_neg (fun h => by
    have h9 := h.1
    have hlen : (putV x).length = 10 := by omega
    have hv2 : valV (putV x ++ r) (9 + 1) = x := by
      have h8 := hv
      rw [hlen] at h8
      exact h8
    rw [valV, show (putV x ++ r).getD 9 0 = (putV x).getD ((putV x).length - 1) 0 by rw [← hlast, h9]] at hv2
    have h11 : (128 : Nat) ^ 9 = 9223372036854775808 := by decide
    have h12 : ((putV x).getD ((putV x).length - 1) 0).toNat % 128 = ((putV x).getD ((putV x).length - 1) 0).toNat := Nat.mod_eq_of_lt q1
    rw [h12, h11] at hv2
    have h13 : 2 * 9223372036854775808 ≤ ((putV x).getD ((putV x).length - 1) 0).toNat * 9223372036854775808 := Nat.mul_le_mul_right _ h.2
    omega), hl, hv]
theorem putV_valV : ∀ (m : Nat) (l : List UInt8), m < l.length → (∀ j, j < m → 128 ≤ (l.getD j 0).toNat) → (l.getD m 0).toNat < 128 → (0 < m → (l.getD m 0).toNat ≠ 0) → putV (valV l (m + 1)) = l.take (m + 1) := by
  intro m
  induction m with
  | zero =>
    intro l hl _ h2 _
    match l, hl with
    | b :: r, _ =>
      rw [valV_cons]
      simp only [List.getD_cons_zero] at h2
      have : b.toNat % 128 + 128 * valV r 0 = b.toNat := by simp [valV]; omega
      rw [this, putV_lo h2]
      simp
  | succ m ih =>
    intro l hl h1 h2 h3
    match l, hl with
    | b :: r, hl =>
      have hb : 128 ≤ b.toNat := by simpa using h1 0 (by omega)
      have hb2 := b.toNat_lt
      have i := ih r (by simpa using hl) (fun j hj => by simpa using h1 (j + 1) (by omega)) (by simpa using h2) (fun _ => by simpa using h3 (by omega))
      have hv : 0 < valV r (m + 1) := by
        rw [valV]
        have h4 : (r.getD m 0).toNat ≠ 0 := by simpa using h3 (by omega)
        have h5 : (r.getD m 0).toNat < 128 := by simpa using h2
        have h6 : 0 < (r.getD m 0).toNat % 128 := by omega
        have h7 : 0 < 128 ^ m := Nat.pow_pos (by omega)
        have := Nat.mul_pos h6 h7
        omega
      rw [valV_cons, putV_hi (by omega)]
      have e1 : (b.toNat % 128 + 128 * valV r (m + 1)) / 128 = valV r (m + 1) := by omega
      have e2 : (b.toNat % 128 + 128 * valV r (m + 1)) % 128 + 128 = b.toNat := by omega
      rw [e1, e2, i]
      simp
theorem takeV_back (b : ByteArray) (h : (takeV b).2.2 = 0) : b.data.toList.take (takeV b).2.1 = putV (takeV b).1 := by
  obtain ⟨s1, s2, s3, s4⟩ := leadV_spec 10 b.data.toList
  have htv : takeV b = if leadV 10 b.data.toList = 10 then (0, 0, 2) else if leadV 10 b.data.toList = b.data.toList.length then (0, 0, 1) else if 0 < leadV 10 b.data.toList ∧ (b.data.toList.getD (leadV 10 b.data.toList) 0).toNat = 0 then (0, 0, 2) else if leadV 10 b.data.toList = 9 ∧ 1 < (b.data.toList.getD (leadV 10 b.data.toList) 0).toNat then (0, 0, 3) else (valV b.data.toList (leadV 10 b.data.toList + 1), leadV 10 b.data.toList + 1, 0) := rfl
  rw [htv] at h ⊢
  generalize leadV 10 b.data.toList = n at *
  generalize b.data.toList = l at *
  split at h
  · simp at h
  · rename_i h1
    rw [if_neg h1]
    split at h
    · simp at h
    · rename_i h2
      rw [if_neg h2]
      split at h
      · simp at h
      · rename_i h3
        rw [if_neg h3]
        split at h
        · simp at h
        · rename_i h4
          rw [if_neg h4]
          simp only
          exact (putV_valV n l (by omega) s3 (by omega) (fun hn hz => h3 ⟨hn, hz⟩)).symm
theorem byteI_app (pre l post : List UInt8) (i : Nat) (h : i < l.length) : byteI (bsS (pre ++ (l ++ post))) (pre.length : Int) i = (l.getD i 0).toNat := by
  unfold byteI
  rw [if_pos ⟨by omega, by rw [bs_size]; simp; omega⟩]
  congr 1
  show (pre ++ (l ++ post)).getD ((pre.length : Int) + i).toNat 0 = _
  rw [show ((pre.length : Int) + (i : Int)).toNat = pre.length + i by omega, List.getD_eq_getElem?_getD, List.getElem?_append_right (by omega), Nat.add_sub_cancel_left, List.getElem?_append_left h, ← List.getD_eq_getElem?_getD]
theorem takeN_app (pre l post : List UInt8) : ∀ (n : Nat) (x : Nat), n ≤ l.length → l.take n = putN x n → x < 256 ^ n → takeN (bsS (pre ++ (l ++ post))) (pre.length : Int) n = x := by
  intro n
  induction n with
  | zero => intro x _ _ h; simp at h; simp [takeN, h]
  | succ n ih =>
    intro x hn hl hx
    have h1 : l.take n = putN (x / 256) n := by
      have := congrArg (List.take n) hl
      rw [List.take_take, Nat.min_eq_left (by omega), putN, List.take_left' (putN_len _ _)] at this
      exact this
    have h2 : l.getD n 0 = UInt8.ofNat x := by
      have h3 : (l.take (n + 1))[n]? = (putN x (n + 1))[n]? := by rw [hl]
      rw [List.getElem?_take_of_lt (by omega), putN, List.getElem?_append_right (by rw [putN_len]; omega), putN_len, Nat.sub_self] at h3
      rw [List.getD_eq_getElem?_getD, h3]
      rfl
    rw [takeN, ih (x / 256) (by omega) h1 (by rw [Nat.pow_succ] at hx; exact Nat.div_lt_of_lt_mul (by omega)), byteI_app _ _ _ _ (by omega), h2]
    simp
    omega
theorem putN_takeN (b : ByteArray) (at_ : Nat) : ∀ n, at_ + n ≤ b.size → putN (takeN b at_ n) n = (b.data.toList.drop at_).take n := by
  intro n
  have hl : b.data.toList.length = b.size := by rw [Array.length_toList]; rfl
  induction n with
  | zero => intro _; simp [putN]
  | succ n ih =>
    intro h
    have hb : byteI b (at_ : Int) n = (b.data.toList.getD (at_ + n) 0).toNat := by
      unfold byteI
      rw [if_pos ⟨by omega, by omega⟩, show ((at_ : Int) + (n : Int)).toNat = at_ + n by omega]
    have hlt := (b.data.toList.getD (at_ + n) 0).toNat_lt
    rw [takeN, putN, hb]
    have e1 : (takeN b at_ n * 256 + (b.data.toList.getD (at_ + n) 0).toNat) / 256 = takeN b at_ n := by omega
    have e2 : UInt8.ofNat (takeN b at_ n * 256 + (b.data.toList.getD (at_ + n) 0).toNat) = b.data.toList.getD (at_ + n) 0 := by
      apply UInt8.toNat_inj.1
      simp
    rw [e1, e2, ih (by omega), List.take_add_one, List.getElem?_drop, List.getD_eq_getElem?_getD, List.getElem?_eq_getElem (by omega)]
    rfl
end Go.Av

set_option exponentiation.threshold 1000
set_option linter.unusedVariables false
set_option linter.unusedSimpArgs false
set_option maxRecDepth 100000
set_option maxHeartbeats 4000000
namespace Go.Av
open Go Go.Proofs Go.Proofs.Ytpcnacknlgmmlaa Go.RowKit
attribute [local simp] List.getElem?_cons_zero List.getElem?_cons_succ
theorem bs_of (b : ByteArray) : bsS b.data.toList = b := by cases b; simp [bsS]
theorem bs_ext (l : List UInt8) (a b : Nat) : (bsS l).extract a b = bsS ((l.drop a).take (b - a)) := by
  rw [← bs_of ((bsS l).extract a b), ext_list]
  rfl
theorem list_len (b : ByteArray) : b.data.toList.length = b.size := by rw [Array.length_toList]; rfl
theorem raw_fwd (p r : List UInt8) : rawC ⟨bsS (p ++ r), 0⟩ p.length = (bsS p, ⟨bsS r, 0⟩) := by
  unfold rawC cutC
  rw [if_neg (by omega), if_neg (by simp), if_neg (by simp [bs_size])]
  simp only [Int.toNat_natCast, bs_ext, bs_size, List.drop_zero, Nat.sub_zero, List.length_append]
  rw [List.take_left' rfl, List.drop_left' rfl, List.take_of_length_le (by omega)]
theorem num_fwd (x most : Nat) (r : List UInt8) (hx : x < 18446744073709551616) (hm : x ≤ most) : numC ⟨bsS (putV x ++ r), 0⟩ most = (x, ⟨bsS r, 0⟩) := by
  unfold numC
  simp only [takeV_putV x hx r]
  rw [if_neg (by simp), if_neg (by simp), if_neg (by omega)]
  simp only [bs_ext, bs_size, List.length_append]
  rw [List.drop_left' rfl, List.take_of_length_le (by omega)]
theorem raw_bwd (c : Cu) (n : Nat) (h : (rawC c n).2.e = 0) : c.e = 0 ∧ c.b.data.toList = (rawC c n).1.data.toList ++ (rawC c n).2.b.data.toList ∧ (rawC c n).1.size = n := by
  unfold rawC cutC at *
  rw [if_neg (by omega)] at *
  split at h
  · rename_i h1; exact absurd h h1
  · rename_i h1
    split at h
    · simp at h
    · rename_i h2
      rw [if_neg h1, if_neg h2]
      simp only [Int.toNat_natCast] at h2 ⊢
      have hl := list_len c.b
      refine ⟨by omega, ?_, ?_⟩
      · rw [ext_list, ext_list, List.drop_zero, Nat.sub_zero, List.take_of_length_le (l := c.b.data.toList.drop n) (by rw [List.length_drop]; omega), List.take_append_drop]
      · rw [ByteArray.size_extract]; omega
theorem num_bwd (c : Cu) (most : Nat) (h : (numC c most).2.e = 0) : c.e = 0 ∧ c.b.data.toList = putV (numC c most).1 ++ (numC c most).2.b.data.toList := by
  have hb := takeV_back c.b
  obtain ⟨t1, t2, t3, t4, t5⟩ := takeV_ok c.b
  have hl := list_len c.b
  unfold numC at *
  split at h
  · rename_i h1; exact absurd h h1
  · rename_i h1
    split at h
    · rename_i h2
      simp at h
      omega
    · rename_i h2
      split at h
      · simp at h
      · rename_i h3
        rw [if_neg h1, if_neg h2, if_neg h3]
        simp only
        refine ⟨by omega, ?_⟩
        rw [← hb (by omega), ext_list, List.take_of_length_le (l := c.b.data.toList.drop _) (by rw [List.length_drop]; omega), List.take_append_drop]
theorem done_zero (c : Cu) : doneC c = 0 ↔ c.e = 0 ∧ c.b.size = 0 := by
  unfold doneC
  by_cases h : c.e = 0 ∧ c.b.size ≠ 0
  · rw [if_pos h]
    exact ⟨fun h1 => by simp at h1, fun h1 => absurd h1.2 h.2⟩
  · rw [if_neg h]
    exact ⟨fun h1 => ⟨h1, Decidable.byContradiction fun h2 => h ⟨h1, h2⟩⟩, fun h1 => h1.1⟩
def flatV (l : List Nat) : List UInt8 := (l.map putV).flatten
theorem nums_fwd (l : List Nat) (hl : ∀ x ∈ l, x ≤ 65536) : ∀ k, k ≤ l.length → numsTo ⟨bsS (flatV l), 0⟩ k = ((l.take k).map Int.ofNat, ⟨bsS (flatV (l.drop k)), 0⟩) := by
  intro k
  induction k with
  | zero => intro _; rfl
  | succ k ih =>
    intro hk
    have hx := hl l[k] (List.getElem_mem _)
    have hd : l.drop k = l[k] :: l.drop (k + 1) := List.drop_eq_getElem_cons (by omega)
    rw [numsTo, ih (by omega)]
    simp only
    rw [hd, show flatV (l[k] :: l.drop (k + 1)) = putV l[k] ++ flatV (l.drop (k + 1)) from rfl, num_fwd _ _ _ (by omega) hx]
    rw [List.take_add_one, List.getElem?_eq_getElem (by omega)]
    simp only [Option.toList_some, List.map_append, List.map_cons, List.map_nil]
    rfl
theorem nums_bwd (c : Cu) : ∀ k, (numsTo c k).2.e = 0 → c.e = 0 ∧ ∃ l : List Nat, l.length = k ∧ (numsTo c k).1 = l.map Int.ofNat ∧ c.b.data.toList = flatV l ++ (numsTo c k).2.b.data.toList := by
  intro k
  induction k with
  | zero => intro h; exact ⟨h, [], rfl, rfl, rfl⟩
  | succ k ih =>
    intro h
    obtain ⟨h1, h2⟩ := num_bwd _ _ h
    obtain ⟨g1, l, g2, g3, g4⟩ := ih h1
    refine ⟨g1, l ++ [(numC (numsTo c k).2 65536).1], by simp [g2], ?_, ?_⟩
    · simp [numsTo, g3]
    · rw [g4, h2]
      simp [numsTo, flatV]
theorem h32_app (pre post : List UInt8) (h : H32) : h32 (bsS (pre ++ (h.1 ++ post))) pre.length = h := by
  apply Subtype.ext
  show ((pre ++ (h.1 ++ post)).drop pre.length ++ List.replicate 32 0).take 32 = h.1
  rw [List.drop_left' rfl, List.append_assoc, List.take_left' h.2]
theorem getHD_hdL (g : HD) (hok : HDok g) : getHD (bsS (hdL g)) = g := by
  obtain ⟨v, a, b, n⟩ := g
  have l4 := putN_len v 4
  have l8 := putN_len n 8
  have e1 : takeN (bsS (hdL ⟨v, a, b, n⟩)) 0 4 = v := takeN_app [] (putN v 4) (a.1 ++ (b.1 ++ putN n 8)) 4 v (by omega) (List.take_of_length_le (by omega)) hok.1
  have e2 : h32 (bsS (hdL ⟨v, a, b, n⟩)) 4 = a := by
    have := h32_app (putN v 4) (b.1 ++ putN n 8) a
    rw [l4] at this
    exact this
  have e3 : h32 (bsS (hdL ⟨v, a, b, n⟩)) 36 = b := by
    have := h32_app (putN v 4 ++ a.1) (putN n 8) b
    rw [List.length_append, l4, a.2, List.append_assoc] at this
    exact this
  have e4 : takeN (bsS (hdL ⟨v, a, b, n⟩)) 68 8 = n := by
    have := takeN_app (putN v 4 ++ (a.1 ++ b.1)) (putN n 8) [] 8 n (by omega) (List.take_of_length_le (by omega)) hok.2
    rw [List.length_append, List.length_append, l4, a.2, b.2, List.append_nil, List.append_assoc, List.append_assoc] at this
    exact this
  unfold getHD
  rw [e1, e2, e3, e4]
theorem hdL_getHD (s : ByteArray) (hs : s.size = 76) : hdL (getHD s) = s.data.toList := by
  have hl := list_len s
  have e1 := putN_takeN s 0 4 (by omega)
  have e2 := putN_takeN s 68 8 (by omega)
  have hh : ∀ k, k + 32 ≤ 76 → (h32 s k).1 = (s.data.toList.drop k).take 32 := fun k hk => by
    show (s.data.toList.drop k ++ List.replicate 32 0).take 32 = _
    rw [List.take_append_of_le_length (by rw [List.length_drop]; omega)]
  show putN (takeN s 0 4) 4 ++ ((h32 s 4).1 ++ ((h32 s 36).1 ++ putN (takeN s 68 8) 8)) = _
  rw [show takeN s (0 : Int) 4 = takeN s ((0 : Nat) : Int) 4 from rfl, show takeN s (68 : Int) 8 = takeN s ((68 : Nat) : Int) 8 from rfl, e1, e2, hh 4 (by omega), hh 36 (by omega), hs] at *
  generalize s.data.toList = l at *
  rw [List.take_of_length_le (l := l.drop 68) (by rw [List.length_drop]; omega)]
  have d1 : l.drop 36 = (l.drop 36).take 32 ++ l.drop 68 := by
    have := (List.take_append_drop 32 (l.drop 36)).symm
    rwa [List.drop_drop] at this
  have d2 : l.drop 4 = (l.drop 4).take 32 ++ l.drop 36 := by
    have := (List.take_append_drop 32 (l.drop 4)).symm
    rwa [List.drop_drop] at this
  rw [← d1, ← d2, List.drop_zero, List.take_append_drop]
end Go.Av

set_option exponentiation.threshold 1000
set_option linter.unusedVariables false
set_option linter.unusedSimpArgs false
set_option maxRecDepth 100000
set_option maxHeartbeats 4000000
namespace Go.Av
open Go Go.Proofs Go.Proofs.Ytpcnacknlgmmlaa Go.RowKit
attribute [local simp] List.getElem?_cons_zero List.getElem?_cons_succ
theorem catB_bs (l : List (List UInt8)) : catB (l.map bsS) = bsS l.flatten := by
  induction l with
  | nil => rfl
  | cons x l ih =>
    show bsS x ++ catB (l.map bsS) = _
    rw [ih, bs_append]
    rfl
def encL (g : HD) (t : H32) (l : List Nat) : List UInt8 := hdL g ++ (t.1 ++ flatV l)
theorem encB_list (c : CF) : encB c = bsS (encL c.g c.t ((intsL c).map Int.toNat)) := by
  unfold encB partsL
  have : (bsS (hdL c.g) :: bsS c.t.1 :: (intsL c).map fun x => bsS (putV x.toNat)) = ((hdL c.g) :: c.t.1 :: (intsL c).map fun x => putV x.toNat).map bsS := by simp
  rw [this, catB_bs]
  simp [encL, flatV, Function.comp]
  rfl
theorem headC_fwd (g : HD) (hok : HDok g) (r : List UInt8) : headC ⟨bsS (hdL g ++ r), 0⟩ = (g, ⟨bsS r, 0⟩) := by
  have h := raw_fwd (hdL g) r
  rw [hdL_len] at h
  unfold headC
  rw [show (76 : Int) = ((76 : Nat) : Int) from rfl, h]
  simp only [getHD_hdL g hok]
theorem hashC_fwd (t : H32) (r : List UInt8) : hashC ⟨bsS (t.1 ++ r), 0⟩ = (t, ⟨bsS r, 0⟩) := by
  have h := raw_fwd t.1 r
  rw [t.2] at h
  unfold hashC
  rw [show (32 : Int) = ((32 : Nat) : Int) from rfl, h]
  simp only
  have := h32_app [] [] t
  simp only [List.nil_append, List.append_nil, List.length_nil] at this
  rw [this]
theorem headC_bwd (c : Cu) (h : (headC c).2.e = 0) : c.e = 0 ∧ c.b.data.toList = hdL (headC c).1 ++ (headC c).2.b.data.toList := by
  obtain ⟨h1, h2, h3⟩ := raw_bwd c 76 h
  refine ⟨h1, ?_⟩
  have h4 : (rawC c 76).1.size = 76 := h3
  show _ = hdL (getHD (rawC c 76).1) ++ _
  rw [hdL_getHD _ h4]
  exact h2
theorem hashC_bwd (c : Cu) (h : (hashC c).2.e = 0) : c.e = 0 ∧ c.b.data.toList = (hashC c).1.1 ++ (hashC c).2.b.data.toList := by
  obtain ⟨h1, h2, h3⟩ := raw_bwd c 32 h
  refine ⟨h1, ?_⟩
  have h4 : (rawC c 32).1.size = 32 := h3
  show _ = (h32 (rawC c 32).1 0).1 ++ _
  rw [h32_full _ h4]
  exact h2
theorem dec_enc (c : CF) (hok : HDok c.g) (h : checkC c = 0) : decC (encB c) = (c, 0) := by
  have hI := check_ints c h
  have hdc : decC (encB c) = (let h := headC ⟨encB c, 0⟩; let t := hashC h.2; let e := doneC (numsTo t.2 6).2; let c := cfOf h.1 t.1 (padN t.2 6); if e ≠ 0 then (zCF, e) else if checkC c ≠ 0 then (zCF, checkC c) else (c, 0)) := rfl
  rw [hdc, encB_list]
  have h1 := headC_fwd c.g hok (c.t.1 ++ flatV ((intsL c).map Int.toNat))
  rw [show hdL c.g ++ (c.t.1 ++ flatV ((intsL c).map Int.toNat)) = encL c.g c.t ((intsL c).map Int.toNat) from rfl] at h1
  have h2 := hashC_fwd c.t (flatV ((intsL c).map Int.toNat))
  have h3 := nums_fwd ((intsL c).map Int.toNat) (fun x hx => by
    obtain ⟨y, hy, rfl⟩ := List.mem_map.1 hx
    have := hI y hy
    omega) 6 (by simp [intsL])
  simp only [h1, h2]
  have hp : padN ⟨bsS (flatV ((intsL c).map Int.toNat)), 0⟩ 6 = intsL c := by
    unfold padN
    rw [h3]
    have hz : ∀ x ∈ intsL c, Int.ofNat x.toNat = x := fun x hx => by have := hI x hx; simp; omega
    simp only [intsL, List.mem_cons, List.mem_nil_iff, or_false, forall_eq_or_imp, forall_eq] at hz
    simp only [intsL, List.map_cons, List.map_nil, List.take_succ_cons, List.take_nil, hz.1, hz.2.1, hz.2.2.1, hz.2.2.2.1, hz.2.2.2.2.1, hz.2.2.2.2.2, List.take_zero]
    rfl
  have hcf : cfOf c.g c.t (intsL c) = c := rfl
  have hd : doneC (numsTo ⟨bsS (flatV ((intsL c).map Int.toNat)), 0⟩ 6).2 = 0 := by
    rw [h3]
    exact (done_zero _).2 ⟨rfl, rfl⟩
  rw [hp, hcf, hd, h]
  simp
theorem enc_dec (b : ByteArray) (h : (decC b).2 = 0) : checkC (decC b).1 = 0 ∧ HDok (decC b).1.g ∧ encB (decC b).1 = b := by
  have hdc : decC b = (let h := headC ⟨b, 0⟩; let t := hashC h.2; let e := doneC (numsTo t.2 6).2; let c := cfOf h.1 t.1 (padN t.2 6); if e ≠ 0 then (zCF, e) else if checkC c ≠ 0 then (zCF, checkC c) else (c, 0)) := rfl
  simp only at hdc
  have hb1 := headC_bwd ⟨b, 0⟩
  have hok : HDok (headC ⟨b, 0⟩).1 := getHD_ok _
  generalize headC ⟨b, 0⟩ = hh at *
  obtain ⟨g, c1⟩ := hh
  simp only at *
  have hb2 := hashC_bwd c1
  generalize hashC c1 = tt at *
  obtain ⟨t, c2⟩ := tt
  simp only at *
  have hb3 := nums_bwd c2 6
  have hpd : padN c2 6 = (numsTo c2 6).1 ++ [] := rfl
  generalize padN c2 6 = pd at *
  generalize numsTo c2 6 = nn at *
  obtain ⟨nl, c3⟩ := nn
  simp only [List.append_nil] at *
  subst hpd
  by_cases h1 : doneC c3 = 0
  · rw [if_neg (by simpa using h1)] at hdc
    by_cases h2 : checkC (cfOf g t pd) = 0
    · rw [if_neg (by simpa using h2)] at hdc
      rw [hdc]
      obtain ⟨d1, d2⟩ := (done_zero _).1 h1
      obtain ⟨n1, l, n2, n3, n4⟩ := hb3 d1
      obtain ⟨m1, m2⟩ := hb2 n1
      obtain ⟨k1, k2⟩ := hb1 m1
      have hz : c3.b.data.toList = [] := List.length_eq_zero_iff.1 (by rw [list_len]; exact d2)
      rw [hz, List.append_nil] at n4
      rw [n4] at m2
      rw [m2] at k2
      subst n3
      match l, n2 with
      | [a0, a1, a2, a3, a4, a5], _ =>
        refine ⟨h2, hok, ?_⟩
        rw [encB_list, ← bs_of b, k2]
        have hi : (intsL (cfOf g t (List.map Int.ofNat [a0, a1, a2, a3, a4, a5]))).map Int.toNat = [a0, a1, a2, a3, a4, a5] := rfl
        rw [hi]
        rfl
    · rw [if_pos (by simpa using h2)] at hdc
      rw [hdc] at h
      exact absurd h h2
  · rw [if_pos (by simpa using h1)] at hdc
    rw [hdc] at h
    exact absurd h h1
end Go.Av

set_option exponentiation.threshold 1000
set_option linter.unusedVariables false
set_option linter.unusedSimpArgs false
set_option maxRecDepth 100000
set_option maxHeartbeats 4000000
namespace Go.Av
open Go Go.Proofs Go.Proofs.Ytpcnacknlgmmlaa Go.RowKit
attribute [local simp] List.getElem?_cons_zero List.getElem?_cons_succ
end Go.Av

set_option exponentiation.threshold 1000
set_option linter.unusedVariables false
set_option linter.unusedSimpArgs false
set_option maxRecDepth 100000
set_option maxHeartbeats 4000000
namespace Go.Av
open Go Go.Proofs Go.Proofs.Ytpcnacknlgmmlaa Go.RowKit
attribute [local simp] List.getElem?_cons_zero List.getElem?_cons_succ
theorem reads_app {W : World} {es1 es2 : List C} {cs : List Value} (k : Nat) (h1 : Reads W es1 (cs.take k)) (h2 : Reads W es2 (cs.drop k)) (hk : es1.length = k) : Reads W (es1 ++ es2) cs := by
  have hl : k ≤ cs.length := by
    have := h1.1
    rw [hk, List.length_take] at this
    omega
  refine ⟨?_, fun j c y hc hy => ?_⟩
  · have := h2.1
    rw [List.length_drop] at this
    rw [List.length_append]
    omega
  · by_cases hj : j < k
    · rw [List.getElem?_append_left (by omega)] at hc
      exact h1.2 j c y hc (by rw [List.getElem?_take_of_lt hj]; exact hy)
    · rw [List.getElem?_append_right (by omega), hk] at hc
      exact h2.2 (j - k) c y hc (by rw [List.getElem?_drop, show k + (j - k) = j by omega]; exact hy)
theorem opens_u32 {P : Program} {t : TypeId} (ht : P.underlying t = some (.int .u32)) : Opens P t (fun n : Nat => [u32v n]) (fun n => n < 4294967296) :=
  (opens_int ht).conv fun n hn => by
    have h : 0 ≤ n ∧ n ≤ 4294967295 := by simpa [Lit.wf, IntKind.min, IntKind.max, IntKind.signed, IntKind.bits] using hn
    exact ⟨n.toNat, by omega, by simp only [u32v]; rw [show ((n.toNat : Nat) : Int) = n by omega]⟩
theorem opens_header {P : Program} {t tv th tb tn : TypeId} {fs : Array Field} (ht : P.underlying t = some (.struct fs)) (hv : P.underlying tv = some (.int .u32)) (hh : P.underlying th = some (.array 32 tb)) (hb : P.underlying tb = some (.int .u8)) (hn : P.underlying tn = some (.int .u64))
    (c1 : P.cellsOf tv = 1) (c2 : P.cellsOf th = 32) (c3 : P.cellsOf tb = 1) (c4 : P.cellsOf tn = 1) (c5 : P.cellsOf t = 66)
    (f0 : (fs[0]?).map (fun f => (f.offset, f.type)) = some (0, tv)) (f1 : (fs[1]?).map (fun f => (f.offset, f.type)) = some (1, th)) (f2 : (fs[2]?).map (fun f => (f.offset, f.type)) = some (33, th)) (f3 : (fs[3]?).map (fun f => (f.offset, f.type)) = some (65, tn)) (hs : fs.size = 4) :
    Opens P t hdC HDok := fun H e0 W fuel cs x hx => by
  obtain ⟨xs, m, _, _, hlen, hxl, hel⟩ := DataW.trod_struct ht hx
  have key : ∀ (i off : Nat) (q : TypeId), (fs[i]?).map (fun f => (f.offset, f.type)) = some (off, q) → ∃ y, DataW.trod e0 P W 0 (fun _ => true) true m q ((cs.drop off).take (P.cellsOf q)) = some y := by
    intro i off q h
    rw [Option.map_eq_some_iff] at h
    obtain ⟨f, hf, he⟩ := h
    simp only [Prod.mk.injEq] at he
    obtain ⟨rfl, rfl⟩ := he
    have hlt := (Array.getElem?_eq_some_iff.1 hf).1
    rw [hel i f hf]
    exact ⟨xs[i], List.getElem?_eq_getElem (by omega)⟩
  obtain ⟨y0, h0⟩ := key 0 _ _ f0
  obtain ⟨y1, h1⟩ := key 1 _ _ f1
  obtain ⟨y2, h2⟩ := key 2 _ _ f2
  obtain ⟨y3, h3⟩ := key 3 _ _ f3
  obtain ⟨v, hv1, r0⟩ := opens_u32 hv H e0 W _ _ _ h0
  obtain ⟨a, _, r1⟩ := opens_hash hh hb c3 c2 H e0 W _ _ _ h1
  obtain ⟨b, _, r2⟩ := opens_hash hh hb c3 c2 H e0 W _ _ _ h2
  obtain ⟨n, hn1, r3⟩ := opens_u64 hn H e0 W _ _ _ h3
  rw [c1, List.drop_zero] at r0
  rw [c2] at r1 r2
  rw [c4] at r3
  rw [c5] at hlen
  rw [List.take_of_length_le (by rw [List.length_drop]; omega)] at r3
  refine ⟨⟨v, a, b, n⟩, ⟨hv1, hn1⟩, ?_⟩
  refine reads_app 1 r0 (reads_app 32 r1 (reads_app 32 ?_ ?_ ?_) ?_) rfl
  · rw [List.drop_drop]; exact r2
  · rw [List.drop_drop, List.drop_drop]; exact r3
  · rw [List.length_map]; exact b.2
  · rw [List.length_map]; exact a.2
end Go.Av

set_option exponentiation.threshold 1000
set_option linter.unusedVariables false
set_option linter.unusedSimpArgs false
set_option maxRecDepth 100000
set_option maxHeartbeats 4000000
namespace Go.Av
open Go Go.Proofs Go.Proofs.Ytpcnacknlgmmlaa Go.RowKit
attribute [local simp] List.getElem?_cons_zero List.getElem?_cons_succ
def cfA (p : HD × H32 × Int × Int × Int × Int × Int × Int) : CF := ⟨p.1, p.2.1, p.2.2.1, p.2.2.2.1, p.2.2.2.2.1, p.2.2.2.2.2.1, p.2.2.2.2.2.2.1, p.2.2.2.2.2.2.2⟩
theorem opens_cfg {P : Program} {t ti th tb tH tv tn : TypeId} {fs fh : Array Field} (ht : P.underlying t = some (.struct fs)) (hi : P.underlying ti = some (.int .i64)) (hh : P.underlying th = some (.array 32 tb)) (hb : P.underlying tb = some (.int .u8))
    (hH : P.underlying tH = some (.struct fh)) (hv' : P.underlying tv = some (.int .u32)) (hn : P.underlying tn = some (.int .u64))
    (s0 : (fs[0]?).map (fun f => (f.offset, f.type)) = some (0, tH)) (s1 : (fs[1]?).map (fun f => (f.offset, f.type)) = some (66, th)) (s2 : (fs[2]?).map (fun f => (f.offset, f.type)) = some (98, ti)) (s3 : (fs[3]?).map (fun f => (f.offset, f.type)) = some (99, ti)) (s4 : (fs[4]?).map (fun f => (f.offset, f.type)) = some (100, ti)) (s5 : (fs[5]?).map (fun f => (f.offset, f.type)) = some (101, ti)) (s6 : (fs[6]?).map (fun f => (f.offset, f.type)) = some (102, ti)) (s7 : (fs[7]?).map (fun f => (f.offset, f.type)) = some (103, ti))
    (k0 : P.cellsOf t = 104) (k1 : P.cellsOf tH = 66) (c1 : P.cellsOf ti = 1) (c3 : P.cellsOf th = 32) (c4 : P.cellsOf tb = 1)
    (d1 : P.cellsOf tv = 1) (d4 : P.cellsOf tn = 1) (g0 : (fh[0]?).map (fun f => (f.offset, f.type)) = some (0, tv)) (g1 : (fh[1]?).map (fun f => (f.offset, f.type)) = some (1, th)) (g2 : (fh[2]?).map (fun f => (f.offset, f.type)) = some (33, th)) (g3 : (fh[3]?).map (fun f => (f.offset, f.type)) = some (65, tn)) (gs : fh.size = 4) :
    Opens P t cfC (fun c => HDok c.g) :=
  (((seg_field 0 0 66 ht s0 k1 (opens_header hH hv' hh hb hn d1 c3 c4 d4 k1 g0 g1 g2 g3 gs)).app ((seg_field 1 66 32 ht s1 c3 (opens_hash hh hb c4 c3)).app ((seg_field 2 98 1 ht s2 c1 (opens_int hi)).app ((seg_field 3 99 1 ht s3 c1 (opens_int hi)).app ((seg_field 4 100 1 ht s4 c1 (opens_int hi)).app ((seg_field 5 101 1 ht s5 c1 (opens_int hi)).app ((seg_field 6 102 1 ht s6 c1 (opens_int hi)).app (seg_field 7 103 1 ht s7 c1 (opens_int hi)) (fun _ => rfl)) (fun _ => rfl)) (fun _ => rfl)) (fun _ => rfl)) (fun _ => rfl)) (fun h => by simp [h.2])) hdC_len).opens ht k0).conv fun p hp => ⟨cfA p, hp.1, rfl⟩
end Go.Av

set_option exponentiation.threshold 1000
set_option linter.unusedVariables false
set_option linter.unusedSimpArgs false
set_option maxRecDepth 100000
set_option maxHeartbeats 4000000
namespace Go.Av
open Go Go.Proofs Go.Proofs.Ytpcnacknlgmmlaa Go.RowKit
attribute [local simp] List.getElem?_cons_zero List.getElem?_cons_succ
attribute [local simp] Try.underlying9 Try.underlying3 Try.underlying4 Try.underlying27 Try.underlying49
theorem configBack_den (c : CF) (b : ByteArray) (hok : HDok c.g) (hb : b.size ≤ 9223372036854775807) : DenV Try.prog 6 [cfM c, .c (sC b)] (.c (bC true)) := by
  refine Den.frame (by simp [cfM, ltB, ltBs]) rfl ?_
  have z0 : zeroT Try.prog 49 = some (up (cfC zCF)) := by kernel_rfl
  have p1 := encode_den c hok
  have p2 := check_den c hok
  have p3 := decode_den b hb
  have hde := dec_enc c hok
  have hed := enc_dec b
  have hec : encC c = if checkC c = 0 then (encB c, 0) else (e0, checkC c) := rfl
  have kl := cfC_len c
  have kt : (cfC c).take 104 = cfC c := List.take_of_length_le (by omega)
  have ke := eq_cf_refl c
  have zl := cfC_len zCF
  have ze := eq_cf_refl zCF
  have aw := awake52_den
  have hzd : (decC b).2 ≠ 0 → (decC b).1 = zCF := by
    intro h
    have hdc : decC b = (let h := headC ⟨b, 0⟩; let t := hashC h.2; let e := doneC (numsTo t.2 6).2; let c := cfOf h.1 t.1 (padN t.2 6); if e ≠ 0 then (zCF, e) else if checkC c ≠ 0 then (zCF, checkC c) else (c, 0)) := rfl
    simp only at hdc
    rw [hdc] at h ⊢
    split
    · rfl
    · rename_i h1
      rw [if_neg h1] at h
      split
      · rfl
      · rename_i h2
        rw [if_neg h2] at h
        exact absurd rfl h
  have tail : ∀ (Q : Prop), Q → Q := fun _ h => h
  obtain ⟨d, e, hd⟩ : ∃ d e, decC b = (d, e) := ⟨_, _, rfl⟩
  rw [hd] at p3 hed hzd
  simp only at p3 hed hzd
  have dl := cfC_len d
  have dt : (cfC d).take 104 = cfC d := List.take_of_length_le (by omega)
  have q : e = 0 → (∀ ob, Den Try.prog 17 [cfM d] ob fun r ob' => r = .tup [.c (sC b), .c (iC 0)] ∧ ob' = ob) ∧ (∀ ob, Den Try.prog 19 [cfM d] ob fun r ob' => r = .c (iC 0) ∧ ob' = ob) := by
    intro he
    obtain ⟨h1, h2, h3⟩ := hed he
    have q1 := encode_den d h2
    have q2 := check_den d h2
    have hec2 : encC d = if checkC d = 0 then (encB d, 0) else (e0, checkC d) := rfl
    rw [h1, if_pos rfl, h3] at hec2
    rw [hec2] at q1
    rw [h1] at q2
    exact ⟨q1, q2⟩
  by_cases h0 : checkC c = 0
  · have p4 := decode_den (encB c) (by rw [show encB c = catB (partsL c) from rfl, catB_size]; exact Nat.le_trans (partsL_tot c (check_ints c h0)) (by omega))
    rw [hde h0] at p4
    rw [h0] at p2 hec
    simp only [if_true] at hec
    rw [hec] at p1
    by_cases he : e = 0
    · obtain ⟨q1, q2⟩ := q he
      subst he
      clear hed hzd hde q
      unfold cfM at *
      generalize encB c = s at *
      generalize cfC c = K at *
      generalize cfC zCF = Z at *
      generalize cfC d = D at *
      refine den_of Try.func6 rfl rfl (by simp [Try.ntmps6]) (fun X hX hO => ?_)
      rw [Try.ntmps6] at hX
      simp only [Try.results6]
      repeat' (first 
       | (with_reducible first | refine awp_scope ?_ | refine awp_seq ?_ | refine awp_block ?_)
       | ((with_reducible first | refine awp_label ?_ | refine awp_skip ?_ | refine awp_exit ?_); try simp only [thenA, inBlockA, noGotoA, if_true, Nat.reduceEqDiff, if_false, ↓reduceIte])
       | ((with_reducible first | refine awp_reg 70 hX [1, 2, 4, 5, 6, 7, 8, 9, 10, 11, 12, 19, 36, 43] ?_ | change postOf _ _ _ _ _); simp [-List.reduceReplicate, Nat.add_one_le_iff, -getElem?_pos, -getElem?_neg, iC, sC, bC, z0, -Tab.zero49, kl, kt, ke, zl, dl, dt])
       | ((first | (with_reducible refine awp_ret ?_; try simp only [thenA, inBlockA, noGotoA]) | (refine (p1 _).det ?_) | (refine (p4 _).det ?_) | (refine (p2 _).det ?_) | (refine (p3 _).det ?_) | (refine (q1 _).det ?_) | (refine (q2 _).det ?_) | (refine (aw _).det ?_)); try simp [-List.reduceReplicate, Nat.add_one_le_iff, -getElem?_pos, -getElem?_neg, iC, sC, bC, z0, -Tab.zero49, kl, kt, ke, zl, dl, dt])
       | (with_reducible refine awp_if_b rfl (fun hc => ?_) (fun hc => ?_) <;> (try simp [-getElem?_pos, -getElem?_neg] at hc) <;> (try (exfalso; omega)))
       | ((with_reducible first | refine GuardK_b (fun hc => ?_) (fun hc => ?_)) <;> (try simp only [Bool.not_eq_true', Bool.not_eq_false', decide_eq_true_eq, decide_eq_false_iff_not] at hc) <;> (first | (exfalso; omega) | skip) <;> simp [-List.reduceReplicate, Nat.add_one_le_iff, -getElem?_pos, -getElem?_neg, iC, sC, bC, z0, -Tab.zero49, kl, kt, ke, zl, dl, dt, hc])
       | (with_reducible refine And.intro (by omega) ?_)
       | fail)
    · obtain rfl := hzd he
      clear hed hzd hde q
      unfold cfM at *
      generalize encB c = s at *
      generalize cfC c = K at *
      generalize cfC zCF = Z at *
      refine den_of Try.func6 rfl rfl (by simp [Try.ntmps6]) (fun X hX hO => ?_)
      rw [Try.ntmps6] at hX
      simp only [Try.results6]
      repeat' (first 
       | (with_reducible first | refine awp_scope ?_ | refine awp_seq ?_ | refine awp_block ?_)
       | ((with_reducible first | refine awp_label ?_ | refine awp_skip ?_ | refine awp_exit ?_); try simp only [thenA, inBlockA, noGotoA, if_true, Nat.reduceEqDiff, if_false, ↓reduceIte])
       | ((with_reducible first | refine awp_reg 70 hX [1, 2, 4, 5, 6, 7, 8, 9, 10, 11, 12, 19, 36, 43] ?_ | change postOf _ _ _ _ _); simp [-List.reduceReplicate, Nat.add_one_le_iff, -getElem?_pos, -getElem?_neg, iC, sC, bC, z0, -Tab.zero49, kl, kt, ke, zl, dl, dt, he, ze])
       | ((first | (with_reducible refine awp_ret ?_; try simp only [thenA, inBlockA, noGotoA]) | (refine (p1 _).det ?_) | (refine (p4 _).det ?_) | (refine (p2 _).det ?_) | (refine (p3 _).det ?_) | (refine (aw _).det ?_)); try simp [-List.reduceReplicate, Nat.add_one_le_iff, -getElem?_pos, -getElem?_neg, iC, sC, bC, z0, -Tab.zero49, kl, kt, ke, zl, dl, dt, he, ze])
       | (with_reducible refine awp_if_b rfl (fun hc => ?_) (fun hc => ?_) <;> (try simp [-getElem?_pos, -getElem?_neg] at hc) <;> (try (exfalso; omega)))
       | ((with_reducible first | refine GuardK_b (fun hc => ?_) (fun hc => ?_)) <;> (try simp only [Bool.not_eq_true', Bool.not_eq_false', decide_eq_true_eq, decide_eq_false_iff_not] at hc) <;> (first | (exfalso; omega) | skip) <;> simp [-List.reduceReplicate, Nat.add_one_le_iff, -getElem?_pos, -getElem?_neg, iC, sC, bC, z0, -Tab.zero49, kl, kt, ke, zl, dl, dt, he, ze, hc])
       | (with_reducible refine And.intro (by omega) ?_)
       | fail)
  · rw [if_neg h0] at hec
    rw [hec] at p1
    by_cases he : e = 0
    · obtain ⟨q1, q2⟩ := q he
      subst he
      clear hed hzd hde q
      unfold cfM at *
      generalize checkC c = e1 at *
      generalize cfC c = K at *
      generalize cfC zCF = Z at *
      generalize cfC d = D at *
      refine den_of Try.func6 rfl rfl (by simp [Try.ntmps6]) (fun X hX hO => ?_)
      rw [Try.ntmps6] at hX
      simp only [Try.results6]
      repeat' (first 
       | (with_reducible first | refine awp_scope ?_ | refine awp_seq ?_ | refine awp_block ?_)
       | ((with_reducible first | refine awp_label ?_ | refine awp_skip ?_ | refine awp_exit ?_); try simp only [thenA, inBlockA, noGotoA, if_true, Nat.reduceEqDiff, if_false, ↓reduceIte])
       | ((with_reducible first | refine awp_reg 70 hX [1, 2, 4, 5, 6, 7, 8, 9, 10, 11, 12, 19, 36, 43] ?_ | change postOf _ _ _ _ _); simp [-List.reduceReplicate, Nat.add_one_le_iff, -getElem?_pos, -getElem?_neg, iC, sC, bC, z0, -Tab.zero49, kl, kt, ke, zl, dl, dt, h0])
       | ((first | (with_reducible refine awp_ret ?_; try simp only [thenA, inBlockA, noGotoA]) | (refine (p1 _).det ?_) | (refine (p3 _).det ?_) | (refine (q1 _).det ?_) | (refine (q2 _).det ?_) | (refine (aw _).det ?_)); try simp [-List.reduceReplicate, Nat.add_one_le_iff, -getElem?_pos, -getElem?_neg, iC, sC, bC, z0, -Tab.zero49, kl, kt, ke, zl, dl, dt, h0])
       | (with_reducible refine awp_if_b rfl (fun hc => ?_) (fun hc => ?_) <;> (try simp [-getElem?_pos, -getElem?_neg] at hc) <;> (try (exfalso; omega)))
       | ((with_reducible first | refine GuardK_b (fun hc => ?_) (fun hc => ?_)) <;> (try simp only [Bool.not_eq_true', Bool.not_eq_false', decide_eq_true_eq, decide_eq_false_iff_not] at hc) <;> (first | (exfalso; omega) | skip) <;> simp [-List.reduceReplicate, Nat.add_one_le_iff, -getElem?_pos, -getElem?_neg, iC, sC, bC, z0, -Tab.zero49, kl, kt, ke, zl, dl, dt, h0, hc])
       | (with_reducible refine And.intro (by omega) ?_)
       | fail)
    · obtain rfl := hzd he
      clear hed hzd hde q
      unfold cfM at *
      generalize checkC c = e1 at *
      generalize cfC c = K at *
      generalize cfC zCF = Z at *
      refine den_of Try.func6 rfl rfl (by simp [Try.ntmps6]) (fun X hX hO => ?_)
      rw [Try.ntmps6] at hX
      simp only [Try.results6]
      repeat' (first 
       | (with_reducible first | refine awp_scope ?_ | refine awp_seq ?_ | refine awp_block ?_)
       | ((with_reducible first | refine awp_label ?_ | refine awp_skip ?_ | refine awp_exit ?_); try simp only [thenA, inBlockA, noGotoA, if_true, Nat.reduceEqDiff, if_false, ↓reduceIte])
       | ((with_reducible first | refine awp_reg 70 hX [1, 2, 4, 5, 6, 7, 8, 9, 10, 11, 12, 19, 36, 43] ?_ | change postOf _ _ _ _ _); simp [-List.reduceReplicate, Nat.add_one_le_iff, -getElem?_pos, -getElem?_neg, iC, sC, bC, z0, -Tab.zero49, kl, kt, ke, zl, dl, dt, he, ze, h0])
       | ((first | (with_reducible refine awp_ret ?_; try simp only [thenA, inBlockA, noGotoA]) | (refine (p1 _).det ?_) | (refine (p3 _).det ?_) | (refine (aw _).det ?_)); try simp [-List.reduceReplicate, Nat.add_one_le_iff, -getElem?_pos, -getElem?_neg, iC, sC, bC, z0, -Tab.zero49, kl, kt, ke, zl, dl, dt, he, ze, h0])
       | (with_reducible refine awp_if_b rfl (fun hc => ?_) (fun hc => ?_) <;> (try simp [-getElem?_pos, -getElem?_neg] at hc) <;> (try (exfalso; omega)))
       | ((with_reducible first | refine GuardK_b (fun hc => ?_) (fun hc => ?_)) <;> (try simp only [Bool.not_eq_true', Bool.not_eq_false', decide_eq_true_eq, decide_eq_false_iff_not] at hc) <;> (first | (exfalso; omega) | skip) <;> simp [-List.reduceReplicate, Nat.add_one_le_iff, -getElem?_pos, -getElem?_neg, iC, sC, bC, z0, -Tab.zero49, kl, kt, ke, zl, dl, dt, he, ze, h0, hc])
       | (with_reducible refine And.intro (by omega) ?_)
       | fail)
end Go.Av
