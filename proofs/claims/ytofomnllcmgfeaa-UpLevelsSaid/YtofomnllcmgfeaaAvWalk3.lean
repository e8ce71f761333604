/- 21 texts of the program logic over abstract values, joined: each is proved without any condition beyond its own words. -/
import Derived.Test.YtofomnllcmgfeaaAvWalk1
import Derived.Test.YtofomnllcmgfeaaAvShelf
import Derived.Test.YtofomnllcmgfeaaAvEngine3
import Derived.Test.YtofomnllcmgfeaaAvWalk2
import Derived.Test.YtofomnllcmgfeaaAvEngine2
set_option exponentiation.threshold 1000
set_option linter.unusedVariables false
set_option linter.unusedSimpArgs false
set_option maxRecDepth 100000
set_option maxHeartbeats 4000000
namespace Go.Av
open Go Go.Proofs Go.Proofs.Ytofomnllcmgfeaa Go.RowKit
/-! ### strings.Join; texts and their bytes -/
theorem of_list (l : List UInt8) : (⟨l.toArray⟩ : ByteArray) = bsS l := rfl
theorem bs_data (b : ByteArray) : bsS b.data.toList = b := by
  obtain ⟨d⟩ := b
  simp [bsS]
def joinS (xs : List ByteArray) (sep : ByteArray) : List UInt8 := Lib.join (xs.map (·.data.toList)) sep.data.toList
theorem join_den (xs : List ByteArray) (sep : ByteArray) (n : Nat) (full : Bool) (hn : xs.length = n) (hN : n ≤ 1000000) (hlen : (joinS xs sep).length ≤ 140737488355328) :
    DenV Try.prog 127 [.c (.sl (xs.map fun s => .v (.string s)) n full), .c (.v (.string sep))] (.c (.v (.string (bsS (joinS xs sep))))) := by
  refine Den.of_below (by kernel_rfl) rfl fun w E vals hs ha hst => ?_
  have h1 := ha 1 _ rfl
  have h0 := ha 0 _ rfl
  rw [show (xs.map fun s => C.v (.string s)) = (xs.map Value.string).map C.v by simp] at h0
  obtain ⟨va, vb, rfl⟩ : ∃ va vb, vals = #[va, vb] := by
    obtain ⟨l⟩ := vals
    match l, hs with
    | [a, b], _ => exact ⟨a, b, rfl⟩
  obtain rfl : vb = .string sep := arg_v h1
  rcases arg_row (by simpa using hn) h0 with ⟨h, e⟩ | ⟨a, cap, e, hcap, hcell⟩
  · simp only [Array.getD_eq_getD_getElem?, List.getElem?_toArray, List.getElem?_cons_zero, Option.getD_some] at e
    subst e
    have : xs = [] := by rw [h] at hn; exact List.length_eq_zero_iff.1 hn
    subst this
    refine (Try.strings_Join_none none 0 sep w).mono fun e w' ⟨he, hw⟩ => ⟨?_, hw ▸ Below.refl _ _⟩
    rw [he]
    rfl
  · simp only [Array.getD_eq_getD_getElem?, List.getElem?_toArray, List.getElem?_cons_zero, Option.getD_some] at e
    subst e
    by_cases h : n = 0
    · have : xs = [] := by rw [h] at hn; exact List.length_eq_zero_iff.1 hn
      subst this
      subst h
      refine (Try.strings_Join_none (some a) cap sep w).mono fun e w' ⟨he, hw⟩ => ⟨?_, hw ▸ Below.refl _ _⟩
      rw [he]
      rfl
    · obtain ⟨s, hs0⟩ : ∃ s, xs[0]? = some s := ⟨_, List.getElem?_eq_getElem (by omega)⟩
      obtain ⟨hb, hc0⟩ := hcell 0 (.string s) (by simp [hs0])
      have hpl : a = ⟨a.block, a.off, none⟩ := by
        have : a.add 0 = a := by simp [Addr.add]
        rw [this] at hc0
        exact plain_of_cell hc0
      obtain ⟨blk, off, sp⟩ := a
      simp only [Addr.mk.injEq, true_and] at hpl
      subst hpl
      subst hn
      exact (Try.strings_Join blk off cap xs sep w (fun j x hx => by
        have := (hcell j (.string x) (by simp [hx])).2
        rwa [add_plain] at this) (hst _ hb) (by omega) hcap hlen).mono fun e w' h => h
theorem bs_toList (l : List UInt8) : (bsS l).toList = l := by rw [toList_data]; rfl
theorem ba_ext {a b : ByteArray} (h : a.data.toList = b.data.toList) : a = b := by
  obtain ⟨a⟩ := a
  obtain ⟨b⟩ := b
  simp only [ByteArray.mk.injEq]
  exact Array.toList_inj.1 h
theorem size_list (s : ByteArray) : s.size = s.data.toList.length := by simp
theorem hash_take (l : List UInt8) (h : l.length = 32) : (l.map bC8).take 32 = l.map bC8 := List.take_of_length_le (by simp [h])
theorem eq_hash1 (l : List UInt8) (h : l.length = 32) : eqM (List.replicate 32 0) (up (l.map bC8)) (up (l.map bC8)) = some true := by rw [eq_hash l l h h]; simp
end Go.Av

set_option exponentiation.threshold 1000
set_option linter.unusedVariables false
set_option linter.unusedSimpArgs false
set_option maxRecDepth 100000
set_option maxHeartbeats 4000000
namespace Go.Av
open Go Go.Proofs Go.Proofs.Ytofomnllcmgfeaa Go.RowKit
/-! ### levels -/
theorem lvF_step (x t f k : Nat) : lvF x t (f + 1) k = if x ≤ t / 2 ^ k then lvF x t f (k + 1) else k := rfl
def lvI (x t : Nat) : Int := (lvN x t : Int) - 1
set_option maxHeartbeats 4000000 in
theorem level_den (a b : List UInt8) (ha : a.length = 32) (hb : b.length = 32) : DenV Try.prog 72 [hashM a, hashM b] (.c (iC (lvI (hv a) (hv b)))) := by
  refine Den.frame (by simp [ltBs, ltB, lt_hash]) rfl ?_
  have p1 := wof_den a ha
  have p2 := wof_den b hb
  have hxa := hv_256 a ha
  have hxb := hv_256 b hb
  have ta := hash_take a ha
  have tb := hash_take b hb
  have hs := fun i (h : i ≤ 255) => wshr_den (hv b) i hxb h
  have hle : ∀ i, hv b / 2 ^ i < 2 ^ (64 * 4) := fun i => Nat.lt_of_le_of_lt (Nat.div_le_self _ _) hxb
  have hc := fun i => wcmp_den (hv a) (hv b / 2 ^ i) hxa (hle i)
  have st := lvF_step (hv a) (hv b)
  have hN : lvF (hv a) (hv b) (256 - 0) 0 = lvN (hv a) (hv b) := rfl
  have hend : ∀ k, lvF (hv a) (hv b) 0 k = k := fun _ => rfl
  have hI : lvI (hv a) (hv b) = (lvN (hv a) (hv b) : Int) - 1 := rfl
  have hcg : ∀ i, (0 < cmpN (hv a) (hv b / 2 ^ i)) ↔ ¬ hv a ≤ hv b / 2 ^ i := fun i => by
    unfold cmpN
    split
    · omega
    · split <;> omega
  have la : (a.map bC8).length = 32 := by simp [ha]
  have lb : (b.map bC8).length = 32 := by simp [hb]
  have hll : lvN (hv a) (hv b) ≤ 256 := by have := lvF_le (hv a) (hv b) 256 0; unfold lvN; omega
  have l4a := limC_len 4 (hv a)
  have l4b := limC_len 4 (hv b)
  have t4a : (limC 4 (hv a)).take 4 = limC 4 (hv a) := List.take_of_length_le (by omega)
  have t4b : (limC 4 (hv b)).take 4 = limC 4 (hv b) := List.take_of_length_le (by omega)
  have lyw : ∀ x, lay [M.c (C.v (.int .u64 0)), M.c (C.v (.int .u64 0)), M.c (C.v (.int .u64 0)), M.c (C.v (.int .u64 0))] 0 (up (limC 4 x)) = up (limC 4 x) := fun x => by
    rw [lay_app _ _ _ (by simp [up, limC_len])]
    simp [up, limC_len]
  rw [hI]
  have lya := lyw (hv a)
  have lyb := lyw (hv b)
  unfold wideM hashM at *
  generalize limC 4 (hv a) = ca at *
  generalize limC 4 (hv b) = cb at *
  generalize lvN (hv a) (hv b) = n at *
  have z0 : zeroT Try.prog 130 = some [M.c (C.v (.int .u64 0)), M.c (C.v (.int .u64 0)), M.c (C.v (.int .u64 0)), M.c (C.v (.int .u64 0))] := by kernel_rfl
  refine den_of Try.func72 rfl rfl (by simp [Try.ntmps72]) (fun X hX hO => ?_)
  rw [Try.ntmps72] at hX
  simp only [Try.results72]
  repeat' (first 
   | (with_reducible first | refine awp_scope ?_ | refine awp_seq ?_ | refine awp_block ?_)
   | ((with_reducible first | refine awp_label ?_ | refine awp_skip ?_); try simp only [thenA, inBlockA, noGotoA])
   | (with_reducible refine awp_exit ?_; simp only [thenA, inBlockA, noGotoA, if_true, Nat.reduceEqDiff, if_false, ↓reduceIte])
   | (with_reducible refine awp_ret ?_; (try simp only [thenA, inBlockA, noGotoA]); (try simp [-List.reduceReplicate, Nat.add_one_le_iff, -getElem?_pos, -getElem?_neg, List.getElem?_cons_zero, List.getElem?_cons_succ, la, lb]))
   | ((with_reducible first | refine awp_reg 25 hX [2, 3, 4, 5, 6, 7, 8, 13, 14, 21] ?_ | refine awp_drw (id := 6) 25 hX [2, 3, 4, 5, 6, 7, 8, 13, 14, 21] Tab.mixed (by kernel_rfl) ?_ | refine DEv_cut _ _ _ _ _ _ _ _ _ _ _ _ (by kernel_rfl) ?_ | change postOf _ _ _ _ _); simp [-List.reduceReplicate, Nat.add_one_le_iff, -getElem?_pos, -getElem?_neg, List.getElem?_cons_zero, List.getElem?_cons_succ, la, lb])
   | (with_reducible refine awp_if_b rfl (fun hc => ?_) (fun hc => ?_) <;> (try simp [-getElem?_pos, -getElem?_neg] at hc) <;> (try (exfalso; omega)))
   | ((with_reducible first | refine GuardK_b (fun hc => ?_) (fun hc => ?_) | refine DGuard_b _ _ _ _ _ _ _ _ _ _ (fun hc => ?_) (fun hc => ?_)) <;> (try simp only [Bool.not_eq_true', Bool.not_eq_false', decide_eq_true_eq, decide_eq_false_iff_not] at hc) <;> (first | (exfalso; omega) | skip) <;> simp [-List.reduceReplicate, Nat.add_one_le_iff, -getElem?_pos, -getElem?_neg, List.getElem?_cons_zero, List.getElem?_cons_succ, la, lb, hc])
   | ((with_reducible first | refine hother _ _ rfl ?_); simp only [inBlockA, thenA, noGotoA, Nat.reduceEqDiff, if_false, if_true, ↓reduceIte])
   | (with_reducible refine And.intro (by omega) ?_)
   | fail)
  refine awp_nilO 130 1 (awp_nilO 130 1 ?_)
  simp only [List.cons_append, List.nil_append]
  refine awp_drawS (id := 1) 25 hX [2, 3, 4, 5, 6, 7, 8, 13, 14, 21] Tab.mixed (by kernel_rfl) [.agg (up (a.map bC8)), .agg (up ca), .agg (up (b.map bC8)), .agg (up cb), .mp 2 1 0, .mp 3 1 0, .junk, .junk] (fun p => [⟨71, 1, false, 0, up (a.map bC8), none⟩, ⟨71, 1, false, 0, up (b.map bC8), none⟩, if p 6 then ⟨130, 1, false, 1, up ca, none⟩ else if p 4 then ⟨130, 1, false, 1, [M.c (C.v (.int .u64 0)), M.c (C.v (.int .u64 0)), M.c (C.v (.int .u64 0)), M.c (C.v (.int .u64 0))], none⟩ else ⟨130, 1, true, 0, [], none⟩, if p 7 then ⟨130, 1, false, 1, up cb, none⟩ else if p 5 then ⟨130, 1, false, 1, [M.c (C.v (.int .u64 0)), M.c (C.v (.int .u64 0)), M.c (C.v (.int .u64 0)), M.c (C.v (.int .u64 0))], none⟩ else ⟨130, 1, true, 0, [], none⟩]) (by simp [la, lb, ta, tb, l4a, l4b, lya, lyb]) (fun p q hpq => ?_) ?_ ?_
  · simp only [hpq 4 (by decide), hpq 5 (by decide), hpq 6 (by decide), hpq 7 (by decide)]
  · intro i o p hl hp hcl hno
    match i, hl with
    | 0, hl =>
      obtain rfl := Option.some.inj hl
      have c6 : p 6 = false := by cases h : p 6 with | false => rfl | true => exact absurd (List.contains_iff_mem.1 (by kernel_rfl)) (hno 6 _ rfl h)
      have c7 : p 7 = false := by cases h : p 7 with | false => rfl | true => exact absurd (List.contains_iff_mem.1 (by kernel_rfl)) (hno 7 _ rfl h)
      all_goals rcases Bool.eq_false_or_eq_true (p 4) with c4 | c4
      all_goals rcases Bool.eq_false_or_eq_true (p 5) with c5 | c5
      all_goals refine ⟨_, rfl, ?_⟩
      all_goals simp [StepS, frP, -exists_and_left, hp, c6, c7, c4, c5, la, lb, ta, tb, l4a, l4b, lya, lyb]
    | 1, hl =>
      obtain rfl := Option.some.inj hl
      have c6 : p 6 = false := by cases h : p 6 with | false => rfl | true => exact absurd (List.contains_iff_mem.1 (by kernel_rfl)) (hno 6 _ rfl h)
      have c7 : p 7 = false := by cases h : p 7 with | false => rfl | true => exact absurd (List.contains_iff_mem.1 (by kernel_rfl)) (hno 7 _ rfl h)
      all_goals rcases Bool.eq_false_or_eq_true (p 4) with c4 | c4
      all_goals rcases Bool.eq_false_or_eq_true (p 5) with c5 | c5
      all_goals refine ⟨_, rfl, ?_⟩
      all_goals simp [StepS, frP, -exists_and_left, hp, c6, c7, c4, c5, la, lb, ta, tb, l4a, l4b, lya, lyb]
      all_goals first | exact ⟨_, _, ⟨rfl, rfl⟩, p1 _⟩ | exact ⟨_, _, ⟨rfl, rfl⟩, p2 _⟩
    | 2, hl =>
      obtain rfl := Option.some.inj hl
      have c6 : p 6 = false := by cases h : p 6 with | false => rfl | true => exact absurd (List.contains_iff_mem.1 (by kernel_rfl)) (hno 6 _ rfl h)
      have c7 : p 7 = false := by cases h : p 7 with | false => rfl | true => exact absurd (List.contains_iff_mem.1 (by kernel_rfl)) (hno 7 _ rfl h)
      all_goals rcases Bool.eq_false_or_eq_true (p 4) with c4 | c4
      all_goals rcases Bool.eq_false_or_eq_true (p 5) with c5 | c5
      all_goals refine ⟨_, rfl, ?_⟩
      all_goals simp [StepS, frP, -exists_and_left, hp, c6, c7, c4, c5, la, lb, ta, tb, l4a, l4b, lya, lyb]
    | 3, hl =>
      obtain rfl := Option.some.inj hl
      have c6 : p 6 = false := by cases h : p 6 with | false => rfl | true => exact absurd (List.contains_iff_mem.1 (by kernel_rfl)) (hno 6 _ rfl h)
      have c7 : p 7 = false := by cases h : p 7 with | false => rfl | true => exact absurd (List.contains_iff_mem.1 (by kernel_rfl)) (hno 7 _ rfl h)
      all_goals rcases Bool.eq_false_or_eq_true (p 4) with c4 | c4
      all_goals rcases Bool.eq_false_or_eq_true (p 5) with c5 | c5
      all_goals refine ⟨_, rfl, ?_⟩
      all_goals simp [StepS, frP, -exists_and_left, hp, c6, c7, c4, c5, la, lb, ta, tb, l4a, l4b, lya, lyb]
      all_goals first | exact ⟨_, _, ⟨rfl, rfl⟩, p1 _⟩ | exact ⟨_, _, ⟨rfl, rfl⟩, p2 _⟩
    | 4, hl =>
      obtain rfl := Option.some.inj hl
      have c6 : p 6 = false := by cases h : p 6 with | false => rfl | true => exact absurd (List.contains_iff_mem.1 (by kernel_rfl)) (hno 6 _ rfl h)
      have c7 : p 7 = false := by cases h : p 7 with | false => rfl | true => exact absurd (List.contains_iff_mem.1 (by kernel_rfl)) (hno 7 _ rfl h)
      all_goals rcases Bool.eq_false_or_eq_true (p 5) with c5 | c5
      all_goals refine ⟨_, rfl, ?_⟩
      all_goals refine ⟨by simp [dstOK], .inr ⟨by simp [guardV], .inr ⟨by simp [callOf], .inr ⟨_, _, _, rfl, by first | assumption | (simp; done), by simp [hp, c6, c7, c5, la, lb, ta, tb, l4a, l4b, lya, lyb], rfl, by simp [hp, c6, c7, c5, la, lb, ta, tb, l4a, l4b, lya, lyb]⟩⟩⟩⟩
    | 5, hl =>
      obtain rfl := Option.some.inj hl
      have c6 : p 6 = false := by cases h : p 6 with | false => rfl | true => exact absurd (List.contains_iff_mem.1 (by kernel_rfl)) (hno 6 _ rfl h)
      have c7 : p 7 = false := by cases h : p 7 with | false => rfl | true => exact absurd (List.contains_iff_mem.1 (by kernel_rfl)) (hno 7 _ rfl h)
      all_goals rcases Bool.eq_false_or_eq_true (p 4) with c4 | c4
      all_goals refine ⟨_, rfl, ?_⟩
      all_goals refine ⟨by simp [dstOK], .inr ⟨by simp [guardV], .inr ⟨by simp [callOf], .inr ⟨_, _, _, rfl, by first | assumption | (simp; done), by simp [hp, c6, c7, c4, la, lb, ta, tb, l4a, l4b, lya, lyb], rfl, by simp [hp, c6, c7, c4, la, lb, ta, tb, l4a, l4b, lya, lyb]⟩⟩⟩⟩
    | 6, hl =>
      obtain rfl := Option.some.inj hl
      have c4 : p 4 = true := hcl 4 (List.contains_iff_mem.1 (by kernel_rfl))
      have c5 : p 5 = true := hcl 5 (List.contains_iff_mem.1 (by kernel_rfl))
      have c7 : p 7 = false := by cases h : p 7 with | false => rfl | true => exact absurd (List.contains_iff_mem.1 (by kernel_rfl)) (hno 7 _ rfl h)
      all_goals refine ⟨_, rfl, ?_⟩
      all_goals simp [StepS, frP, -exists_and_left, hp, c4, c5, c7, la, lb, ta, tb, l4a, l4b, lya, lyb]
    | 7, hl =>
      obtain rfl := Option.some.inj hl
      have c4 : p 4 = true := hcl 4 (List.contains_iff_mem.1 (by kernel_rfl))
      have c5 : p 5 = true := hcl 5 (List.contains_iff_mem.1 (by kernel_rfl))
      have c6 : p 6 = true := hcl 6 (List.contains_iff_mem.1 (by kernel_rfl))
      all_goals refine ⟨_, rfl, ?_⟩
      all_goals simp [StepS, frP, -exists_and_left, hp, c4, c5, c6, la, lb, ta, tb, l4a, l4b, lya, lyb]
    | n + 8, hl => simp at hl
  simp [frP, la, lb, ta, tb, l4a, l4b, lya, lyb]
  repeat' (first 
   | (with_reducible first | refine awp_scope ?_ | refine awp_seq ?_ | refine awp_block ?_)
   | ((with_reducible first | refine awp_label ?_ | refine awp_skip ?_); try simp only [thenA, inBlockA, noGotoA])
   | (with_reducible refine awp_exit ?_; simp only [thenA, inBlockA, noGotoA, if_true, Nat.reduceEqDiff, if_false, ↓reduceIte])
   | (with_reducible refine awp_ret ?_; (try simp only [thenA, inBlockA, noGotoA]); (try simp [-List.reduceReplicate, Nat.add_one_le_iff, -getElem?_pos, -getElem?_neg, List.getElem?_cons_zero, List.getElem?_cons_succ, iC]))
   | ((with_reducible first | refine awp_reg 25 hX [2, 3, 4, 5, 6, 7, 8, 13, 14, 21] ?_ | refine awp_drw (id := 6) 25 hX [2, 3, 4, 5, 6, 7, 8, 13, 14, 21] Tab.mixed (by kernel_rfl) ?_ | refine DEv_cut _ _ _ _ _ _ _ _ _ _ _ _ (by kernel_rfl) ?_ | change postOf _ _ _ _ _); simp [-List.reduceReplicate, Nat.add_one_le_iff, -getElem?_pos, -getElem?_neg, List.getElem?_cons_zero, List.getElem?_cons_succ, iC])
   | (with_reducible refine awp_if_b rfl (fun hc => ?_) (fun hc => ?_) <;> (try simp [-getElem?_pos, -getElem?_neg] at hc) <;> (try (exfalso; omega)))
   | ((with_reducible first | refine GuardK_b (fun hc => ?_) (fun hc => ?_) | refine DGuard_b _ _ _ _ _ _ _ _ _ _ (fun hc => ?_) (fun hc => ?_)) <;> (try simp only [Bool.not_eq_true', Bool.not_eq_false', decide_eq_true_eq, decide_eq_false_iff_not] at hc) <;> (first | (exfalso; omega) | skip) <;> simp [-List.reduceReplicate, Nat.add_one_le_iff, -getElem?_pos, -getElem?_neg, List.getElem?_cons_zero, List.getElem?_cons_succ, iC, hc])
   | ((with_reducible first | refine hother _ _ rfl ?_); simp only [inBlockA, thenA, noGotoA, Nat.reduceEqDiff, if_false, if_true, ↓reduceIte])
   | (with_reducible refine And.intro (by omega) ?_)
   | fail)
  refine awp_forU [5, 6, 7, 13] (fun i (_u : Unit) => [(7, .c (iC ((i : Int) - 1))), (13, .c (iC i))]) (fun i (_u : Unit) => [⟨71, 1, false, 0, up (a.map bC8), none⟩, ⟨71, 1, false, 0, up (b.map bC8), none⟩, ⟨130, 1, false, 1, up ca, none⟩, ⟨130, 1, false, 1, up cb, none⟩]) (fun i (_u : Unit) => lvF (hv a) (hv b) (256 - i) i = n) (256) (()) (hN) (by simp [-List.reduceReplicate, keep, iC]) (by simp [-List.reduceReplicate, iC]) ?_
  rintro i _u Q1 hi hH next hother
  conv => arg 5; arg 1; simp only [List.cons_append, List.nil_append, keep, get, Nat.reduceEqDiff, if_true, if_false, ↓reduceIte]
  have hwi := wrap_in ((i : Int) + 1) (by omega)
  by_cases hlt : i < 256
  · obtain ⟨f, hf⟩ : ∃ f, 256 - i = f + 1 := ⟨255 - i, by omega⟩
    have e2 : 256 - (i + 1) = f := by omega
    have hi2 : (i : Int) < 256 := by omega
    rw [hf, st] at hH
    rw [e2] at next
    have s1 := hs i (by omega)
    have c1 := hc i
    have cg := hcg i
    have e3 : (i : Int) + 1 - 1 = (i : Int) := by omega
    by_cases hle2 : hv a ≤ hv b / 2 ^ i
    · rw [if_pos hle2] at hH
      have cn : ¬ 0 < cmpN (hv a) (hv b / 2 ^ i) := fun h => (cg.1 h) hle2
      have hl1 : (up ca).length = 4 := by simp [up, l4a]
      generalize cmpN (hv a) (hv b / 2 ^ i) = cc at *
      generalize limC 4 (hv b / 2 ^ i) = cs at *
      repeat' (first 
       | (with_reducible first | refine awp_scope ?_ | refine awp_seq ?_ | refine awp_block ?_)
       | ((with_reducible first | refine awp_label ?_ | refine awp_skip ?_); try simp only [thenA, inBlockA, noGotoA])
       | (with_reducible refine awp_exit ?_; simp only [thenA, inBlockA, noGotoA, if_true, Nat.reduceEqDiff, if_false, ↓reduceIte])
       | (with_reducible refine awp_ret ?_; (try simp only [thenA, inBlockA, noGotoA]); (try simp [-List.reduceReplicate, Nat.add_one_le_iff, -getElem?_pos, -getElem?_neg, List.getElem?_cons_zero, List.getElem?_cons_succ, iC, bC, hi2, cn, l4a, l4b, t4a, t4b, hwi]))
       | ((with_reducible first | refine awp_reg 25 hX [2, 3, 4, 5, 6, 7, 8, 13, 14, 21] ?_ | refine awp_drw (id := 6) 25 hX [2, 3, 4, 5, 6, 7, 8, 13, 14, 21] Tab.mixed (by kernel_rfl) ?_ | refine DEv_cut _ _ _ _ _ _ _ _ _ _ _ _ (by kernel_rfl) ?_ | change postOf _ _ _ _ _); simp [-List.reduceReplicate, Nat.add_one_le_iff, -getElem?_pos, -getElem?_neg, List.getElem?_cons_zero, List.getElem?_cons_succ, iC, bC, hi2, cn, l4a, l4b, t4a, t4b, hwi])
       | ((first | (refine (s1 _).det ?_) | (refine ⟨_, _, s1 _, fun _ => rfl, ?_⟩) | (refine (c1 _).det ?_) | (refine ⟨_, _, c1 _, fun _ => rfl, ?_⟩)); try simp [-List.reduceReplicate, Nat.add_one_le_iff, -getElem?_pos, -getElem?_neg, List.getElem?_cons_zero, List.getElem?_cons_succ, iC, bC, hi2, cn, l4a, l4b, t4a, t4b, hwi])
       | (with_reducible refine awp_if_b rfl (fun hc => ?_) (fun hc => ?_) <;> (try simp [-getElem?_pos, -getElem?_neg] at hc) <;> (try (exfalso; omega)))
       | ((with_reducible first | refine GuardK_b (fun hc => ?_) (fun hc => ?_) | refine DGuard_b _ _ _ _ _ _ _ _ _ _ (fun hc => ?_) (fun hc => ?_)) <;> (try simp only [Bool.not_eq_true', Bool.not_eq_false', decide_eq_true_eq, decide_eq_false_iff_not] at hc) <;> (first | (exfalso; omega) | skip) <;> simp [-List.reduceReplicate, Nat.add_one_le_iff, -getElem?_pos, -getElem?_neg, List.getElem?_cons_zero, List.getElem?_cons_succ, iC, bC, hi2, cn, l4a, l4b, t4a, t4b, hwi, hc])
       | ((with_reducible first | refine hother _ _ rfl ?_); simp only [inBlockA, thenA, noGotoA, Nat.reduceEqDiff, if_false, if_true, ↓reduceIte])
       | (with_reducible refine And.intro (by omega) ?_)
       | fail)
      refine next _ _ (()) (by omega) (by first | trivial | omega | assumption) (by simp [-List.reduceReplicate, keep, iC, e3]) (by simp [-List.reduceReplicate, iC, e3])
    · rw [if_neg hle2] at hH
      subst hH
      have cn : 0 < cmpN (hv a) (hv b / 2 ^ i) := cg.2 hle2
      generalize cmpN (hv a) (hv b / 2 ^ i) = cc at *
      generalize limC 4 (hv b / 2 ^ i) = cs at *
      repeat' (first 
       | (with_reducible first | refine awp_scope ?_ | refine awp_seq ?_ | refine awp_block ?_)
       | ((with_reducible first | refine awp_label ?_ | refine awp_skip ?_); try simp only [thenA, inBlockA, noGotoA])
       | (with_reducible refine awp_exit ?_; simp only [thenA, inBlockA, noGotoA, if_true, Nat.reduceEqDiff, if_false, ↓reduceIte])
       | (with_reducible refine awp_ret ?_; (try simp only [thenA, inBlockA, noGotoA]); (try simp [-List.reduceReplicate, Nat.add_one_le_iff, -getElem?_pos, -getElem?_neg, List.getElem?_cons_zero, List.getElem?_cons_succ, iC, bC, hi2, cn, l4a, l4b, t4a, t4b, hwi]))
       | ((with_reducible first | refine awp_reg 25 hX [2, 3, 4, 5, 6, 7, 8, 13, 14, 21] ?_ | refine awp_drw (id := 6) 25 hX [2, 3, 4, 5, 6, 7, 8, 13, 14, 21] Tab.mixed (by kernel_rfl) ?_ | refine DEv_cut _ _ _ _ _ _ _ _ _ _ _ _ (by kernel_rfl) ?_ | change postOf _ _ _ _ _); simp [-List.reduceReplicate, Nat.add_one_le_iff, -getElem?_pos, -getElem?_neg, List.getElem?_cons_zero, List.getElem?_cons_succ, iC, bC, hi2, cn, l4a, l4b, t4a, t4b, hwi])
       | ((first | (refine (s1 _).det ?_) | (refine ⟨_, _, s1 _, fun _ => rfl, ?_⟩) | (refine (c1 _).det ?_) | (refine ⟨_, _, c1 _, fun _ => rfl, ?_⟩)); try simp [-List.reduceReplicate, Nat.add_one_le_iff, -getElem?_pos, -getElem?_neg, List.getElem?_cons_zero, List.getElem?_cons_succ, iC, bC, hi2, cn, l4a, l4b, t4a, t4b, hwi])
       | (with_reducible refine awp_if_b rfl (fun hc => ?_) (fun hc => ?_) <;> (try simp [-getElem?_pos, -getElem?_neg] at hc) <;> (try (exfalso; omega)))
       | ((with_reducible first | refine GuardK_b (fun hc => ?_) (fun hc => ?_) | refine DGuard_b _ _ _ _ _ _ _ _ _ _ (fun hc => ?_) (fun hc => ?_)) <;> (try simp only [Bool.not_eq_true', Bool.not_eq_false', decide_eq_true_eq, decide_eq_false_iff_not] at hc) <;> (first | (exfalso; omega) | skip) <;> simp [-List.reduceReplicate, Nat.add_one_le_iff, -getElem?_pos, -getElem?_neg, List.getElem?_cons_zero, List.getElem?_cons_succ, iC, bC, hi2, cn, l4a, l4b, t4a, t4b, hwi, hc])
       | ((with_reducible first | refine hother _ _ rfl ?_); simp only [inBlockA, thenA, noGotoA, Nat.reduceEqDiff, if_false, if_true, ↓reduceIte])
       | (with_reducible refine And.intro (by omega) ?_)
       | fail)
  · have hj : i = 256 := by omega
    subst hj
    rw [Nat.sub_self, hend] at hH
    subst hH
    repeat' (first 
     | (with_reducible first | refine awp_scope ?_ | refine awp_seq ?_ | refine awp_block ?_)
     | ((with_reducible first | refine awp_label ?_ | refine awp_skip ?_); try simp only [thenA, inBlockA, noGotoA])
     | (with_reducible refine awp_exit ?_; simp only [thenA, inBlockA, noGotoA, if_true, Nat.reduceEqDiff, if_false, ↓reduceIte])
     | (with_reducible refine awp_ret ?_; (try simp only [thenA, inBlockA, noGotoA]); (try simp [-List.reduceReplicate, Nat.add_one_le_iff, -getElem?_pos, -getElem?_neg, List.getElem?_cons_zero, List.getElem?_cons_succ, iC, bC]))
     | ((with_reducible first | refine awp_reg 25 hX [2, 3, 4, 5, 6, 7, 8, 13, 14, 21] ?_ | refine awp_drw (id := 6) 25 hX [2, 3, 4, 5, 6, 7, 8, 13, 14, 21] Tab.mixed (by kernel_rfl) ?_ | refine DEv_cut _ _ _ _ _ _ _ _ _ _ _ _ (by kernel_rfl) ?_ | change postOf _ _ _ _ _); simp [-List.reduceReplicate, Nat.add_one_le_iff, -getElem?_pos, -getElem?_neg, List.getElem?_cons_zero, List.getElem?_cons_succ, iC, bC])
     | (with_reducible refine awp_if_b rfl (fun hc => ?_) (fun hc => ?_) <;> (try simp [-getElem?_pos, -getElem?_neg] at hc) <;> (try (exfalso; omega)))
     | ((with_reducible first | refine GuardK_b (fun hc => ?_) (fun hc => ?_) | refine DGuard_b _ _ _ _ _ _ _ _ _ _ (fun hc => ?_) (fun hc => ?_)) <;> (try simp only [Bool.not_eq_true', Bool.not_eq_false', decide_eq_true_eq, decide_eq_false_iff_not] at hc) <;> (first | (exfalso; omega) | skip) <;> simp [-List.reduceReplicate, Nat.add_one_le_iff, -getElem?_pos, -getElem?_neg, List.getElem?_cons_zero, List.getElem?_cons_succ, iC, bC, hc])
     | ((with_reducible first | refine hother _ _ rfl ?_); simp only [inBlockA, thenA, noGotoA, Nat.reduceEqDiff, if_false, if_true, ↓reduceIte])
     | (with_reducible refine And.intro (by omega) ?_)
     | fail)
set_option maxHeartbeats 4000000 in
theorem level17_den (a b : List UInt8) (ha : a.length = 32) (hb : b.length = 32) : DenV Try.prog 74 [hashM a, hashM b] (.c (iC (lvI (hv a) (hv b)))) := by
  refine Den.frame (by simp [ltBs, ltB, lt_hash]) rfl ?_
  have p1 := of04_den a ha
  have p2 := of04_den b hb
  have hxa : hv a < 2 ^ 256 := hv_256 a ha
  have hxb : hv b < 2 ^ 256 := hv_256 b hb
  have ta := hash_take a ha
  have tb := hash_take b hb
  have hs := fun i (h : i ≤ 255) => shr04_den (hv b) i hxb (by omega)
  have hle : ∀ i, hv b / 2 ^ i < 2 ^ 256 := fun i => Nat.lt_of_le_of_lt (Nat.div_le_self _ _) hxb
  have hc := fun i => cmp04_den (hv a) (hv b / 2 ^ i) hxa (hle i)
  have st := lvF_step (hv a) (hv b)
  have hN : lvF (hv a) (hv b) (256 - 0) 0 = lvN (hv a) (hv b) := rfl
  have hend : ∀ k, lvF (hv a) (hv b) 0 k = k := fun _ => rfl
  have hI : lvI (hv a) (hv b) = (lvN (hv a) (hv b) : Int) - 1 := rfl
  have hcg : ∀ i, (cmpN (hv a) (hv b / 2 ^ i) ≤ 0) ↔ hv a ≤ hv b / 2 ^ i := fun i => by
    unfold cmpN
    split
    · omega
    · split <;> omega
  have la : (a.map bC8).length = 32 := by simp [ha]
  have lb : (b.map bC8).length = 32 := by simp [hb]
  have hll : lvN (hv a) (hv b) ≤ 256 := by have := lvF_le (hv a) (hv b) 256 0; unfold lvN; omega
  rw [hI]
  unfold hashM at *
  generalize lvN (hv a) (hv b) = n at *
  obtain ⟨bC_, hbC⟩ : ∃ f : Nat → C, ∀ x, bitsC x = f x := ⟨_, fun _ => rfl⟩
  simp only [hbC] at *
  refine den_of Try.func74 rfl rfl (by simp [Try.ntmps74]) (fun X hX hO => ?_)
  rw [Try.ntmps74] at hX
  simp only [Try.results74]
  repeat' (first 
   | (with_reducible first | refine awp_scope ?_ | refine awp_seq ?_ | refine awp_block ?_)
   | ((with_reducible first | refine awp_label ?_ | refine awp_skip ?_); try simp only [thenA, inBlockA, noGotoA])
   | (with_reducible refine awp_exit ?_; simp only [thenA, inBlockA, noGotoA, if_true, Nat.reduceEqDiff, if_false, ↓reduceIte])
   | (with_reducible refine awp_ret ?_; (try simp only [thenA, inBlockA, noGotoA]); (try simp [-List.reduceReplicate, Nat.add_one_le_iff, -getElem?_pos, -getElem?_neg, List.getElem?_cons_zero, List.getElem?_cons_succ, la, lb, ta, tb, iC]))
   | ((with_reducible first | refine awp_reg 26 hX [2, 3, 4, 5, 6, 7, 21] ?_ | change postOf _ _ _ _ _); simp [-List.reduceReplicate, Nat.add_one_le_iff, -getElem?_pos, -getElem?_neg, List.getElem?_cons_zero, List.getElem?_cons_succ, la, lb, ta, tb, iC])
   | ((first | (refine (p1 _).det ?_) | (refine (p2 _).det ?_)); try simp [-List.reduceReplicate, Nat.add_one_le_iff, -getElem?_pos, -getElem?_neg, List.getElem?_cons_zero, List.getElem?_cons_succ, la, lb, ta, tb, iC])
   | (with_reducible refine awp_if_b rfl (fun hc => ?_) (fun hc => ?_) <;> (try simp [-getElem?_pos, -getElem?_neg] at hc) <;> (try (exfalso; omega)))
   | ((with_reducible first | refine GuardK_b (fun hc => ?_) (fun hc => ?_)) <;> (try simp only [Bool.not_eq_true', Bool.not_eq_false', decide_eq_true_eq, decide_eq_false_iff_not] at hc) <;> (first | (exfalso; omega) | skip) <;> simp [-List.reduceReplicate, Nat.add_one_le_iff, -getElem?_pos, -getElem?_neg, List.getElem?_cons_zero, List.getElem?_cons_succ, la, lb, ta, tb, iC, hc])
   | ((with_reducible first | refine hother _ _ rfl ?_); simp only [inBlockA, thenA, noGotoA, Nat.reduceEqDiff, if_false, if_true, ↓reduceIte])
   | (with_reducible refine And.intro (by omega) ?_)
   | fail)
  refine awp_forU [5, 6, 7] (fun i (_u : Unit) => [(7, .c (iC i))]) (fun i (_u : Unit) => [⟨71, 1, false, 0, up (a.map bC8), none⟩, ⟨71, 1, false, 0, up (b.map bC8), none⟩]) (fun i (_u : Unit) => lvF (hv a) (hv b) (256 - i) i = n) (256) (()) (hN) (by simp [-List.reduceReplicate, keep, iC]) (by simp [-List.reduceReplicate, iC]) ?_
  rintro i _u Q1 hi hH next hother
  conv => arg 5; arg 1; simp only [List.cons_append, List.nil_append, keep, get, Nat.reduceEqDiff, if_true, if_false, ↓reduceIte]
  have hwi := wrap_in ((i : Int) + 1) (by omega)
  have hwn := wrap_in ((i : Int) - 1) (by omega)
  by_cases hlt : i < 256
  · obtain ⟨f, hf⟩ : ∃ f, 256 - i = f + 1 := ⟨255 - i, by omega⟩
    have e2 : 256 - (i + 1) = f := by omega
    have hi2 : (i : Int) < 256 := by omega
    rw [hf, st] at hH
    rw [e2] at next
    have s1 := hs i (by omega)
    have c1 := hc i
    have cg := hcg i
    by_cases hle2 : hv a ≤ hv b / 2 ^ i
    · rw [if_pos hle2] at hH
      have cn := cg.2 hle2
      generalize cmpN (hv a) (hv b / 2 ^ i) = cc at *
      repeat' (first 
       | (with_reducible first | refine awp_scope ?_ | refine awp_seq ?_ | refine awp_block ?_)
       | ((with_reducible first | refine awp_label ?_ | refine awp_skip ?_); try simp only [thenA, inBlockA, noGotoA])
       | (with_reducible refine awp_exit ?_; simp only [thenA, inBlockA, noGotoA, if_true, Nat.reduceEqDiff, if_false, ↓reduceIte])
       | (with_reducible refine awp_ret ?_; (try simp only [thenA, inBlockA, noGotoA]); (try simp [-List.reduceReplicate, Nat.add_one_le_iff, -getElem?_pos, -getElem?_neg, List.getElem?_cons_zero, List.getElem?_cons_succ, iC, bC, hi2, cn, hwi]))
       | ((with_reducible first | refine awp_reg 26 hX [2, 3, 4, 5, 6, 7, 21] ?_ | change postOf _ _ _ _ _); simp [-List.reduceReplicate, Nat.add_one_le_iff, -getElem?_pos, -getElem?_neg, List.getElem?_cons_zero, List.getElem?_cons_succ, iC, bC, hi2, cn, hwi])
       | ((first | (refine (s1 _).det ?_) | (refine (c1 _).det ?_)); try simp [-List.reduceReplicate, Nat.add_one_le_iff, -getElem?_pos, -getElem?_neg, List.getElem?_cons_zero, List.getElem?_cons_succ, iC, bC, hi2, cn, hwi])
       | (with_reducible refine awp_if_b rfl (fun hc => ?_) (fun hc => ?_) <;> (try simp [-getElem?_pos, -getElem?_neg] at hc) <;> (try (exfalso; omega)))
       | ((with_reducible first | refine GuardK_b (fun hc => ?_) (fun hc => ?_)) <;> (try simp only [Bool.not_eq_true', Bool.not_eq_false', decide_eq_true_eq, decide_eq_false_iff_not] at hc) <;> (first | (exfalso; omega) | skip) <;> simp [-List.reduceReplicate, Nat.add_one_le_iff, -getElem?_pos, -getElem?_neg, List.getElem?_cons_zero, List.getElem?_cons_succ, iC, bC, hi2, cn, hwi, hc])
       | ((with_reducible first | refine hother _ _ rfl ?_); simp only [inBlockA, thenA, noGotoA, Nat.reduceEqDiff, if_false, if_true, ↓reduceIte])
       | (with_reducible refine And.intro (by omega) ?_)
       | fail)
      refine next _ _ (()) (by omega) (by first | trivial | omega | assumption) (by simp [-List.reduceReplicate, keep, iC]) (by simp [-List.reduceReplicate, iC])
    · rw [if_neg hle2] at hH
      subst hH
      have cn : ¬ cmpN (hv a) (hv b / 2 ^ i) ≤ 0 := fun h => hle2 (cg.1 h)
      generalize cmpN (hv a) (hv b / 2 ^ i) = cc at *
      repeat' (first 
       | (with_reducible first | refine awp_scope ?_ | refine awp_seq ?_ | refine awp_block ?_)
       | ((with_reducible first | refine awp_label ?_ | refine awp_skip ?_); try simp only [thenA, inBlockA, noGotoA])
       | (with_reducible refine awp_exit ?_; simp only [thenA, inBlockA, noGotoA, if_true, Nat.reduceEqDiff, if_false, ↓reduceIte])
       | (with_reducible refine awp_ret ?_; (try simp only [thenA, inBlockA, noGotoA]); (try simp [-List.reduceReplicate, Nat.add_one_le_iff, -getElem?_pos, -getElem?_neg, List.getElem?_cons_zero, List.getElem?_cons_succ, iC, bC, hi2, cn, hwn]))
       | ((with_reducible first | refine awp_reg 26 hX [2, 3, 4, 5, 6, 7, 21] ?_ | change postOf _ _ _ _ _); simp [-List.reduceReplicate, Nat.add_one_le_iff, -getElem?_pos, -getElem?_neg, List.getElem?_cons_zero, List.getElem?_cons_succ, iC, bC, hi2, cn, hwn])
       | ((first | (refine (s1 _).det ?_) | (refine (c1 _).det ?_)); try simp [-List.reduceReplicate, Nat.add_one_le_iff, -getElem?_pos, -getElem?_neg, List.getElem?_cons_zero, List.getElem?_cons_succ, iC, bC, hi2, cn, hwn])
       | (with_reducible refine awp_if_b rfl (fun hc => ?_) (fun hc => ?_) <;> (try simp [-getElem?_pos, -getElem?_neg] at hc) <;> (try (exfalso; omega)))
       | ((with_reducible first | refine GuardK_b (fun hc => ?_) (fun hc => ?_)) <;> (try simp only [Bool.not_eq_true', Bool.not_eq_false', decide_eq_true_eq, decide_eq_false_iff_not] at hc) <;> (first | (exfalso; omega) | skip) <;> simp [-List.reduceReplicate, Nat.add_one_le_iff, -getElem?_pos, -getElem?_neg, List.getElem?_cons_zero, List.getElem?_cons_succ, iC, bC, hi2, cn, hwn, hc])
       | ((with_reducible first | refine hother _ _ rfl ?_); simp only [inBlockA, thenA, noGotoA, Nat.reduceEqDiff, if_false, if_true, ↓reduceIte])
       | (with_reducible refine And.intro (by omega) ?_)
       | fail)
  · have hj : i = 256 := by omega
    subst hj
    rw [Nat.sub_self, hend] at hH
    subst hH
    have w255 : IntKind.i64.wrap 255 = 255 := rfl
    repeat' (first 
     | (with_reducible first | refine awp_scope ?_ | refine awp_seq ?_ | refine awp_block ?_)
     | ((with_reducible first | refine awp_label ?_ | refine awp_skip ?_); try simp only [thenA, inBlockA, noGotoA])
     | (with_reducible refine awp_exit ?_; simp only [thenA, inBlockA, noGotoA, if_true, Nat.reduceEqDiff, if_false, ↓reduceIte])
     | (with_reducible refine awp_ret ?_; (try simp only [thenA, inBlockA, noGotoA]); (try simp [-List.reduceReplicate, Nat.add_one_le_iff, -getElem?_pos, -getElem?_neg, List.getElem?_cons_zero, List.getElem?_cons_succ, iC, bC, w255]))
     | ((with_reducible first | refine awp_reg 26 hX [2, 3, 4, 5, 6, 7, 21] ?_ | change postOf _ _ _ _ _); simp [-List.reduceReplicate, Nat.add_one_le_iff, -getElem?_pos, -getElem?_neg, List.getElem?_cons_zero, List.getElem?_cons_succ, iC, bC, w255])
     | (with_reducible refine awp_if_b rfl (fun hc => ?_) (fun hc => ?_) <;> (try simp [-getElem?_pos, -getElem?_neg] at hc) <;> (try (exfalso; omega)))
     | ((with_reducible first | refine GuardK_b (fun hc => ?_) (fun hc => ?_)) <;> (try simp only [Bool.not_eq_true', Bool.not_eq_false', decide_eq_true_eq, decide_eq_false_iff_not] at hc) <;> (first | (exfalso; omega) | skip) <;> simp [-List.reduceReplicate, Nat.add_one_le_iff, -getElem?_pos, -getElem?_neg, List.getElem?_cons_zero, List.getElem?_cons_succ, iC, bC, w255, hc])
     | ((with_reducible first | refine hother _ _ rfl ?_); simp only [inBlockA, thenA, noGotoA, Nat.reduceEqDiff, if_false, if_true, ↓reduceIte])
     | (with_reducible refine And.intro (by omega) ?_)
     | fail)
end Go.Av

set_option exponentiation.threshold 1000
set_option linter.unusedVariables false
set_option linter.unusedSimpArgs false
set_option maxRecDepth 100000
set_option maxHeartbeats 4000000
namespace Go.Av
open Go Go.Proofs Go.Proofs.Ytofomnllcmgfeaa Go.RowKit
theorem join_one' (a : ByteArray) : joinS [a] ⟨#[]⟩ = a.data.toList := by simp [joinS, Lib.join, List.intercalate]
theorem text_den (t : UInt8) (xs : List ByteArray) (n : Nat) (full : Bool) (hn : xs.length = n) (hN : n ≤ 1000000) (hl : (joinS xs ⟨#[]⟩).length ≤ 140737488355328) :
    DenV Try.prog 118 [.c (.v (.int .u8 (t.toNat : Int))), .c (.sl (xs.map fun s => .v (.string s)) n full)] (.c (.v (.string (bsS (t :: joinS xs ⟨#[]⟩))))) := by
  refine Den.frame rfl rfl ?_
  refine den_of Try.func118 rfl rfl (by simp [Try.ntmps118]) (fun X hX hO => ?_)
  rw [Try.ntmps118] at hX
  simp only [Try.results118]
  have h1 : (⟨#[t]⟩ : ByteArray) = bsS [t] := rfl
  have h2 := bs_append [t] (joinS xs ⟨#[]⟩)
  have h3 : 1 + (joinS xs ⟨#[]⟩).length ≤ 9223372036854775807 := by omega
  have h4 : UInt8.ofNat t.toNat = t := by simp
  repeat' (first 
   | (with_reducible first | refine awp_scope ?_ | refine awp_seq ?_ | refine awp_block ?_)
   | ((with_reducible first | refine awp_label ?_ | refine awp_skip ?_); try simp only [thenA, inBlockA, noGotoA])
   | (with_reducible refine awp_exit ?_; simp only [thenA, inBlockA, noGotoA, if_true, Nat.reduceEqDiff, if_false, ↓reduceIte])
   | (with_reducible refine awp_ret ?_; (try simp only [thenA, inBlockA, noGotoA]); (try simp [-List.reduceReplicate, Nat.add_one_le_iff, -getElem?_pos, -getElem?_neg, List.getElem?_cons_zero, List.getElem?_cons_succ, h1, bs_append, bs_size, h3, h4]))
   | ((with_reducible first | refine awp_reg 11 hX [0, 1, 4] ?_ | refine awp_drw 11 hX [0, 1, 4] Tab.mixed (by kernel_rfl) ?_ | refine DEv_cut _ _ _ _ _ _ _ _ _ _ _ _ (by kernel_rfl) ?_ | change postOf _ _ _ _ _); simp [-List.reduceReplicate, Nat.add_one_le_iff, -getElem?_pos, -getElem?_neg, List.getElem?_cons_zero, List.getElem?_cons_succ, h1, bs_append, bs_size, h3, h4])
   | ((first | ((with_reducible refine Den.at_ (f := 127) ?_); refine (join_den xs ⟨#[]⟩ n full hn hN hl _).det ?_) | ((with_reducible refine drawn_at (f := 127) ?_); refine ⟨_, _, join_den xs ⟨#[]⟩ n full hn hN hl _, fun _ => rfl, ?_⟩)); try simp [-List.reduceReplicate, Nat.add_one_le_iff, -getElem?_pos, -getElem?_neg, List.getElem?_cons_zero, List.getElem?_cons_succ, h1, bs_append, bs_size, h3, h4])
   | (with_reducible refine awp_if_b rfl (fun hc => ?_) (fun hc => ?_) <;> (try simp [-getElem?_pos, -getElem?_neg] at hc) <;> (try (exfalso; omega)))
   | ((with_reducible first | refine GuardK_b (fun hc => ?_) (fun hc => ?_) | refine DGuard_b _ _ _ _ _ _ _ _ _ _ (fun hc => ?_) (fun hc => ?_)) <;> (try simp only [Bool.not_eq_true', Bool.not_eq_false', decide_eq_true_eq, decide_eq_false_iff_not] at hc) <;> (first | (exfalso; omega) | skip) <;> simp [-List.reduceReplicate, Nat.add_one_le_iff, -getElem?_pos, -getElem?_neg, List.getElem?_cons_zero, List.getElem?_cons_succ, h1, bs_append, bs_size, h3, h4, hc])
   | (with_reducible refine And.intro (by omega) ?_)
   | fail)
def leafT (s : ByteArray) : List UInt8 := 0 :: s.data.toList
def headT (s : ByteArray) : List UInt8 := 3 :: s.data.toList
def nodeT (a b : List UInt8) : List UInt8 := 1 :: (a ++ b)
def rootT (n : Nat) (a : List UInt8) : List UInt8 := 2 :: (putN n 8 ++ a)
theorem headerText_den (s : ByteArray) (hs : s.size ≤ 140737488355328) : DenV Try.prog 104 [.c (.v (.string s))] (.c (.v (.string (bsS (headT s))))) := by
  refine Den.frame rfl rfl ?_
  refine den_of Try.func104 rfl rfl (by simp [Try.ntmps104]) (fun X hX hO => ?_)
  rw [Try.ntmps104] at hX
  simp only [Try.results104]
  have h := text_den 3 [s] 1 true rfl (by omega) (by rw [join_one', ← size_list]; exact hs)
  rw [join_one'] at h
  repeat' (first 
   | (with_reducible first | refine awp_scope ?_ | refine awp_seq ?_ | refine awp_block ?_)
   | ((with_reducible first | refine awp_label ?_ | refine awp_skip ?_); try simp only [thenA, inBlockA, noGotoA])
   | (with_reducible refine awp_exit ?_; simp only [thenA, inBlockA, noGotoA, if_true, Nat.reduceEqDiff, if_false, ↓reduceIte])
   | (with_reducible refine awp_ret ?_; (try simp only [thenA, inBlockA, noGotoA]); (try simp [-List.reduceReplicate, Nat.add_one_le_iff, -getElem?_pos, -getElem?_neg, List.getElem?_cons_zero, List.getElem?_cons_succ, headT]))
   | ((with_reducible first | refine awp_reg 6 hX [0, 2] ?_ | change postOf _ _ _ _ _); simp [-List.reduceReplicate, Nat.add_one_le_iff, -getElem?_pos, -getElem?_neg, List.getElem?_cons_zero, List.getElem?_cons_succ, headT])
   | ((first | (refine (h _).det ?_)); try simp [-List.reduceReplicate, Nat.add_one_le_iff, -getElem?_pos, -getElem?_neg, List.getElem?_cons_zero, List.getElem?_cons_succ, headT])
   | (with_reducible refine awp_if_b rfl (fun hc => ?_) (fun hc => ?_) <;> (try simp [-getElem?_pos, -getElem?_neg] at hc) <;> (try (exfalso; omega)))
   | ((with_reducible first | refine GuardK_b (fun hc => ?_) (fun hc => ?_)) <;> (try simp only [Bool.not_eq_true', Bool.not_eq_false', decide_eq_true_eq, decide_eq_false_iff_not] at hc) <;> (first | (exfalso; omega) | skip) <;> simp [-List.reduceReplicate, Nat.add_one_le_iff, -getElem?_pos, -getElem?_neg, List.getElem?_cons_zero, List.getElem?_cons_succ, headT, hc])
   | (with_reducible refine And.intro (by omega) ?_)
   | fail)
theorem bs_cons (t : UInt8) (s : ByteArray) : bsS [t] ++ s = bsS (t :: s.data.toList) := by
  rw [← bs_data s, bs_append]; rfl
theorem headerText03_den (s : ByteArray) (hs : s.size ≤ 140737488355328) : DenV Try.prog 97 [.c (.v (.string s))] (.c (.v (.string (bsS (headT s))))) := by
  refine Den.frame rfl rfl ?_
  refine den_of Try.func97 rfl rfl (by simp [Try.ntmps97]) (fun X hX hO => ?_)
  rw [Try.ntmps97] at hX
  simp only [Try.results97]
  have z : bsS [UInt8.ofNat (3 % 256 : Int).toNat] = bsS [3] := rfl
  have h := bs_cons 3 s
  have h1 : 1 + s.size ≤ 9223372036854775807 := by omega
  repeat' (first 
   | (with_reducible first | refine awp_scope ?_ | refine awp_seq ?_ | refine awp_block ?_)
   | ((with_reducible first | refine awp_label ?_ | refine awp_skip ?_); try simp only [thenA, inBlockA, noGotoA])
   | (with_reducible refine awp_exit ?_; simp only [thenA, inBlockA, noGotoA, if_true, Nat.reduceEqDiff, if_false, ↓reduceIte])
   | (with_reducible refine awp_ret ?_; (try simp only [thenA, inBlockA, noGotoA]); (try simp [-List.reduceReplicate, Nat.add_one_le_iff, -getElem?_pos, -getElem?_neg, List.getElem?_cons_zero, List.getElem?_cons_succ, z, h, h1, bs_size, headT]))
   | ((with_reducible first | refine awp_reg 6 hX [0, 2] ?_ | change postOf _ _ _ _ _); simp [-List.reduceReplicate, Nat.add_one_le_iff, -getElem?_pos, -getElem?_neg, List.getElem?_cons_zero, List.getElem?_cons_succ, z, h, h1, bs_size, headT])
   | ((first | ((with_reducible refine Den.at_ (f := 111) ?_); refine (byte01_den 3 _).det ?_)); try simp [-List.reduceReplicate, Nat.add_one_le_iff, -getElem?_pos, -getElem?_neg, List.getElem?_cons_zero, List.getElem?_cons_succ, z, h, h1, bs_size, headT])
   | (with_reducible refine awp_if_b rfl (fun hc => ?_) (fun hc => ?_) <;> (try simp [-getElem?_pos, -getElem?_neg] at hc) <;> (try (exfalso; omega)))
   | ((with_reducible first | refine GuardK_b (fun hc => ?_) (fun hc => ?_)) <;> (try simp only [Bool.not_eq_true', Bool.not_eq_false', decide_eq_true_eq, decide_eq_false_iff_not] at hc) <;> (first | (exfalso; omega) | skip) <;> simp [-List.reduceReplicate, Nat.add_one_le_iff, -getElem?_pos, -getElem?_neg, List.getElem?_cons_zero, List.getElem?_cons_succ, z, h, h1, bs_size, headT, hc])
   | (with_reducible refine And.intro (by omega) ?_)
   | fail)
theorem raw_den' (l : List UInt8) (hl : l.length = 32) : DenV Try.prog 112 [hashM l] (.c (.v (.string (bsS l)))) := raw_den l hl
end Go.Av

set_option exponentiation.threshold 1000
set_option linter.unusedVariables false
set_option linter.unusedSimpArgs false
set_option maxRecDepth 100000
set_option maxHeartbeats 4000000
namespace Go.Av
open Go Go.Proofs Go.Proofs.Ytofomnllcmgfeaa Go.RowKit
/-! ### sha: words -/
abbrev W := BitVec 32
def rotr (x : W) (n : Nat) : W := (x >>> n) ||| (x <<< (32 - n))
theorem rot_den (x : W) (n : Nat) (hn : n < 32) : DenV Try.prog 131 [.c (wC x), .c (iC n)] (.c (wC (rotr x n))) := by
  refine Den.frame rfl rfl ?_
  refine den_of Try.func131 rfl rfl (by simp [Try.ntmps131]) (fun X hX hO => ?_)
  rw [Try.ntmps131] at hX
  simp only [Try.results131]
  have h1 := wrapU64 (n : Int) (by omega)
  have h2 := andN .u64 n 31 (by show n < 2 ^ 64; omega) (by decide) (fun h => by simp [IntKind.signed] at h)
  have h3 : n &&& 31 = n := by
    have := Nat.and_two_pow_sub_one_eq_mod n 5
    simp at this
    rw [this]
    omega
  rw [h3] at h2
  have h4 : IntKind.u64.wrap (32 - (n : Int)) = ((32 - n : Nat) : Int) := (wrapU64 _ (by omega)).trans (by omega)
  have h5 : min n 32 = n := by omega
  have h6 : min (32 - n) 32 = 32 - n := by omega
  have h10 : ¬ ((32 - n : Nat) : Int) < 0 := by omega
  have h11 : ¬ (n : Int) < 0 := by omega
  have hr : rotr x n = (x >>> n) ||| (x <<< (32 - n)) := rfl
  generalize hk : 32 - n = k at *
  have h2' : andI IntKind.u64 (n : Int) 31 = (n : Int) := h2
  repeat' (first 
   | (with_reducible first | refine awp_scope ?_ | refine awp_seq ?_ | refine awp_block ?_)
   | ((with_reducible first | refine awp_label ?_ | refine awp_skip ?_); try simp only [thenA, inBlockA, noGotoA])
   | (with_reducible refine awp_exit ?_; simp only [thenA, inBlockA, noGotoA, if_true, Nat.reduceEqDiff, if_false, ↓reduceIte])
   | (with_reducible refine awp_ret ?_; (try simp only [thenA, inBlockA, noGotoA]); (try simp [-List.reduceReplicate, Nat.add_one_le_iff, -getElem?_pos, -getElem?_neg, List.getElem?_cons_zero, List.getElem?_cons_succ, wC, iC, h1, h2', h4, h5, h6, wI_shr, wI_shr', wI_shl, wI_or, h10, h11, IntKind.bits, hr]))
   | ((with_reducible first | refine awp_reg 17 hX [0, 1, 4, 5] ?_ | change postOf _ _ _ _ _); simp [-List.reduceReplicate, Nat.add_one_le_iff, -getElem?_pos, -getElem?_neg, List.getElem?_cons_zero, List.getElem?_cons_succ, wC, iC, h1, h2', h4, h5, h6, wI_shr, wI_shr', wI_shl, wI_or, h10, h11, IntKind.bits, hr])
   | (with_reducible refine awp_if_b rfl (fun hc => ?_) (fun hc => ?_) <;> (try simp [-getElem?_pos, -getElem?_neg] at hc) <;> (try (exfalso; omega)))
   | ((with_reducible first | refine GuardK_b (fun hc => ?_) (fun hc => ?_)) <;> (try simp only [Bool.not_eq_true', Bool.not_eq_false', decide_eq_true_eq, decide_eq_false_iff_not] at hc) <;> (first | (exfalso; omega) | skip) <;> simp [-List.reduceReplicate, Nat.add_one_le_iff, -getElem?_pos, -getElem?_neg, List.getElem?_cons_zero, List.getElem?_cons_succ, wC, iC, h1, h2', h4, h5, h6, wI_shr, wI_shr', wI_shl, wI_or, h10, h11, IntKind.bits, hr, hc])
   | (with_reducible refine And.intro (by omega) ?_)
   | fail)
theorem rotr_add (x : W) (n : Nat) (h0 : 0 < n) (h : n < 32) : x >>> n + x <<< (32 - n) = rotr x n := by
  unfold rotr
  refine BitVec.add_eq_or_of_and_eq_zero _ _ ?_
  apply BitVec.eq_of_getLsbD_eq
  intro i hi
  simp
  intro h1 h2
  have := BitVec.lt_of_getLsbD h1
  omega
theorem turn_den (x : W) (n : Nat) (h0 : 0 < n) (hn : n < 32) : DenV Try.prog 121 [.c (wC x), .c (.v (.int .u64 (n : Int)))] (.c (wC (rotr x n))) := by
  refine Den.frame rfl rfl ?_
  refine den_of Try.func121 rfl rfl (by simp [Try.ntmps121]) (fun X hX hO => ?_)
  rw [Try.ntmps121] at hX
  simp only [Try.results121]
  have h4 : IntKind.u64.wrap (32 - (n : Int)) = ((32 - n : Nat) : Int) := (wrapU64 _ (by omega)).trans (by omega)
  have h5 : min n 32 = n := by omega
  have h6 : min (32 - n) 32 = 32 - n := by omega
  have h9 := rotr_add x n h0 hn
  have h10 : ¬ ((32 - n : Nat) : Int) < 0 := by omega
  have h11 : ¬ (n : Int) < 0 := by omega
  generalize hk : 32 - n = k at *
  repeat' (first 
   | (with_reducible first | refine awp_scope ?_ | refine awp_seq ?_ | refine awp_block ?_)
   | ((with_reducible first | refine awp_label ?_ | refine awp_skip ?_); try simp only [thenA, inBlockA, noGotoA])
   | (with_reducible refine awp_exit ?_; simp only [thenA, inBlockA, noGotoA, if_true, Nat.reduceEqDiff, if_false, ↓reduceIte])
   | (with_reducible refine awp_ret ?_; (try simp only [thenA, inBlockA, noGotoA]); (try simp [-List.reduceReplicate, Nat.add_one_le_iff, -getElem?_pos, -getElem?_neg, List.getElem?_cons_zero, List.getElem?_cons_succ, wC, h4, h5, h6, wI_shr, wI_shr', wI_shl, wI_add, h9, h10, h11, IntKind.bits]))
   | ((with_reducible first | refine awp_reg 13 hX [0, 1, 4] ?_ | change postOf _ _ _ _ _); simp [-List.reduceReplicate, Nat.add_one_le_iff, -getElem?_pos, -getElem?_neg, List.getElem?_cons_zero, List.getElem?_cons_succ, wC, h4, h5, h6, wI_shr, wI_shr', wI_shl, wI_add, h9, h10, h11, IntKind.bits])
   | (with_reducible refine awp_if_b rfl (fun hc => ?_) (fun hc => ?_) <;> (try simp [-getElem?_pos, -getElem?_neg] at hc) <;> (try (exfalso; omega)))
   | ((with_reducible first | refine GuardK_b (fun hc => ?_) (fun hc => ?_)) <;> (try simp only [Bool.not_eq_true', Bool.not_eq_false', decide_eq_true_eq, decide_eq_false_iff_not] at hc) <;> (first | (exfalso; omega) | skip) <;> simp [-List.reduceReplicate, Nat.add_one_le_iff, -getElem?_pos, -getElem?_neg, List.getElem?_cons_zero, List.getElem?_cons_succ, wC, h4, h5, h6, wI_shr, wI_shr', wI_shl, wI_add, h9, h10, h11, IntKind.bits, hc])
   | (with_reducible refine And.intro (by omega) ?_)
   | fail)
def g0 (x : W) : W := rotr x 7 ^^^ rotr x 18 ^^^ (x >>> 3)
def g1 (x : W) : W := rotr x 17 ^^^ rotr x 19 ^^^ (x >>> 10)
def spStep (b : ByteArray) (l : List W) : W :=
  if l.length < 16 then BitVec.ofNat 32 (takeN b (4 * l.length : Nat) 4) else l.getD (l.length - 16) 0 + g0 (l.getD (l.length - 15) 0) + l.getD (l.length - 7) 0 + g1 (l.getD (l.length - 2) 0)
def spTo (b : ByteArray) : Nat → List W
  | 0 => []
  | n + 1 => spTo b n ++ [spStep b (spTo b n)]
theorem spTo_len (b : ByteArray) (n : Nat) : (spTo b n).length = n := by
  induction n with
  | zero => rfl
  | succ n ih => rw [spTo, List.length_append, ih]; rfl
def spread (b : ByteArray) : List W := spTo b 64
/-- The row as it is filled. -/
def spRow (b : ByteArray) (i : Nat) : List C := ((spTo b i) ++ List.replicate (64 - i) 0).map wC
theorem spRow_len (b : ByteArray) (i : Nat) (h : i ≤ 64) : (spRow b i).length = 64 := by simp [spRow, spTo_len]; omega
theorem spRow_get (b : ByteArray) (i j : Nat) (h : j < i) : (spRow b i)[j]? = some (wC ((spTo b i).getD j 0)) := by
  have hl := spTo_len b i
  unfold spRow
  rw [List.getElem?_map, List.getElem?_append_left (by omega), List.getD_eq_getElem?_getD, List.getElem?_eq_getElem (by omega)]
  rfl
theorem spRow_set (b : ByteArray) (i : Nat) (h : i < 64) : (spRow b i).set i (wC (spStep b (spTo b i))) = spRow b (i + 1) := by
  have hl := spTo_len b i
  unfold spRow
  rw [← List.map_set, show 64 - i = (64 - (i + 1)) + 1 by omega, List.replicate_succ, List.set_append_right _ _ (by omega), hl, show i - i = 0 by omega, spTo]
  simp
theorem spRow_zero (b : ByteArray) : List.replicate 64 (C.v (.int .u32 0)) = spRow b 0 := by
  unfold spRow
  rw [spTo, List.nil_append, List.map_replicate]
  rfl
theorem fd8 (x : W) : (wI x).fdiv 8 = wI (x >>> 3) := wI_shr x 3
theorem fd1024 (x : W) : (wI x).fdiv 1024 = wI (x >>> 10) := wI_shr x 10
theorem ofNat32 (n : Nat) (h : n < 4294967296) : ((BitVec.ofNat 32 n).toNat : Int) = (n : Int) := by rw [BitVec.toNat_ofNat]; omega
theorem take4_lt (b : ByteArray) (a : Int) : takeN b a 4 < 4294967296 := by have := takeN_lt b a 4; omega
theorem spread_den (b : ByteArray) (hb : b.size ≤ 9223372036854775807) : DenV Try.prog 129 [.c (.v (.string b))] (.agg (up ((spread b).map wC))) := by
  refine Den.frame rfl (by simp [ltB]) ?_
  refine den_of Try.func129 rfl rfl (by simp [Try.ntmps129]) (fun X hX hO => ?_)
  rw [Try.ntmps129] at hX
  simp only [Try.results129]
  repeat' (first 
   | (with_reducible first | refine awp_scope ?_ | refine awp_seq ?_ | refine awp_block ?_)
   | ((with_reducible first | refine awp_label ?_ | refine awp_skip ?_); try simp only [thenA, inBlockA, noGotoA])
   | (with_reducible refine awp_exit ?_; simp only [thenA, inBlockA, noGotoA, if_true, Nat.reduceEqDiff, if_false, ↓reduceIte])
   | (with_reducible refine awp_ret ?_; (try simp only [thenA, inBlockA, noGotoA]); (try simp [-List.reduceReplicate, Nat.add_one_le_iff, -getElem?_pos, -getElem?_neg, List.getElem?_cons_zero, List.getElem?_cons_succ, spRow_zero b]))
   | ((with_reducible first | refine awp_reg 61 hX [0, 2, 3, 4, 5, 6, 7, 8, 9, 10, 13] ?_ | refine awp_drw 61 hX [0, 2, 3, 4, 5, 6, 7, 8, 9, 10, 13] Tab.mixed (by kernel_rfl) ?_ | refine DEv_cut _ _ _ _ _ _ _ _ _ _ _ _ (by kernel_rfl) ?_ | change postOf _ _ _ _ _); simp [-List.reduceReplicate, Nat.add_one_le_iff, -getElem?_pos, -getElem?_neg, List.getElem?_cons_zero, List.getElem?_cons_succ, spRow_zero b])
   | (with_reducible refine awp_if_b rfl (fun hc => ?_) (fun hc => ?_) <;> (try simp [-getElem?_pos, -getElem?_neg] at hc) <;> (try (exfalso; omega)))
   | ((with_reducible first | refine GuardK_b (fun hc => ?_) (fun hc => ?_) | refine DGuard_b _ _ _ _ _ _ _ _ _ _ (fun hc => ?_) (fun hc => ?_)) <;> (try simp only [Bool.not_eq_true', Bool.not_eq_false', decide_eq_true_eq, decide_eq_false_iff_not] at hc) <;> (first | (exfalso; omega) | skip) <;> simp [-List.reduceReplicate, Nat.add_one_le_iff, -getElem?_pos, -getElem?_neg, List.getElem?_cons_zero, List.getElem?_cons_succ, spRow_zero b, hc])
   | ((with_reducible first | refine hother _ _ rfl ?_); simp only [inBlockA, thenA, noGotoA, Nat.reduceEqDiff, if_false, if_true, ↓reduceIte])
   | (with_reducible refine And.intro (by omega) ?_)
   | fail)
  refine awp_forU [0, 2, 3, 9] (fun i (_u : Unit) => [(9, .c (iC i))]) (fun i (_u : Unit) => [⟨164, 1, false, 0, up (List.replicate 64 (.v (.int .u32 0))), none⟩, ⟨164, 1, false, 0, up (spRow b i), none⟩]) (fun i (_u : Unit) => True) (64) (()) (by first | trivial | (simp; done) | omega | (intros; simp at *; done)) (by simp [-List.reduceReplicate, keep, iC, spRow_zero b]) (by simp [-List.reduceReplicate, iC, spRow_zero b]) ?_
  rintro i _u Q1 hi hH next hother
  conv => arg 5; arg 1; simp only [List.cons_append, List.nil_append, keep, get, Nat.reduceEqDiff, if_true, if_false, ↓reduceIte]
  have hwi := wrap_in ((i : Int) + 1) (by omega)
  have hlen := spRow_len b i hi
  by_cases hlt : i < 64
  · have hset := spRow_set b i hlt
    have hl := spTo_len b i
    by_cases h16 : i < 16
    · have hw4 := wrap_in (4 * (i : Int)) (by omega)
      have hst : spStep b (spTo b i) = BitVec.ofNat 32 (takeN b (4 * (i : Int)) 4) := by unfold spStep; rw [hl, if_pos h16, Int.natCast_mul]; rfl
      have hx : wC (spStep b (spTo b i)) = .v (.int .u32 (takeN b (4 * (i : Int)) 4 : Int)) := by unfold wC wI; rw [hst, ofNat32 _ (take4_lt _ _)]
      rw [hx] at hset
      generalize spRow b i = r0 at *
      repeat' (first 
       | (with_reducible first | refine awp_scope ?_ | refine awp_seq ?_ | refine awp_block ?_)
       | ((with_reducible first | refine awp_label ?_ | refine awp_skip ?_); try simp only [thenA, inBlockA, noGotoA])
       | (with_reducible refine awp_exit ?_; simp only [thenA, inBlockA, noGotoA, if_true, Nat.reduceEqDiff, if_false, ↓reduceIte])
       | (with_reducible refine awp_ret ?_; (try simp only [thenA, inBlockA, noGotoA]); (try simp [-List.reduceReplicate, Nat.add_one_le_iff, -getElem?_pos, -getElem?_neg, List.getElem?_cons_zero, List.getElem?_cons_succ, iC, hlt, h16, hwi, hw4, u32C, hlen]))
       | ((with_reducible first | refine awp_reg 61 hX [0, 2, 3, 4, 5, 6, 7, 8, 9, 10, 13] ?_ | refine awp_drw 61 hX [0, 2, 3, 4, 5, 6, 7, 8, 9, 10, 13] Tab.mixed (by kernel_rfl) ?_ | refine DEv_cut _ _ _ _ _ _ _ _ _ _ _ _ (by kernel_rfl) ?_ | change postOf _ _ _ _ _); simp [-List.reduceReplicate, Nat.add_one_le_iff, -getElem?_pos, -getElem?_neg, List.getElem?_cons_zero, List.getElem?_cons_succ, iC, hlt, h16, hwi, hw4, u32C, hlen])
       | ((first | ((with_reducible refine Den.at_ (f := 136) ?_); refine (take32_den b (4 * (i : Int)) (by omega) hb _).det ?_) | ((with_reducible refine drawn_at (f := 136) ?_); refine ⟨_, _, take32_den b (4 * (i : Int)) (by omega) hb _, fun _ => rfl, ?_⟩)); try simp [-List.reduceReplicate, Nat.add_one_le_iff, -getElem?_pos, -getElem?_neg, List.getElem?_cons_zero, List.getElem?_cons_succ, iC, hlt, h16, hwi, hw4, u32C, hlen])
       | (with_reducible refine awp_if_b rfl (fun hc => ?_) (fun hc => ?_) <;> (try simp [-getElem?_pos, -getElem?_neg] at hc) <;> (try (exfalso; omega)))
       | ((with_reducible first | refine GuardK_b (fun hc => ?_) (fun hc => ?_) | refine DGuard_b _ _ _ _ _ _ _ _ _ _ (fun hc => ?_) (fun hc => ?_)) <;> (try simp only [Bool.not_eq_true', Bool.not_eq_false', decide_eq_true_eq, decide_eq_false_iff_not] at hc) <;> (first | (exfalso; omega) | skip) <;> simp [-List.reduceReplicate, Nat.add_one_le_iff, -getElem?_pos, -getElem?_neg, List.getElem?_cons_zero, List.getElem?_cons_succ, iC, hlt, h16, hwi, hw4, u32C, hlen, hc])
       | ((with_reducible first | refine hother _ _ rfl ?_); simp only [inBlockA, thenA, noGotoA, Nat.reduceEqDiff, if_false, if_true, ↓reduceIte])
       | (with_reducible refine And.intro (by omega) ?_)
       | fail)
      refine next _ _ (()) (by omega) (by first | trivial | omega | assumption) (by simp [-List.reduceReplicate, keep, iC, ← hset]) (by simp [-List.reduceReplicate, iC, ← hset])
    · have i1 := wrap_in ((i : Int) - 15) (by omega)
      have i2 := wrap_in ((i : Int) - 2) (by omega)
      have i3 := wrap_in ((i : Int) - 16) (by omega)
      have i4 := wrap_in ((i : Int) - 7) (by omega)
      have j1 : ((i : Int) - 15).toNat = i - 15 := by omega
      have j2 : ((i : Int) - 2).toNat = i - 2 := by omega
      have j3 : ((i : Int) - 16).toNat = i - 16 := by omega
      have j4 : ((i : Int) - 7).toNat = i - 7 := by omega
      have k1 : 15 ≤ (i : Int) := by omega
      have k2 : 2 ≤ (i : Int) := by omega
      have k3 : 16 ≤ (i : Int) := by omega
      have k4 : 7 ≤ (i : Int) := by omega
      have m1 : (i : Int) - 15 < 64 := by omega
      have m2 : (i : Int) - 2 < 64 := by omega
      have m3 : (i : Int) - 16 < 64 := by omega
      have m4 : (i : Int) - 7 < 64 := by omega
      have n1 := spRow_get b i (i - 15) (by omega)
      have n2 := spRow_get b i (i - 2) (by omega)
      have n3 := spRow_get b i (i - 16) (by omega)
      have n4 := spRow_get b i (i - 7) (by omega)
      have hst : spStep b (spTo b i) = (spTo b i).getD (i - 16) 0 + g0 ((spTo b i).getD (i - 15) 0) + (spTo b i).getD (i - 7) 0 + g1 ((spTo b i).getD (i - 2) 0) := by unfold spStep; rw [hl, if_neg h16]
      rw [hst] at hset
      unfold g0 g1 at hset
      generalize (spTo b i).getD (i - 16) 0 = x16 at *
      generalize (spTo b i).getD (i - 15) 0 = x15 at *
      generalize (spTo b i).getD (i - 7) 0 = x7 at *
      generalize (spTo b i).getD (i - 2) 0 = x2 at *
      generalize spRow b i = r0 at *
      repeat' (first 
       | (with_reducible first | refine awp_scope ?_ | refine awp_seq ?_ | refine awp_block ?_)
       | ((with_reducible first | refine awp_label ?_ | refine awp_skip ?_); try simp only [thenA, inBlockA, noGotoA])
       | (with_reducible refine awp_exit ?_; simp only [thenA, inBlockA, noGotoA, if_true, Nat.reduceEqDiff, if_false, ↓reduceIte])
       | (with_reducible refine awp_ret ?_; (try simp only [thenA, inBlockA, noGotoA]); (try simp [-List.reduceReplicate, Nat.add_one_le_iff, -getElem?_pos, -getElem?_neg, List.getElem?_cons_zero, List.getElem?_cons_succ, iC, hlt, h16, hwi, i1, i2, i3, i4, j1, j2, j3, j4, k1, k2, k3, k4, m1, m2, m3, m4, n1, n2, n3, n4, hlen, wC, wI_shr, wI_shr', wI_xor, wI_add, fd8, fd1024, IntKind.bits]))
       | ((with_reducible first | refine awp_reg 61 hX [0, 2, 3, 4, 5, 6, 7, 8, 9, 10, 13] ?_ | refine awp_drw 61 hX [0, 2, 3, 4, 5, 6, 7, 8, 9, 10, 13] Tab.mixed (by kernel_rfl) ?_ | refine DEv_cut _ _ _ _ _ _ _ _ _ _ _ _ (by kernel_rfl) ?_ | change postOf _ _ _ _ _); simp [-List.reduceReplicate, Nat.add_one_le_iff, -getElem?_pos, -getElem?_neg, List.getElem?_cons_zero, List.getElem?_cons_succ, iC, hlt, h16, hwi, i1, i2, i3, i4, j1, j2, j3, j4, k1, k2, k3, k4, m1, m2, m3, m4, n1, n2, n3, n4, hlen, wC, wI_shr, wI_shr', wI_xor, wI_add, fd8, fd1024, IntKind.bits])
       | ((first | ((with_reducible refine Den.at_ (f := 131) ?_); refine (rot_den _ 7 (by omega) _).det ?_) | ((with_reducible refine drawn_at (f := 131) ?_); refine ⟨_, _, rot_den _ 7 (by omega) _, fun _ => rfl, ?_⟩) | ((with_reducible refine Den.at_ (f := 131) ?_); refine (rot_den _ 18 (by omega) _).det ?_) | ((with_reducible refine drawn_at (f := 131) ?_); refine ⟨_, _, rot_den _ 18 (by omega) _, fun _ => rfl, ?_⟩) | ((with_reducible refine Den.at_ (f := 131) ?_); refine (rot_den _ 17 (by omega) _).det ?_) | ((with_reducible refine drawn_at (f := 131) ?_); refine ⟨_, _, rot_den _ 17 (by omega) _, fun _ => rfl, ?_⟩) | ((with_reducible refine Den.at_ (f := 131) ?_); refine (rot_den _ 19 (by omega) _).det ?_) | ((with_reducible refine drawn_at (f := 131) ?_); refine ⟨_, _, rot_den _ 19 (by omega) _, fun _ => rfl, ?_⟩)); try simp [-List.reduceReplicate, Nat.add_one_le_iff, -getElem?_pos, -getElem?_neg, List.getElem?_cons_zero, List.getElem?_cons_succ, iC, hlt, h16, hwi, i1, i2, i3, i4, j1, j2, j3, j4, k1, k2, k3, k4, m1, m2, m3, m4, n1, n2, n3, n4, hlen, wC, wI_shr, wI_shr', wI_xor, wI_add, fd8, fd1024, IntKind.bits])
       | (with_reducible refine awp_if_b rfl (fun hc => ?_) (fun hc => ?_) <;> (try simp [-getElem?_pos, -getElem?_neg] at hc) <;> (try (exfalso; omega)))
       | ((with_reducible first | refine GuardK_b (fun hc => ?_) (fun hc => ?_) | refine DGuard_b _ _ _ _ _ _ _ _ _ _ (fun hc => ?_) (fun hc => ?_)) <;> (try simp only [Bool.not_eq_true', Bool.not_eq_false', decide_eq_true_eq, decide_eq_false_iff_not] at hc) <;> (first | (exfalso; omega) | skip) <;> simp [-List.reduceReplicate, Nat.add_one_le_iff, -getElem?_pos, -getElem?_neg, List.getElem?_cons_zero, List.getElem?_cons_succ, iC, hlt, h16, hwi, i1, i2, i3, i4, j1, j2, j3, j4, k1, k2, k3, k4, m1, m2, m3, m4, n1, n2, n3, n4, hlen, wC, wI_shr, wI_shr', wI_xor, wI_add, fd8, fd1024, IntKind.bits, hc])
       | ((with_reducible first | refine hother _ _ rfl ?_); simp only [inBlockA, thenA, noGotoA, Nat.reduceEqDiff, if_false, if_true, ↓reduceIte])
       | (with_reducible refine And.intro (by omega) ?_)
       | fail)
      refine next _ _ (()) (by omega) (by first | trivial | omega | assumption) (by simp [-List.reduceReplicate, keep, iC, ← hset, wC]) (by simp [-List.reduceReplicate, iC, ← hset, wC])
  · have h64 : i = 64 := by omega
    subst h64
    have hfin : spRow b 64 = (spread b).map wC := by unfold spRow spread; simp
    rw [hfin] at hlen
    have htk : ((spread b).map wC).take 64 = (spread b).map wC := List.take_of_length_le (by omega)
    rw [hfin]
    repeat' (first 
     | (with_reducible first | refine awp_scope ?_ | refine awp_seq ?_ | refine awp_block ?_)
     | ((with_reducible first | refine awp_label ?_ | refine awp_skip ?_); try simp only [thenA, inBlockA, noGotoA])
     | (with_reducible refine awp_exit ?_; simp only [thenA, inBlockA, noGotoA, if_true, Nat.reduceEqDiff, if_false, ↓reduceIte])
     | (with_reducible refine awp_ret ?_; (try simp only [thenA, inBlockA, noGotoA]); (try simp [-List.reduceReplicate, Nat.add_one_le_iff, -getElem?_pos, -getElem?_neg, List.getElem?_cons_zero, List.getElem?_cons_succ, iC, hlen, htk]))
     | ((with_reducible first | refine awp_reg 61 hX [0, 2, 3, 4, 5, 6, 7, 8, 9, 10, 13] ?_ | refine awp_drw 61 hX [0, 2, 3, 4, 5, 6, 7, 8, 9, 10, 13] Tab.mixed (by kernel_rfl) ?_ | refine DEv_cut _ _ _ _ _ _ _ _ _ _ _ _ (by kernel_rfl) ?_ | change postOf _ _ _ _ _); simp [-List.reduceReplicate, Nat.add_one_le_iff, -getElem?_pos, -getElem?_neg, List.getElem?_cons_zero, List.getElem?_cons_succ, iC, hlen, htk])
     | (with_reducible refine awp_if_b rfl (fun hc => ?_) (fun hc => ?_) <;> (try simp [-getElem?_pos, -getElem?_neg] at hc) <;> (try (exfalso; omega)))
     | ((with_reducible first | refine GuardK_b (fun hc => ?_) (fun hc => ?_) | refine DGuard_b _ _ _ _ _ _ _ _ _ _ (fun hc => ?_) (fun hc => ?_)) <;> (try simp only [Bool.not_eq_true', Bool.not_eq_false', decide_eq_true_eq, decide_eq_false_iff_not] at hc) <;> (first | (exfalso; omega) | skip) <;> simp [-List.reduceReplicate, Nat.add_one_le_iff, -getElem?_pos, -getElem?_neg, List.getElem?_cons_zero, List.getElem?_cons_succ, iC, hlen, htk, hc])
     | ((with_reducible first | refine hother _ _ rfl ?_); simp only [inBlockA, thenA, noGotoA, Nat.reduceEqDiff, if_false, if_true, ↓reduceIte])
     | (with_reducible refine And.intro (by omega) ?_)
     | fail)
theorem spread02_den (b : ByteArray) (hb : b.size ≤ 9223372036854775807) : DenV Try.prog 120 [.c (.v (.string b))] (.agg (up ((spread b).map wC))) := by
  refine Den.frame rfl (by simp [ltB]) ?_
  refine den_of Try.func120 rfl rfl (by simp [Try.ntmps120]) (fun X hX hO => ?_)
  rw [Try.ntmps120] at hX
  simp only [Try.results120]
  repeat' (first 
   | (with_reducible first | refine awp_scope ?_ | refine awp_seq ?_ | refine awp_block ?_)
   | ((with_reducible first | refine awp_label ?_ | refine awp_skip ?_); try simp only [thenA, inBlockA, noGotoA])
   | (with_reducible refine awp_exit ?_; simp only [thenA, inBlockA, noGotoA, if_true, Nat.reduceEqDiff, if_false, ↓reduceIte])
   | (with_reducible refine awp_ret ?_; (try simp only [thenA, inBlockA, noGotoA]); (try simp [-List.reduceReplicate, Nat.add_one_le_iff, -getElem?_pos, -getElem?_neg, List.getElem?_cons_zero, List.getElem?_cons_succ, spRow_zero b]))
   | ((with_reducible first | refine awp_reg 61 hX [0, 2, 3, 4, 5, 6, 7, 9, 20] ?_ | refine awp_drw 61 hX [0, 2, 3, 4, 5, 6, 7, 9, 20] Tab.mixed (by kernel_rfl) ?_ | refine DEv_cut _ _ _ _ _ _ _ _ _ _ _ _ (by kernel_rfl) ?_ | change postOf _ _ _ _ _); simp [-List.reduceReplicate, Nat.add_one_le_iff, -getElem?_pos, -getElem?_neg, List.getElem?_cons_zero, List.getElem?_cons_succ, spRow_zero b])
   | (with_reducible refine awp_if_b rfl (fun hc => ?_) (fun hc => ?_) <;> (try simp [-getElem?_pos, -getElem?_neg] at hc) <;> (try (exfalso; omega)))
   | ((with_reducible first | refine GuardK_b (fun hc => ?_) (fun hc => ?_) | refine DGuard_b _ _ _ _ _ _ _ _ _ _ (fun hc => ?_) (fun hc => ?_)) <;> (try simp only [Bool.not_eq_true', Bool.not_eq_false', decide_eq_true_eq, decide_eq_false_iff_not] at hc) <;> (first | (exfalso; omega) | skip) <;> simp [-List.reduceReplicate, Nat.add_one_le_iff, -getElem?_pos, -getElem?_neg, List.getElem?_cons_zero, List.getElem?_cons_succ, spRow_zero b, hc])
   | ((with_reducible first | refine hother _ _ rfl ?_); simp only [inBlockA, thenA, noGotoA, Nat.reduceEqDiff, if_false, if_true, ↓reduceIte])
   | (with_reducible refine And.intro (by omega) ?_)
   | fail)
  refine awp_forU [0, 2, 3, 4] (fun i (_u : Unit) => [(4, .c (iC i))]) (fun i (_u : Unit) => [⟨164, 1, false, 0, up (List.replicate 64 (.v (.int .u32 0))), none⟩, ⟨164, 1, false, 0, up (spRow b i), none⟩]) (fun i (_u : Unit) => True) (16) (()) (by first | trivial | (simp; done) | omega | (intros; simp at *; done)) (by simp [-List.reduceReplicate, keep, iC, spRow_zero b]) (by simp [-List.reduceReplicate, iC, spRow_zero b]) ?_
  rintro i _u Q1 hi hH next hother
  conv => arg 5; arg 1; simp only [List.cons_append, List.nil_append, keep, get, Nat.reduceEqDiff, if_true, if_false, ↓reduceIte]
  have hwi := wrap_in ((i : Int) + 1) (by omega)
  have hlen := spRow_len b i (by omega)
  by_cases hlt : i < 16
  · have hset := spRow_set b i (by omega)
    have hl := spTo_len b i
    have hw4 := wrap_in (4 * (i : Int)) (by omega)
    have hst : spStep b (spTo b i) = BitVec.ofNat 32 (takeN b (4 * (i : Int)) 4) := by unfold spStep; rw [hl, if_pos hlt, Int.natCast_mul]; rfl
    have ht4 := take4_lt b (4 * (i : Int))
    have hx : wC (spStep b (spTo b i)) = .v (.int .u32 (takeN b (4 * (i : Int)) 4 : Int)) := by unfold wC wI; rw [hst, ofNat32 _ ht4]
    have hm := wrapU32 (takeN b (4 * (i : Int)) 4 : Int) (by omega)
    have h64 : (i : Int) < 64 := by omega
    have h64' : i < 64 := by omega
    rw [hx] at hset
    generalize spRow b i = r0 at *
    repeat' (first 
     | (with_reducible first | refine awp_scope ?_ | refine awp_seq ?_ | refine awp_block ?_)
     | ((with_reducible first | refine awp_label ?_ | refine awp_skip ?_); try simp only [thenA, inBlockA, noGotoA])
     | (with_reducible refine awp_exit ?_; simp only [thenA, inBlockA, noGotoA, if_true, Nat.reduceEqDiff, if_false, ↓reduceIte])
     | (with_reducible refine awp_ret ?_; (try simp only [thenA, inBlockA, noGotoA]); (try simp [-List.reduceReplicate, Nat.add_one_le_iff, -getElem?_pos, -getElem?_neg, List.getElem?_cons_zero, List.getElem?_cons_succ, iC, hlt, h64, h64', hwi, hw4, u64C, hlen, hm]))
     | ((with_reducible first | refine awp_reg 61 hX [0, 2, 3, 4, 5, 6, 7, 9, 20] ?_ | refine awp_drw 61 hX [0, 2, 3, 4, 5, 6, 7, 9, 20] Tab.mixed (by kernel_rfl) ?_ | refine DEv_cut _ _ _ _ _ _ _ _ _ _ _ _ (by kernel_rfl) ?_ | change postOf _ _ _ _ _); simp [-List.reduceReplicate, Nat.add_one_le_iff, -getElem?_pos, -getElem?_neg, List.getElem?_cons_zero, List.getElem?_cons_succ, iC, hlt, h64, h64', hwi, hw4, u64C, hlen, hm])
     | ((first | ((with_reducible refine Den.at_ (f := 128) ?_); refine (take01_den b (4 * (i : Int)) 4 (by omega) hb (by omega) _).det ?_) | ((with_reducible refine drawn_at (f := 128) ?_); refine ⟨_, _, take01_den b (4 * (i : Int)) 4 (by omega) hb (by omega) _, fun _ => rfl, ?_⟩)); try simp [-List.reduceReplicate, Nat.add_one_le_iff, -getElem?_pos, -getElem?_neg, List.getElem?_cons_zero, List.getElem?_cons_succ, iC, hlt, h64, h64', hwi, hw4, u64C, hlen, hm])
     | (with_reducible refine awp_if_b rfl (fun hc => ?_) (fun hc => ?_) <;> (try simp [-getElem?_pos, -getElem?_neg] at hc) <;> (try (exfalso; omega)))
     | ((with_reducible first | refine GuardK_b (fun hc => ?_) (fun hc => ?_) | refine DGuard_b _ _ _ _ _ _ _ _ _ _ (fun hc => ?_) (fun hc => ?_)) <;> (try simp only [Bool.not_eq_true', Bool.not_eq_false', decide_eq_true_eq, decide_eq_false_iff_not] at hc) <;> (first | (exfalso; omega) | skip) <;> simp [-List.reduceReplicate, Nat.add_one_le_iff, -getElem?_pos, -getElem?_neg, List.getElem?_cons_zero, List.getElem?_cons_succ, iC, hlt, h64, h64', hwi, hw4, u64C, hlen, hm, hc])
     | ((with_reducible first | refine hother _ _ rfl ?_); simp only [inBlockA, thenA, noGotoA, Nat.reduceEqDiff, if_false, if_true, ↓reduceIte])
     | (with_reducible refine And.intro (by omega) ?_)
     | fail)
    refine next _ _ (()) (by omega) (by first | trivial | omega | assumption) (by simp [-List.reduceReplicate, keep, iC, ← hset]) (by simp [-List.reduceReplicate, iC, ← hset])
  · have h16 : i = 16 := by omega
    subst h16
    clear next hlen hwi
    repeat' (first 
     | (with_reducible first | refine awp_scope ?_ | refine awp_seq ?_ | refine awp_block ?_)
     | ((with_reducible first | refine awp_label ?_ | refine awp_skip ?_); try simp only [thenA, inBlockA, noGotoA])
     | (with_reducible refine awp_exit ?_; simp only [thenA, inBlockA, noGotoA, if_true, Nat.reduceEqDiff, if_false, ↓reduceIte])
     | (with_reducible refine awp_ret ?_; (try simp only [thenA, inBlockA, noGotoA]); (try simp [-List.reduceReplicate, Nat.add_one_le_iff, -getElem?_pos, -getElem?_neg, List.getElem?_cons_zero, List.getElem?_cons_succ, iC]))
     | ((with_reducible first | refine awp_reg 61 hX [0, 2, 3, 4, 5, 6, 7, 9, 20] ?_ | refine awp_drw 61 hX [0, 2, 3, 4, 5, 6, 7, 9, 20] Tab.mixed (by kernel_rfl) ?_ | refine DEv_cut _ _ _ _ _ _ _ _ _ _ _ _ (by kernel_rfl) ?_ | change postOf _ _ _ _ _); simp [-List.reduceReplicate, Nat.add_one_le_iff, -getElem?_pos, -getElem?_neg, List.getElem?_cons_zero, List.getElem?_cons_succ, iC])
     | (with_reducible refine awp_if_b rfl (fun hc => ?_) (fun hc => ?_) <;> (try simp [-getElem?_pos, -getElem?_neg] at hc) <;> (try (exfalso; omega)))
     | ((with_reducible first | refine GuardK_b (fun hc => ?_) (fun hc => ?_) | refine DGuard_b _ _ _ _ _ _ _ _ _ _ (fun hc => ?_) (fun hc => ?_)) <;> (try simp only [Bool.not_eq_true', Bool.not_eq_false', decide_eq_true_eq, decide_eq_false_iff_not] at hc) <;> (first | (exfalso; omega) | skip) <;> simp [-List.reduceReplicate, Nat.add_one_le_iff, -getElem?_pos, -getElem?_neg, List.getElem?_cons_zero, List.getElem?_cons_succ, iC, hc])
     | ((with_reducible first | refine hother _ _ rfl ?_); simp only [inBlockA, thenA, noGotoA, Nat.reduceEqDiff, if_false, if_true, ↓reduceIte])
     | (with_reducible refine And.intro (by omega) ?_)
     | fail)
    refine awp_forU [2, 3, 5] (fun i (_u : Unit) => [(5, .c (iC (16 + i : Nat)))]) (fun i (_u : Unit) => [⟨164, 1, false, 0, up (List.replicate 64 (.v (.int .u32 0))), none⟩, ⟨164, 1, false, 0, up (spRow b (16 + i)), none⟩]) (fun i (_u : Unit) => True) (48) (()) (by first | trivial | (simp; done) | omega | (intros; simp at *; done)) (by simp [-List.reduceReplicate, keep, iC]) (by simp [-List.reduceReplicate, iC]) ?_
    rintro i _u Q1 hi hH next hother
    conv => arg 5; arg 1; simp only [List.cons_append, List.nil_append, keep, get, Nat.reduceEqDiff, if_true, if_false, ↓reduceIte]
    have hwi := wrap_in ((16 + i : Nat) + 1 : Int) (by omega)
    have hlen := spRow_len b (16 + i) (by omega)
    by_cases hlt : i < 48
    · have hset := spRow_set b (16 + i) (by omega)
      have hl := spTo_len b (16 + i)
      have hst : spStep b (spTo b (16 + i)) = (spTo b (16 + i)).getD (16 + i - 16) 0 + g0 ((spTo b (16 + i)).getD (16 + i - 15) 0) + (spTo b (16 + i)).getD (16 + i - 7) 0 + g1 ((spTo b (16 + i)).getD (16 + i - 2) 0) := by unfold spStep; rw [hl, if_neg (by omega)]
      have hn : 16 + (i + 1) = 16 + i + 1 := by omega
      rw [hst] at hset
      rw [hn] at next
      have hn0 : 16 ≤ 16 + i := by omega
      have hn1 : 16 + i < 64 := by omega
      generalize 16 + i = q at *
      have i1 := wrap_in ((q : Int) - 15) (by omega)
      have i2 := wrap_in ((q : Int) - 2) (by omega)
      have i3 := wrap_in ((q : Int) - 16) (by omega)
      have i4 := wrap_in ((q : Int) - 7) (by omega)
      have j1 : ((q : Int) - 15).toNat = q - 15 := by omega
      have j2 : ((q : Int) - 2).toNat = q - 2 := by omega
      have j3 : ((q : Int) - 16).toNat = q - 16 := by omega
      have j4 : ((q : Int) - 7).toNat = q - 7 := by omega
      have k1 : 15 ≤ (q : Int) := by omega
      have k2 : 2 ≤ (q : Int) := by omega
      have k3 : 16 ≤ (q : Int) := by omega
      have k4 : 7 ≤ (q : Int) := by omega
      have m1 : (q : Int) - 15 < 64 := by omega
      have m2 : (q : Int) - 2 < 64 := by omega
      have m3 : (q : Int) - 16 < 64 := by omega
      have m4 : (q : Int) - 7 < 64 := by omega
      have m5 : (q : Int) < 64 := by omega
      have n1 := spRow_get b q (q - 15) (by omega)
      have n2 := spRow_get b q (q - 2) (by omega)
      have n3 := spRow_get b q (q - 16) (by omega)
      have n4 := spRow_get b q (q - 7) (by omega)
      unfold g0 g1 at hset
      generalize (spTo b q).getD (q - 16) 0 = x16 at *
      generalize (spTo b q).getD (q - 15) 0 = x15 at *
      generalize (spTo b q).getD (q - 7) 0 = x7 at *
      generalize (spTo b q).getD (q - 2) 0 = x2 at *
      generalize spRow b q = r0 at *
      repeat' (first 
       | (with_reducible first | refine awp_scope ?_ | refine awp_seq ?_ | refine awp_block ?_)
       | ((with_reducible first | refine awp_label ?_ | refine awp_skip ?_); try simp only [thenA, inBlockA, noGotoA])
       | (with_reducible refine awp_exit ?_; simp only [thenA, inBlockA, noGotoA, if_true, Nat.reduceEqDiff, if_false, ↓reduceIte])
       | (with_reducible refine awp_ret ?_; (try simp only [thenA, inBlockA, noGotoA]); (try simp [-List.reduceReplicate, Nat.add_one_le_iff, -getElem?_pos, -getElem?_neg, List.getElem?_cons_zero, List.getElem?_cons_succ, iC, hn1, m5, hwi, i1, i2, i3, i4, j1, j2, j3, j4, k1, k2, k3, k4, m1, m2, m3, m4, n1, n2, n3, n4, hlen, wC, wI_shr, wI_shr', wI_xor, wI_add, fd8, fd1024, IntKind.bits]))
       | ((with_reducible first | refine awp_reg 61 hX [0, 2, 3, 4, 5, 6, 7, 9, 20] ?_ | refine awp_drw 61 hX [0, 2, 3, 4, 5, 6, 7, 9, 20] Tab.mixed (by kernel_rfl) ?_ | refine DEv_cut _ _ _ _ _ _ _ _ _ _ _ _ (by kernel_rfl) ?_ | change postOf _ _ _ _ _); simp [-List.reduceReplicate, Nat.add_one_le_iff, -getElem?_pos, -getElem?_neg, List.getElem?_cons_zero, List.getElem?_cons_succ, iC, hn1, m5, hwi, i1, i2, i3, i4, j1, j2, j3, j4, k1, k2, k3, k4, m1, m2, m3, m4, n1, n2, n3, n4, hlen, wC, wI_shr, wI_shr', wI_xor, wI_add, fd8, fd1024, IntKind.bits])
       | ((first | ((with_reducible refine Den.at_ (f := 121) ?_); refine (turn_den _ 7 (by omega) (by omega) _).det ?_) | ((with_reducible refine drawn_at (f := 121) ?_); refine ⟨_, _, turn_den _ 7 (by omega) (by omega) _, fun _ => rfl, ?_⟩) | ((with_reducible refine Den.at_ (f := 121) ?_); refine (turn_den _ 18 (by omega) (by omega) _).det ?_) | ((with_reducible refine drawn_at (f := 121) ?_); refine ⟨_, _, turn_den _ 18 (by omega) (by omega) _, fun _ => rfl, ?_⟩) | ((with_reducible refine Den.at_ (f := 121) ?_); refine (turn_den _ 17 (by omega) (by omega) _).det ?_) | ((with_reducible refine drawn_at (f := 121) ?_); refine ⟨_, _, turn_den _ 17 (by omega) (by omega) _, fun _ => rfl, ?_⟩) | ((with_reducible refine Den.at_ (f := 121) ?_); refine (turn_den _ 19 (by omega) (by omega) _).det ?_) | ((with_reducible refine drawn_at (f := 121) ?_); refine ⟨_, _, turn_den _ 19 (by omega) (by omega) _, fun _ => rfl, ?_⟩)); try simp [-List.reduceReplicate, Nat.add_one_le_iff, -getElem?_pos, -getElem?_neg, List.getElem?_cons_zero, List.getElem?_cons_succ, iC, hn1, m5, hwi, i1, i2, i3, i4, j1, j2, j3, j4, k1, k2, k3, k4, m1, m2, m3, m4, n1, n2, n3, n4, hlen, wC, wI_shr, wI_shr', wI_xor, wI_add, fd8, fd1024, IntKind.bits])
       | (with_reducible refine awp_if_b rfl (fun hc => ?_) (fun hc => ?_) <;> (try simp [-getElem?_pos, -getElem?_neg] at hc) <;> (try (exfalso; omega)))
       | ((with_reducible first | refine GuardK_b (fun hc => ?_) (fun hc => ?_) | refine DGuard_b _ _ _ _ _ _ _ _ _ _ (fun hc => ?_) (fun hc => ?_)) <;> (try simp only [Bool.not_eq_true', Bool.not_eq_false', decide_eq_true_eq, decide_eq_false_iff_not] at hc) <;> (first | (exfalso; omega) | skip) <;> simp [-List.reduceReplicate, Nat.add_one_le_iff, -getElem?_pos, -getElem?_neg, List.getElem?_cons_zero, List.getElem?_cons_succ, iC, hn1, m5, hwi, i1, i2, i3, i4, j1, j2, j3, j4, k1, k2, k3, k4, m1, m2, m3, m4, n1, n2, n3, n4, hlen, wC, wI_shr, wI_shr', wI_xor, wI_add, fd8, fd1024, IntKind.bits, hc])
       | ((with_reducible first | refine hother _ _ rfl ?_); simp only [inBlockA, thenA, noGotoA, Nat.reduceEqDiff, if_false, if_true, ↓reduceIte])
       | (with_reducible refine And.intro (by omega) ?_)
       | fail)
      refine next _ _ (()) (by omega) (by first | trivial | omega | assumption) (by simp [-List.reduceReplicate, keep, iC, ← hset, wC]) (by simp [-List.reduceReplicate, iC, ← hset, wC])
    · have h48 : i = 48 := by omega
      subst h48
      have hfin : spRow b (16 + 48) = (spread b).map wC := by unfold spRow spread; simp
      rw [hfin] at hlen
      have htk : ((spread b).map wC).take 64 = (spread b).map wC := List.take_of_length_le (by omega)
      rw [hfin]
      repeat' (first 
       | (with_reducible first | refine awp_scope ?_ | refine awp_seq ?_ | refine awp_block ?_)
       | ((with_reducible first | refine awp_label ?_ | refine awp_skip ?_); try simp only [thenA, inBlockA, noGotoA])
       | (with_reducible refine awp_exit ?_; simp only [thenA, inBlockA, noGotoA, if_true, Nat.reduceEqDiff, if_false, ↓reduceIte])
       | (with_reducible refine awp_ret ?_; (try simp only [thenA, inBlockA, noGotoA]); (try simp [-List.reduceReplicate, Nat.add_one_le_iff, -getElem?_pos, -getElem?_neg, List.getElem?_cons_zero, List.getElem?_cons_succ, iC, hlen, htk]))
       | ((with_reducible first | refine awp_reg 61 hX [0, 2, 3, 4, 5, 6, 7, 9, 20] ?_ | refine awp_drw 61 hX [0, 2, 3, 4, 5, 6, 7, 9, 20] Tab.mixed (by kernel_rfl) ?_ | refine DEv_cut _ _ _ _ _ _ _ _ _ _ _ _ (by kernel_rfl) ?_ | change postOf _ _ _ _ _); simp [-List.reduceReplicate, Nat.add_one_le_iff, -getElem?_pos, -getElem?_neg, List.getElem?_cons_zero, List.getElem?_cons_succ, iC, hlen, htk])
       | (with_reducible refine awp_if_b rfl (fun hc => ?_) (fun hc => ?_) <;> (try simp [-getElem?_pos, -getElem?_neg] at hc) <;> (try (exfalso; omega)))
       | ((with_reducible first | refine GuardK_b (fun hc => ?_) (fun hc => ?_) | refine DGuard_b _ _ _ _ _ _ _ _ _ _ (fun hc => ?_) (fun hc => ?_)) <;> (try simp only [Bool.not_eq_true', Bool.not_eq_false', decide_eq_true_eq, decide_eq_false_iff_not] at hc) <;> (first | (exfalso; omega) | skip) <;> simp [-List.reduceReplicate, Nat.add_one_le_iff, -getElem?_pos, -getElem?_neg, List.getElem?_cons_zero, List.getElem?_cons_succ, iC, hlen, htk, hc])
       | ((with_reducible first | refine hother _ _ rfl ?_); simp only [inBlockA, thenA, noGotoA, Nat.reduceEqDiff, if_false, if_true, ↓reduceIte])
       | (with_reducible refine And.intro (by omega) ?_)
       | fail)
end Go.Av

set_option exponentiation.threshold 1000
set_option linter.unusedVariables false
set_option linter.unusedSimpArgs false
set_option maxRecDepth 100000
set_option maxHeartbeats 4000000
namespace Go.Av
open Go Go.Proofs Go.Proofs.Ytofomnllcmgfeaa Go.RowKit
/-! ### sha: a block laid into eight words -/
def kK : List W := [1116352408, 1899447441, 3049323471, 3921009573, 961987163, 1508970993, 2453635748, 2870763221, 3624381080, 310598401, 607225278, 1426881987, 1925078388, 2162078206, 2614888103, 3248222580, 3835390401, 4022224774, 264347078, 604807628, 770255983, 1249150122, 1555081692, 1996064986, 2554220882, 2821834349, 2952996808, 3210313671, 3336571891, 3584528711, 113926993, 338241895, 666307205, 773529912, 1294757372, 1396182291, 1695183700, 1986661051, 2177026350, 2456956037, 2730485921, 2820302411, 3259730800, 3345764771, 3516065817, 3600352804, 4094571909, 275423344, 430227734, 506948616, 659060556, 883997877, 958139571, 1322822218, 1537002063, 1747873779, 1955562222, 2024104815, 2227730452, 2361852424, 2428436474, 2756734187, 3204031479, 3329325298]
theorem rounds_den : DenV Try.prog 130 [] (.agg (up (kK.map wC))) := den_run 20 rfl (by simp [ltB]) (by kernel_rfl)
theorem kK_get (i : Nat) (h : i < 64) : (kK.map wC)[i]? = some (wC (kK.getD i 0)) := by
  have hl : kK.length = 64 := rfl
  rw [List.getElem?_map, List.getD_eq_getElem?_getD, List.getElem?_eq_getElem (by omega)]
  rfl
theorem number_all : (List.range 64).map (fun i => (runF Try.prog 20 122 [.c (iC (i : Nat))] []).map (·.1)) = (List.range 64).map fun i => some (M.c (wC (kK.getD i 0))) := by kernel_rfl
theorem number_den (i : Nat) (h : i < 64) : DenV Try.prog 122 [.c (iC i)] (.c (wC (kK.getD i 0))) :=
  den_run 20 rfl rfl (by
    have h2 := (List.map_inj_left.1 number_all) i (List.mem_range.2 h)
    with_reducible exact h2)
/-- Eight words. -/
structure S8 where
  (a b c d e f g h : W)
def S8.l (s : S8) : List W := [s.a, s.b, s.c, s.d, s.e, s.f, s.g, s.h]
def S8.add (s t : S8) : S8 := ⟨s.a + t.a, s.b + t.b, s.c + t.c, s.d + t.d, s.e + t.e, s.f + t.f, s.g + t.g, s.h + t.h⟩
def S8.t1 (s : S8) (k w : W) : W := s.h + (rotr s.e 6 ^^^ rotr s.e 11 ^^^ rotr s.e 25) + ((s.e &&& s.f) ^^^ (~~~ s.e &&& s.g)) + k + w
def S8.t2 (s : S8) : W := rotr s.a 2 ^^^ rotr s.a 13 ^^^ rotr s.a 22
def S8.t3 (s : S8) : W := (s.a &&& s.b) ^^^ (s.a &&& s.c) ^^^ (s.b &&& s.c)
def S8.step (s : S8) (k w : W) : S8 := ⟨s.t1 k w + s.t2 + s.t3, s.a, s.b, s.c, s.d + s.t1 k w, s.e, s.f, s.g⟩
def mixTo (ws : List W) (s : S8) : Nat → S8
  | 0 => s
  | n + 1 => (mixTo ws s n).step (kK.getD n 0) (ws.getD n 0)
def mix (s : S8) (b : ByteArray) : S8 := s.add (mixTo (spread b) s 64)
def s8M (s : S8) : M := .agg (up (s.l.map wC))
theorem spread_len (b : ByteArray) : (spread b).length = 64 := spTo_len b 64
theorem ws_get (ws : List W) (i n : Nat) (h : i < n) (hl : ws.length = n) : (ws.map wC)[i]? = some (wC (ws.getD i 0)) := by
  rw [List.getElem?_map, List.getD_eq_getElem?_getD, List.getElem?_eq_getElem (by omega)]
  rfl
theorem set8 (z a b c d e f g h : C) : ((((((((List.replicate 8 z).set 0 a).set 1 b).set 2 c).set 3 d).set 4 e).set 5 f).set 6 g).set 7 h = [a, b, c, d, e, f, g, h] := rfl
set_option maxHeartbeats 2000000 in
theorem mix_den (s : S8) (b : ByteArray) (hb : b.size ≤ 9223372036854775807) : DenV Try.prog 125 [s8M s, .c (.v (.string b))] (s8M (mix s b)) := by
  obtain ⟨r, hr⟩ : ∃ r, r = mix s b := ⟨_, rfl⟩
  rw [← hr]
  refine Den.frame (by simp [ltBs, s8M, ltB]) (by simp [ltB, s8M]) ?_
  refine den_of Try.func125 rfl rfl (by simp [Try.ntmps125]) (fun X hX hO => ?_)
  rw [Try.ntmps125] at hX
  simp only [Try.results125]
  have hsl := spread_len b
  have hkl : kK.length = 64 := rfl
  repeat' (first 
   | (with_reducible first | refine awp_scope ?_ | refine awp_seq ?_ | refine awp_block ?_)
   | ((with_reducible first | refine awp_label ?_ | refine awp_skip ?_); try simp only [thenA, inBlockA, noGotoA])
   | (with_reducible refine awp_exit ?_; simp only [thenA, inBlockA, noGotoA, if_true, Nat.reduceEqDiff, if_false, ↓reduceIte])
   | (with_reducible refine awp_ret ?_; (try simp only [thenA, inBlockA, noGotoA]); (try simp [-List.reduceReplicate, Nat.add_one_le_iff, -getElem?_pos, -getElem?_neg, List.getElem?_cons_zero, List.getElem?_cons_succ, s8M, S8.l, hsl, hkl]))
   | ((with_reducible first | refine awp_reg 122 hX [1, 2, 4, 5, 6, 7, 8, 9, 10, 11, 12, 13, 18, 19, 109, 110] ?_ | refine awp_drw 122 hX [1, 2, 4, 5, 6, 7, 8, 9, 10, 11, 12, 13, 18, 19, 109, 110] Tab.mixed (by kernel_rfl) ?_ | refine DEv_cut _ _ _ _ _ _ _ _ _ _ _ _ (by kernel_rfl) ?_ | change postOf _ _ _ _ _); simp [-List.reduceReplicate, Nat.add_one_le_iff, -getElem?_pos, -getElem?_neg, List.getElem?_cons_zero, List.getElem?_cons_succ, s8M, S8.l, hsl, hkl])
   | ((first | ((with_reducible refine Den.at_ (f := 129) ?_); refine (spread_den b hb _).det ?_) | ((with_reducible refine drawn_at (f := 129) ?_); refine ⟨_, _, spread_den b hb _, fun _ => rfl, ?_⟩) | ((with_reducible refine Den.at_ (f := 130) ?_); refine (rounds_den _).det ?_) | ((with_reducible refine drawn_at (f := 130) ?_); refine ⟨_, _, rounds_den _, fun _ => rfl, ?_⟩)); try simp [-List.reduceReplicate, Nat.add_one_le_iff, -getElem?_pos, -getElem?_neg, List.getElem?_cons_zero, List.getElem?_cons_succ, s8M, S8.l, hsl, hkl])
   | (with_reducible refine awp_if_b rfl (fun hc => ?_) (fun hc => ?_) <;> (try simp [-getElem?_pos, -getElem?_neg] at hc) <;> (try (exfalso; omega)))
   | ((with_reducible first | refine GuardK_b (fun hc => ?_) (fun hc => ?_) | refine DGuard_b _ _ _ _ _ _ _ _ _ _ (fun hc => ?_) (fun hc => ?_)) <;> (try simp only [Bool.not_eq_true', Bool.not_eq_false', decide_eq_true_eq, decide_eq_false_iff_not] at hc) <;> (first | (exfalso; omega) | skip) <;> simp [-List.reduceReplicate, Nat.add_one_le_iff, -getElem?_pos, -getElem?_neg, List.getElem?_cons_zero, List.getElem?_cons_succ, s8M, S8.l, hsl, hkl, hc])
   | ((with_reducible first | refine hother _ _ rfl ?_); simp only [inBlockA, thenA, noGotoA, Nat.reduceEqDiff, if_false, if_true, ↓reduceIte])
   | (with_reducible refine And.intro (by omega) ?_)
   | fail)
  refine awp_forU [2, 4, 5, 6, 7, 18] (fun i (_u : Unit) => [(18, .c (iC i))]) (fun i (_u : Unit) => [⟨169, 1, false, 0, up [wC s.a, wC s.b, wC s.c, wC s.d, wC s.e, wC s.f, wC s.g, wC s.h], none⟩, ⟨169, 1, false, 0, up (List.replicate 8 (C.v (Value.int IntKind.u32 0))), none⟩, ⟨164, 1, false, 0, up (List.map wC (spread b)), none⟩, ⟨164, 1, false, 0, up (List.map wC kK), none⟩, ⟨169, 1, false, 0, up ((mixTo (spread b) s i).l.map wC), none⟩]) (fun i (_u : Unit) => True) (64) (()) (by first | trivial | (simp; done) | omega | (intros; simp at *; done)) (by simp [-List.reduceReplicate, keep, iC, mixTo, S8.l]) (by simp [-List.reduceReplicate, iC, mixTo, S8.l]) ?_
  rintro i _u Q1 hi hH next hother
  conv => arg 5; arg 1; simp only [List.cons_append, List.nil_append, keep, get, Nat.reduceEqDiff, if_true, if_false, ↓reduceIte]
  have hwi := wrap_in ((i : Int) + 1) (by omega)
  by_cases hlt : i < 64
  · have hw := ws_get (spread b) i 64 hlt hsl
    have hk := kK_get i hlt
    have h64 : (i : Int) < 64 := by omega
    have hst : mixTo (spread b) s (i + 1) = (mixTo (spread b) s i).step (kK.getD i 0) ((spread b).getD i 0) := rfl
    rw [hst] at next
    generalize mixTo (spread b) s i = v at *
    generalize kK.getD i 0 = kk at *
    generalize (spread b).getD i 0 = ww at *
    clear hst
    repeat' (first 
     | (with_reducible first | refine awp_scope ?_ | refine awp_seq ?_ | refine awp_block ?_)
     | ((with_reducible first | refine awp_label ?_ | refine awp_skip ?_); try simp only [thenA, inBlockA, noGotoA])
     | (with_reducible refine awp_exit ?_; simp only [thenA, inBlockA, noGotoA, if_true, Nat.reduceEqDiff, if_false, ↓reduceIte])
     | (with_reducible refine awp_ret ?_; (try simp only [thenA, inBlockA, noGotoA]); (try simp [-List.reduceReplicate, Nat.add_one_le_iff, -getElem?_pos, -getElem?_neg, List.getElem?_cons_zero, List.getElem?_cons_succ, S8.l, iC, hlt, h64, hwi, hw, hk, wC, wI_xor, wI_add, wI_and, wI_not, set8]))
     | ((with_reducible first | refine awp_reg 122 hX [1, 2, 4, 5, 6, 7, 8, 9, 10, 11, 12, 13, 18, 19, 109, 110] ?_ | refine awp_drw 122 hX [1, 2, 4, 5, 6, 7, 8, 9, 10, 11, 12, 13, 18, 19, 109, 110] Tab.mixed (by kernel_rfl) ?_ | refine DEv_cut _ _ _ _ _ _ _ _ _ _ _ _ (by kernel_rfl) ?_ | change postOf _ _ _ _ _); simp [-List.reduceReplicate, Nat.add_one_le_iff, -getElem?_pos, -getElem?_neg, List.getElem?_cons_zero, List.getElem?_cons_succ, S8.l, iC, hlt, h64, hwi, hw, hk, wC, wI_xor, wI_add, wI_and, wI_not, set8])
     | ((first | ((with_reducible refine Den.at_ (f := 131) ?_); refine (rot_den _ 6 (by omega) _).det ?_) | ((with_reducible refine drawn_at (f := 131) ?_); refine ⟨_, _, rot_den _ 6 (by omega) _, fun _ => rfl, ?_⟩) | ((with_reducible refine Den.at_ (f := 131) ?_); refine (rot_den _ 11 (by omega) _).det ?_) | ((with_reducible refine drawn_at (f := 131) ?_); refine ⟨_, _, rot_den _ 11 (by omega) _, fun _ => rfl, ?_⟩) | ((with_reducible refine Den.at_ (f := 131) ?_); refine (rot_den _ 25 (by omega) _).det ?_) | ((with_reducible refine drawn_at (f := 131) ?_); refine ⟨_, _, rot_den _ 25 (by omega) _, fun _ => rfl, ?_⟩) | ((with_reducible refine Den.at_ (f := 131) ?_); refine (rot_den _ 2 (by omega) _).det ?_) | ((with_reducible refine drawn_at (f := 131) ?_); refine ⟨_, _, rot_den _ 2 (by omega) _, fun _ => rfl, ?_⟩) | ((with_reducible refine Den.at_ (f := 131) ?_); refine (rot_den _ 13 (by omega) _).det ?_) | ((with_reducible refine drawn_at (f := 131) ?_); refine ⟨_, _, rot_den _ 13 (by omega) _, fun _ => rfl, ?_⟩) | ((with_reducible refine Den.at_ (f := 131) ?_); refine (rot_den _ 22 (by omega) _).det ?_) | ((with_reducible refine drawn_at (f := 131) ?_); refine ⟨_, _, rot_den _ 22 (by omega) _, fun _ => rfl, ?_⟩)); try simp [-List.reduceReplicate, Nat.add_one_le_iff, -getElem?_pos, -getElem?_neg, List.getElem?_cons_zero, List.getElem?_cons_succ, S8.l, iC, hlt, h64, hwi, hw, hk, wC, wI_xor, wI_add, wI_and, wI_not, set8])
     | (with_reducible refine awp_if_b rfl (fun hc => ?_) (fun hc => ?_) <;> (try simp [-getElem?_pos, -getElem?_neg] at hc) <;> (try (exfalso; omega)))
     | ((with_reducible first | refine GuardK_b (fun hc => ?_) (fun hc => ?_) | refine DGuard_b _ _ _ _ _ _ _ _ _ _ (fun hc => ?_) (fun hc => ?_)) <;> (try simp only [Bool.not_eq_true', Bool.not_eq_false', decide_eq_true_eq, decide_eq_false_iff_not] at hc) <;> (first | (exfalso; omega) | skip) <;> simp [-List.reduceReplicate, Nat.add_one_le_iff, -getElem?_pos, -getElem?_neg, List.getElem?_cons_zero, List.getElem?_cons_succ, S8.l, iC, hlt, h64, hwi, hw, hk, wC, wI_xor, wI_add, wI_and, wI_not, set8, hc])
     | ((with_reducible first | refine hother _ _ rfl ?_); simp only [inBlockA, thenA, noGotoA, Nat.reduceEqDiff, if_false, if_true, ↓reduceIte])
     | (with_reducible refine And.intro (by omega) ?_)
     | fail)
    refine next _ _ (()) (by omega) (by first | trivial | omega | assumption) (by simp [-List.reduceReplicate, keep, iC, wC, S8.l, S8.step, S8.t1, S8.t2, S8.t3]) (by simp [-List.reduceReplicate, iC, wC, S8.l, S8.step, S8.t1, S8.t2, S8.t3])
  · have hi64 : i = 64 := by omega
    subst hi64
    have hmix : r = s.add (mixTo (spread b) s 64) := hr
    generalize mixTo (spread b) s 64 = v at *
    clear next hwi
    subst hmix
    repeat' (first 
     | (with_reducible first | refine awp_scope ?_ | refine awp_seq ?_ | refine awp_block ?_)
     | ((with_reducible first | refine awp_label ?_ | refine awp_skip ?_); try simp only [thenA, inBlockA, noGotoA])
     | (with_reducible refine awp_exit ?_; simp only [thenA, inBlockA, noGotoA, if_true, Nat.reduceEqDiff, if_false, ↓reduceIte])
     | (with_reducible refine awp_ret ?_; (try simp only [thenA, inBlockA, noGotoA]); (try simp [-List.reduceReplicate, Nat.add_one_le_iff, -getElem?_pos, -getElem?_neg, List.getElem?_cons_zero, List.getElem?_cons_succ, S8.l, iC]))
     | ((with_reducible first | refine awp_reg 122 hX [1, 2, 4, 5, 6, 7, 8, 9, 10, 11, 12, 13, 18, 19, 109, 110] ?_ | refine awp_drw 122 hX [1, 2, 4, 5, 6, 7, 8, 9, 10, 11, 12, 13, 18, 19, 109, 110] Tab.mixed (by kernel_rfl) ?_ | refine DEv_cut _ _ _ _ _ _ _ _ _ _ _ _ (by kernel_rfl) ?_ | change postOf _ _ _ _ _); simp [-List.reduceReplicate, Nat.add_one_le_iff, -getElem?_pos, -getElem?_neg, List.getElem?_cons_zero, List.getElem?_cons_succ, S8.l, iC])
     | (with_reducible refine awp_if_b rfl (fun hc => ?_) (fun hc => ?_) <;> (try simp [-getElem?_pos, -getElem?_neg] at hc) <;> (try (exfalso; omega)))
     | ((with_reducible first | refine GuardK_b (fun hc => ?_) (fun hc => ?_) | refine DGuard_b _ _ _ _ _ _ _ _ _ _ (fun hc => ?_) (fun hc => ?_)) <;> (try simp only [Bool.not_eq_true', Bool.not_eq_false', decide_eq_true_eq, decide_eq_false_iff_not] at hc) <;> (first | (exfalso; omega) | skip) <;> simp [-List.reduceReplicate, Nat.add_one_le_iff, -getElem?_pos, -getElem?_neg, List.getElem?_cons_zero, List.getElem?_cons_succ, S8.l, iC, hc])
     | ((with_reducible first | refine hother _ _ rfl ?_); simp only [inBlockA, thenA, noGotoA, Nat.reduceEqDiff, if_false, if_true, ↓reduceIte])
     | (with_reducible refine And.intro (by omega) ?_)
     | fail)
    refine awp_forU [2, 4, 7, 109] (fun i (_u : Unit) => [(109, .c (iC i))]) (fun i (_u : Unit) => [⟨169, 1, false, 0, up (((s.add v).l.take i ++ s.l.drop i).map wC), none⟩, ⟨169, 1, false, 0, up (List.replicate 8 (C.v (Value.int IntKind.u32 0))), none⟩, ⟨164, 1, false, 0, up (List.map wC (spread b)), none⟩, ⟨164, 1, false, 0, up (List.map wC kK), none⟩, ⟨169, 1, false, 0, up (v.l.map wC), none⟩]) (fun i (_u : Unit) => True) (8) (()) (by first | trivial | (simp; done) | omega | (intros; simp at *; done)) (by simp [-List.reduceReplicate, keep, iC, S8.l]) (by simp [-List.reduceReplicate, iC, S8.l]) ?_
    rintro i _u Q1 hi hH next hother
    conv => arg 5; arg 1; simp only [List.cons_append, List.nil_append, keep, get, Nat.reduceEqDiff, if_true, if_false, ↓reduceIte]
    by_cases hlt : i < 8
    · rcases (by omega : i = 0 ∨ i = 1 ∨ i = 2 ∨ i = 3 ∨ i = 4 ∨ i = 5 ∨ i = 6 ∨ i = 7) with e | e | e | e | e | e | e | e
      all_goals subst e
      all_goals
        repeat' (first 
         | (with_reducible first | refine awp_scope ?_ | refine awp_seq ?_ | refine awp_block ?_)
         | ((with_reducible first | refine awp_label ?_ | refine awp_skip ?_); try simp only [thenA, inBlockA, noGotoA])
         | (with_reducible refine awp_exit ?_; simp only [thenA, inBlockA, noGotoA, if_true, Nat.reduceEqDiff, if_false, ↓reduceIte])
         | (with_reducible refine awp_ret ?_; (try simp only [thenA, inBlockA, noGotoA]); (try simp [-List.reduceReplicate, Nat.add_one_le_iff, -getElem?_pos, -getElem?_neg, List.getElem?_cons_zero, List.getElem?_cons_succ, S8.l, S8.add, iC, wC, wI_add]))
         | ((with_reducible first | refine awp_reg 122 hX [1, 2, 4, 5, 6, 7, 8, 9, 10, 11, 12, 13, 18, 19, 109, 110] ?_ | refine awp_drw 122 hX [1, 2, 4, 5, 6, 7, 8, 9, 10, 11, 12, 13, 18, 19, 109, 110] Tab.mixed (by kernel_rfl) ?_ | refine DEv_cut _ _ _ _ _ _ _ _ _ _ _ _ (by kernel_rfl) ?_ | change postOf _ _ _ _ _); simp [-List.reduceReplicate, Nat.add_one_le_iff, -getElem?_pos, -getElem?_neg, List.getElem?_cons_zero, List.getElem?_cons_succ, S8.l, S8.add, iC, wC, wI_add])
         | (with_reducible refine awp_if_b rfl (fun hc => ?_) (fun hc => ?_) <;> (try simp [-getElem?_pos, -getElem?_neg] at hc) <;> (try (exfalso; omega)))
         | ((with_reducible first | refine GuardK_b (fun hc => ?_) (fun hc => ?_) | refine DGuard_b _ _ _ _ _ _ _ _ _ _ (fun hc => ?_) (fun hc => ?_)) <;> (try simp only [Bool.not_eq_true', Bool.not_eq_false', decide_eq_true_eq, decide_eq_false_iff_not] at hc) <;> (first | (exfalso; omega) | skip) <;> simp [-List.reduceReplicate, Nat.add_one_le_iff, -getElem?_pos, -getElem?_neg, List.getElem?_cons_zero, List.getElem?_cons_succ, S8.l, S8.add, iC, wC, wI_add, hc])
         | ((with_reducible first | refine hother _ _ rfl ?_); simp only [inBlockA, thenA, noGotoA, Nat.reduceEqDiff, if_false, if_true, ↓reduceIte])
         | (with_reducible refine And.intro (by omega) ?_)
         | fail)
        refine next _ _ (()) (by omega) (by first | trivial | omega | assumption) (by simp [-List.reduceReplicate, keep, iC, wC, S8.l, S8.add, IntKind.wrap, IntKind.bits, IntKind.signed]) (by simp [-List.reduceReplicate, iC, wC, S8.l, S8.add, IntKind.wrap, IntKind.bits, IntKind.signed])
    · have hi8 : i = 8 := by omega
      subst hi8
      repeat' (first 
       | (with_reducible first | refine awp_scope ?_ | refine awp_seq ?_ | refine awp_block ?_)
       | ((with_reducible first | refine awp_label ?_ | refine awp_skip ?_); try simp only [thenA, inBlockA, noGotoA])
       | (with_reducible refine awp_exit ?_; simp only [thenA, inBlockA, noGotoA, if_true, Nat.reduceEqDiff, if_false, ↓reduceIte])
       | (with_reducible refine awp_ret ?_; (try simp only [thenA, inBlockA, noGotoA]); (try simp [-List.reduceReplicate, Nat.add_one_le_iff, -getElem?_pos, -getElem?_neg, List.getElem?_cons_zero, List.getElem?_cons_succ, S8.l, S8.add, iC]))
       | ((with_reducible first | refine awp_reg 122 hX [1, 2, 4, 5, 6, 7, 8, 9, 10, 11, 12, 13, 18, 19, 109, 110] ?_ | refine awp_drw 122 hX [1, 2, 4, 5, 6, 7, 8, 9, 10, 11, 12, 13, 18, 19, 109, 110] Tab.mixed (by kernel_rfl) ?_ | refine DEv_cut _ _ _ _ _ _ _ _ _ _ _ _ (by kernel_rfl) ?_ | change postOf _ _ _ _ _); simp [-List.reduceReplicate, Nat.add_one_le_iff, -getElem?_pos, -getElem?_neg, List.getElem?_cons_zero, List.getElem?_cons_succ, S8.l, S8.add, iC])
       | (with_reducible refine awp_if_b rfl (fun hc => ?_) (fun hc => ?_) <;> (try simp [-getElem?_pos, -getElem?_neg] at hc) <;> (try (exfalso; omega)))
       | ((with_reducible first | refine GuardK_b (fun hc => ?_) (fun hc => ?_) | refine DGuard_b _ _ _ _ _ _ _ _ _ _ (fun hc => ?_) (fun hc => ?_)) <;> (try simp only [Bool.not_eq_true', Bool.not_eq_false', decide_eq_true_eq, decide_eq_false_iff_not] at hc) <;> (first | (exfalso; omega) | skip) <;> simp [-List.reduceReplicate, Nat.add_one_le_iff, -getElem?_pos, -getElem?_neg, List.getElem?_cons_zero, List.getElem?_cons_succ, S8.l, S8.add, iC, hc])
       | ((with_reducible first | refine hother _ _ rfl ?_); simp only [inBlockA, thenA, noGotoA, Nat.reduceEqDiff, if_false, if_true, ↓reduceIte])
       | (with_reducible refine And.intro (by omega) ?_)
       | fail)
/-- Words moved one place on, from the end. -/
def shl8 (l : List W) (i : Nat) : List W := l.take (8 - i) ++ (l.drop (7 - i)).take i
set_option maxHeartbeats 2000000 in
theorem mix02_den (s : S8) (b : ByteArray) (hb : b.size ≤ 9223372036854775807) : DenV Try.prog 109 [s8M s, .c (.v (.string b))] (s8M (mix s b)) := by
  obtain ⟨r, hr⟩ : ∃ r, r = mix s b := ⟨_, rfl⟩
  rw [← hr]
  refine Den.frame (by simp [ltBs, s8M, ltB]) (by simp [ltB, s8M]) ?_
  refine den_of Try.func109 rfl rfl (by simp [Try.ntmps109]) (fun X hX hO => ?_)
  rw [Try.ntmps109] at hX
  simp only [Try.results109]
  have hsl := spread_len b
  have hkl : kK.length = 64 := rfl
  repeat' (first 
   | (with_reducible first | refine awp_scope ?_ | refine awp_seq ?_ | refine awp_block ?_)
   | ((with_reducible first | refine awp_label ?_ | refine awp_skip ?_); try simp only [thenA, inBlockA, noGotoA])
   | (with_reducible refine awp_exit ?_; simp only [thenA, inBlockA, noGotoA, if_true, Nat.reduceEqDiff, if_false, ↓reduceIte])
   | (with_reducible refine awp_ret ?_; (try simp only [thenA, inBlockA, noGotoA]); (try simp [-List.reduceReplicate, Nat.add_one_le_iff, -getElem?_pos, -getElem?_neg, List.getElem?_cons_zero, List.getElem?_cons_succ, s8M, S8.l, hsl, hkl]))
   | ((with_reducible first | refine awp_reg 110 hX [1, 2, 4, 5, 6, 7, 8, 9, 10, 11, 12, 13, 18, 79, 98] ?_ | refine awp_drw 110 hX [1, 2, 4, 5, 6, 7, 8, 9, 10, 11, 12, 13, 18, 79, 98] Tab.mixed (by kernel_rfl) ?_ | refine DEv_cut _ _ _ _ _ _ _ _ _ _ _ _ (by kernel_rfl) ?_ | change postOf _ _ _ _ _); simp [-List.reduceReplicate, Nat.add_one_le_iff, -getElem?_pos, -getElem?_neg, List.getElem?_cons_zero, List.getElem?_cons_succ, s8M, S8.l, hsl, hkl])
   | ((first | ((with_reducible refine Den.at_ (f := 120) ?_); refine (spread02_den b hb _).det ?_) | ((with_reducible refine drawn_at (f := 120) ?_); refine ⟨_, _, spread02_den b hb _, fun _ => rfl, ?_⟩)); try simp [-List.reduceReplicate, Nat.add_one_le_iff, -getElem?_pos, -getElem?_neg, List.getElem?_cons_zero, List.getElem?_cons_succ, s8M, S8.l, hsl, hkl])
   | (with_reducible refine awp_if_b rfl (fun hc => ?_) (fun hc => ?_) <;> (try simp [-getElem?_pos, -getElem?_neg] at hc) <;> (try (exfalso; omega)))
   | ((with_reducible first | refine GuardK_b (fun hc => ?_) (fun hc => ?_) | refine DGuard_b _ _ _ _ _ _ _ _ _ _ (fun hc => ?_) (fun hc => ?_)) <;> (try simp only [Bool.not_eq_true', Bool.not_eq_false', decide_eq_true_eq, decide_eq_false_iff_not] at hc) <;> (first | (exfalso; omega) | skip) <;> simp [-List.reduceReplicate, Nat.add_one_le_iff, -getElem?_pos, -getElem?_neg, List.getElem?_cons_zero, List.getElem?_cons_succ, s8M, S8.l, hsl, hkl, hc])
   | ((with_reducible first | refine hother _ _ rfl ?_ | refine hother2 _ _ rfl ?_); simp only [inBlockA, thenA, noGotoA, Nat.reduceEqDiff, if_false, if_true, ↓reduceIte])
   | (with_reducible refine And.intro (by omega) ?_)
   | fail)
  refine awp_forU [2, 4, 5, 6, 7] (fun i (_u : Unit) => [(7, .c (iC i))]) (fun i (_u : Unit) => [⟨151, 1, false, 0, up ((mixTo (spread b) s i).l.map wC), none⟩, ⟨151, 1, false, 0, up (List.replicate 8 (C.v (Value.int IntKind.u32 0))), none⟩, ⟨164, 1, false, 0, up (List.map wC (spread b)), none⟩, ⟨151, 1, false, 0, up (s.l.map wC), none⟩]) (fun i (_u : Unit) => True) (64) (()) (by first | trivial | (simp; done) | omega | (intros; simp at *; done)) (by simp [-List.reduceReplicate, keep, iC, mixTo, S8.l]) (by simp [-List.reduceReplicate, iC, mixTo, S8.l]) ?_
  rintro i _u Q1 hi hH next hother
  conv => arg 5; arg 1; simp only [List.cons_append, List.nil_append, keep, get, Nat.reduceEqDiff, if_true, if_false, ↓reduceIte]
  have hwi := wrap_in ((i : Int) + 1) (by omega)
  by_cases hlt : i < 64
  · have hw := ws_get (spread b) i 64 hlt hsl
    have h64 : (i : Int) < 64 := by omega
    have hst : mixTo (spread b) s (i + 1) = (mixTo (spread b) s i).step (kK.getD i 0) ((spread b).getD i 0) := rfl
    rw [hst] at next
    have hnum := number_den i hlt
    generalize mixTo (spread b) s i = v at *
    generalize kK.getD i 0 = kk at *
    generalize (spread b).getD i 0 = ww at *
    clear hst
    repeat' (first 
     | (with_reducible first | refine awp_scope ?_ | refine awp_seq ?_ | refine awp_block ?_)
     | ((with_reducible first | refine awp_label ?_ | refine awp_skip ?_); try simp only [thenA, inBlockA, noGotoA])
     | (with_reducible refine awp_exit ?_; simp only [thenA, inBlockA, noGotoA, if_true, Nat.reduceEqDiff, if_false, ↓reduceIte])
     | (with_reducible refine awp_ret ?_; (try simp only [thenA, inBlockA, noGotoA]); (try simp [-List.reduceReplicate, Nat.add_one_le_iff, -getElem?_pos, -getElem?_neg, List.getElem?_cons_zero, List.getElem?_cons_succ, S8.l, iC, hlt, h64, hwi, hw, wC, wI_xor, wI_add, wI_and, wI_notsub]))
     | ((with_reducible first | refine awp_reg 110 hX [1, 2, 4, 5, 6, 7, 8, 9, 10, 11, 12, 13, 18, 79, 98] ?_ | refine awp_drw 110 hX [1, 2, 4, 5, 6, 7, 8, 9, 10, 11, 12, 13, 18, 79, 98] Tab.mixed (by kernel_rfl) ?_ | refine DEv_cut _ _ _ _ _ _ _ _ _ _ _ _ (by kernel_rfl) ?_ | change postOf _ _ _ _ _); simp [-List.reduceReplicate, Nat.add_one_le_iff, -getElem?_pos, -getElem?_neg, List.getElem?_cons_zero, List.getElem?_cons_succ, S8.l, iC, hlt, h64, hwi, hw, wC, wI_xor, wI_add, wI_and, wI_notsub])
     | ((first | ((with_reducible refine Den.at_ (f := 121) ?_); refine (turn_den _ 6 (by omega) (by omega) _).det ?_) | ((with_reducible refine drawn_at (f := 121) ?_); refine ⟨_, _, turn_den _ 6 (by omega) (by omega) _, fun _ => rfl, ?_⟩) | ((with_reducible refine Den.at_ (f := 121) ?_); refine (turn_den _ 11 (by omega) (by omega) _).det ?_) | ((with_reducible refine drawn_at (f := 121) ?_); refine ⟨_, _, turn_den _ 11 (by omega) (by omega) _, fun _ => rfl, ?_⟩) | ((with_reducible refine Den.at_ (f := 121) ?_); refine (turn_den _ 25 (by omega) (by omega) _).det ?_) | ((with_reducible refine drawn_at (f := 121) ?_); refine ⟨_, _, turn_den _ 25 (by omega) (by omega) _, fun _ => rfl, ?_⟩) | ((with_reducible refine Den.at_ (f := 121) ?_); refine (turn_den _ 2 (by omega) (by omega) _).det ?_) | ((with_reducible refine drawn_at (f := 121) ?_); refine ⟨_, _, turn_den _ 2 (by omega) (by omega) _, fun _ => rfl, ?_⟩) | ((with_reducible refine Den.at_ (f := 121) ?_); refine (turn_den _ 13 (by omega) (by omega) _).det ?_) | ((with_reducible refine drawn_at (f := 121) ?_); refine ⟨_, _, turn_den _ 13 (by omega) (by omega) _, fun _ => rfl, ?_⟩) | ((with_reducible refine Den.at_ (f := 121) ?_); refine (turn_den _ 22 (by omega) (by omega) _).det ?_) | ((with_reducible refine drawn_at (f := 121) ?_); refine ⟨_, _, turn_den _ 22 (by omega) (by omega) _, fun _ => rfl, ?_⟩) | (refine (hnum _).det ?_) | (refine ⟨_, _, hnum _, fun _ => rfl, ?_⟩)); try simp [-List.reduceReplicate, Nat.add_one_le_iff, -getElem?_pos, -getElem?_neg, List.getElem?_cons_zero, List.getElem?_cons_succ, S8.l, iC, hlt, h64, hwi, hw, wC, wI_xor, wI_add, wI_and, wI_notsub])
     | (with_reducible refine awp_if_b rfl (fun hc => ?_) (fun hc => ?_) <;> (try simp [-getElem?_pos, -getElem?_neg] at hc) <;> (try (exfalso; omega)))
     | ((with_reducible first | refine GuardK_b (fun hc => ?_) (fun hc => ?_) | refine DGuard_b _ _ _ _ _ _ _ _ _ _ (fun hc => ?_) (fun hc => ?_)) <;> (try simp only [Bool.not_eq_true', Bool.not_eq_false', decide_eq_true_eq, decide_eq_false_iff_not] at hc) <;> (first | (exfalso; omega) | skip) <;> simp [-List.reduceReplicate, Nat.add_one_le_iff, -getElem?_pos, -getElem?_neg, List.getElem?_cons_zero, List.getElem?_cons_succ, S8.l, iC, hlt, h64, hwi, hw, wC, wI_xor, wI_add, wI_and, wI_notsub, hc])
     | ((with_reducible first | refine hother _ _ rfl ?_ | refine hother2 _ _ rfl ?_); simp only [inBlockA, thenA, noGotoA, Nat.reduceEqDiff, if_false, if_true, ↓reduceIte])
     | (with_reducible refine And.intro (by omega) ?_)
     | fail)
    have next0 := next
    have hother2 := hother
    clear next hother
    refine awp_forU [2, 4, 5, 6, 7, 10, 11, 12] (fun j (_u : Unit) => [(12, .c (iC (7 - j : Nat)))]) (fun j (_u : Unit) => [⟨151, 1, false, 0, up ((shl8 v.l j).map wC), none⟩, ⟨151, 1, false, 0, up (List.replicate 8 (C.v (Value.int IntKind.u32 0))), none⟩, ⟨164, 1, false, 0, up (List.map wC (spread b)), none⟩, ⟨151, 1, false, 0, up (s.l.map wC), none⟩]) (fun j (_u : Unit) => True) (7) (()) (by first | trivial | (simp; done) | omega | (intros; simp at *; done)) (by simp [-List.reduceReplicate, keep, iC, S8.l, shl8, wC]) (by simp [-List.reduceReplicate, iC, S8.l, shl8, wC]) ?_
    rintro j _u Q1 hi hH next hother
    conv => arg 5; arg 1; simp only [List.cons_append, List.nil_append, keep, get, Nat.reduceEqDiff, if_true, if_false, ↓reduceIte]
    by_cases hlj : j < 7
    · clear next0
      rcases (by omega : j = 0 ∨ j = 1 ∨ j = 2 ∨ j = 3 ∨ j = 4 ∨ j = 5 ∨ j = 6) with e | e | e | e | e | e | e
      all_goals subst e
      all_goals
        repeat' (first 
         | (with_reducible first | refine awp_scope ?_ | refine awp_seq ?_ | refine awp_block ?_)
         | ((with_reducible first | refine awp_label ?_ | refine awp_skip ?_); try simp only [thenA, inBlockA, noGotoA])
         | (with_reducible refine awp_exit ?_; simp only [thenA, inBlockA, noGotoA, if_true, Nat.reduceEqDiff, if_false, ↓reduceIte])
         | (with_reducible refine awp_ret ?_; (try simp only [thenA, inBlockA, noGotoA]); (try simp [-List.reduceReplicate, Nat.add_one_le_iff, -getElem?_pos, -getElem?_neg, List.getElem?_cons_zero, List.getElem?_cons_succ, S8.l, shl8, iC, wC, IntKind.wrap, IntKind.bits, IntKind.signed]))
         | ((with_reducible first | refine awp_reg 110 hX [1, 2, 4, 5, 6, 7, 8, 9, 10, 11, 12, 13, 18, 79, 98] ?_ | refine awp_drw 110 hX [1, 2, 4, 5, 6, 7, 8, 9, 10, 11, 12, 13, 18, 79, 98] Tab.mixed (by kernel_rfl) ?_ | refine DEv_cut _ _ _ _ _ _ _ _ _ _ _ _ (by kernel_rfl) ?_ | change postOf _ _ _ _ _); simp [-List.reduceReplicate, Nat.add_one_le_iff, -getElem?_pos, -getElem?_neg, List.getElem?_cons_zero, List.getElem?_cons_succ, S8.l, shl8, iC, wC, IntKind.wrap, IntKind.bits, IntKind.signed])
         | (with_reducible refine awp_if_b rfl (fun hc => ?_) (fun hc => ?_) <;> (try simp [-getElem?_pos, -getElem?_neg] at hc) <;> (try (exfalso; omega)))
         | ((with_reducible first | refine GuardK_b (fun hc => ?_) (fun hc => ?_) | refine DGuard_b _ _ _ _ _ _ _ _ _ _ (fun hc => ?_) (fun hc => ?_)) <;> (try simp only [Bool.not_eq_true', Bool.not_eq_false', decide_eq_true_eq, decide_eq_false_iff_not] at hc) <;> (first | (exfalso; omega) | skip) <;> simp [-List.reduceReplicate, Nat.add_one_le_iff, -getElem?_pos, -getElem?_neg, List.getElem?_cons_zero, List.getElem?_cons_succ, S8.l, shl8, iC, wC, IntKind.wrap, IntKind.bits, IntKind.signed, hc])
         | ((with_reducible first | refine hother _ _ rfl ?_ | refine hother2 _ _ rfl ?_); simp only [inBlockA, thenA, noGotoA, Nat.reduceEqDiff, if_false, if_true, ↓reduceIte])
         | (with_reducible refine And.intro (by omega) ?_)
         | fail)
        refine next _ _ (()) (by omega) (by first | trivial | omega | assumption) (by simp [-List.reduceReplicate, keep, iC, wC, S8.l, shl8]) (by simp [-List.reduceReplicate, iC, wC, S8.l, shl8])
    · have hj7 : j = 7 := by omega
      subst hj7
      repeat' (first 
       | (with_reducible first | refine awp_scope ?_ | refine awp_seq ?_ | refine awp_block ?_)
       | ((with_reducible first | refine awp_label ?_ | refine awp_skip ?_); try simp only [thenA, inBlockA, noGotoA])
       | (with_reducible refine awp_exit ?_; simp only [thenA, inBlockA, noGotoA, if_true, Nat.reduceEqDiff, if_false, ↓reduceIte])
       | (with_reducible refine awp_ret ?_; (try simp only [thenA, inBlockA, noGotoA]); (try simp [-List.reduceReplicate, Nat.add_one_le_iff, -getElem?_pos, -getElem?_neg, List.getElem?_cons_zero, List.getElem?_cons_succ, S8.l, shl8, iC, wC, wI_add, hwi, hlt]))
       | ((with_reducible first | refine awp_reg 110 hX [1, 2, 4, 5, 6, 7, 8, 9, 10, 11, 12, 13, 18, 79, 98] ?_ | refine awp_drw 110 hX [1, 2, 4, 5, 6, 7, 8, 9, 10, 11, 12, 13, 18, 79, 98] Tab.mixed (by kernel_rfl) ?_ | refine DEv_cut _ _ _ _ _ _ _ _ _ _ _ _ (by kernel_rfl) ?_ | change postOf _ _ _ _ _); simp [-List.reduceReplicate, Nat.add_one_le_iff, -getElem?_pos, -getElem?_neg, List.getElem?_cons_zero, List.getElem?_cons_succ, S8.l, shl8, iC, wC, wI_add, hwi, hlt])
       | (with_reducible refine awp_if_b rfl (fun hc => ?_) (fun hc => ?_) <;> (try simp [-getElem?_pos, -getElem?_neg] at hc) <;> (try (exfalso; omega)))
       | ((with_reducible first | refine GuardK_b (fun hc => ?_) (fun hc => ?_) | refine DGuard_b _ _ _ _ _ _ _ _ _ _ (fun hc => ?_) (fun hc => ?_)) <;> (try simp only [Bool.not_eq_true', Bool.not_eq_false', decide_eq_true_eq, decide_eq_false_iff_not] at hc) <;> (first | (exfalso; omega) | skip) <;> simp [-List.reduceReplicate, Nat.add_one_le_iff, -getElem?_pos, -getElem?_neg, List.getElem?_cons_zero, List.getElem?_cons_succ, S8.l, shl8, iC, wC, wI_add, hwi, hlt, hc])
       | ((with_reducible first | refine hother _ _ rfl ?_ | refine hother2 _ _ rfl ?_); simp only [inBlockA, thenA, noGotoA, Nat.reduceEqDiff, if_false, if_true, ↓reduceIte])
       | (with_reducible refine And.intro (by omega) ?_)
       | fail)
      refine next0 _ _ (()) (by omega) (by first | trivial | omega | assumption) (by simp [-List.reduceReplicate, keep, iC, wC, S8.l, S8.step, S8.t1, S8.t2, S8.t3, BitVec.add_assoc]) (by simp [-List.reduceReplicate, iC, wC, S8.l, S8.step, S8.t1, S8.t2, S8.t3, BitVec.add_assoc])
  · have hi64 : i = 64 := by omega
    subst hi64
    have hmix : r = s.add (mixTo (spread b) s 64) := hr
    generalize mixTo (spread b) s 64 = v at *
    clear next hwi
    subst hmix
    repeat' (first 
     | (with_reducible first | refine awp_scope ?_ | refine awp_seq ?_ | refine awp_block ?_)
     | ((with_reducible first | refine awp_label ?_ | refine awp_skip ?_); try simp only [thenA, inBlockA, noGotoA])
     | (with_reducible refine awp_exit ?_; simp only [thenA, inBlockA, noGotoA, if_true, Nat.reduceEqDiff, if_false, ↓reduceIte])
     | (with_reducible refine awp_ret ?_; (try simp only [thenA, inBlockA, noGotoA]); (try simp [-List.reduceReplicate, Nat.add_one_le_iff, -getElem?_pos, -getElem?_neg, List.getElem?_cons_zero, List.getElem?_cons_succ, S8.l, iC]))
     | ((with_reducible first | refine awp_reg 110 hX [1, 2, 4, 5, 6, 7, 8, 9, 10, 11, 12, 13, 18, 79, 98] ?_ | refine awp_drw 110 hX [1, 2, 4, 5, 6, 7, 8, 9, 10, 11, 12, 13, 18, 79, 98] Tab.mixed (by kernel_rfl) ?_ | refine DEv_cut _ _ _ _ _ _ _ _ _ _ _ _ (by kernel_rfl) ?_ | change postOf _ _ _ _ _); simp [-List.reduceReplicate, Nat.add_one_le_iff, -getElem?_pos, -getElem?_neg, List.getElem?_cons_zero, List.getElem?_cons_succ, S8.l, iC])
     | (with_reducible refine awp_if_b rfl (fun hc => ?_) (fun hc => ?_) <;> (try simp [-getElem?_pos, -getElem?_neg] at hc) <;> (try (exfalso; omega)))
     | ((with_reducible first | refine GuardK_b (fun hc => ?_) (fun hc => ?_) | refine DGuard_b _ _ _ _ _ _ _ _ _ _ (fun hc => ?_) (fun hc => ?_)) <;> (try simp only [Bool.not_eq_true', Bool.not_eq_false', decide_eq_true_eq, decide_eq_false_iff_not] at hc) <;> (first | (exfalso; omega) | skip) <;> simp [-List.reduceReplicate, Nat.add_one_le_iff, -getElem?_pos, -getElem?_neg, List.getElem?_cons_zero, List.getElem?_cons_succ, S8.l, iC, hc])
     | ((with_reducible first | refine hother _ _ rfl ?_ | refine hother2 _ _ rfl ?_); simp only [inBlockA, thenA, noGotoA, Nat.reduceEqDiff, if_false, if_true, ↓reduceIte])
     | (with_reducible refine And.intro (by omega) ?_)
     | fail)
    refine awp_forU [2, 4, 6, 13] (fun i (_u : Unit) => [(13, .c (iC i))]) (fun i (_u : Unit) => [⟨151, 1, false, 0, up (((s.add v).l.take i ++ v.l.drop i).map wC), none⟩, ⟨151, 1, false, 0, up (List.replicate 8 (C.v (Value.int IntKind.u32 0))), none⟩, ⟨164, 1, false, 0, up (List.map wC (spread b)), none⟩, ⟨151, 1, false, 0, up (s.l.map wC), none⟩]) (fun i (_u : Unit) => True) (8) (()) (by first | trivial | (simp; done) | omega | (intros; simp at *; done)) (by simp [-List.reduceReplicate, keep, iC, S8.l]) (by simp [-List.reduceReplicate, iC, S8.l]) ?_
    rintro i _u Q1 hi hH next hother
    conv => arg 5; arg 1; simp only [List.cons_append, List.nil_append, keep, get, Nat.reduceEqDiff, if_true, if_false, ↓reduceIte]
    by_cases hlt : i < 8
    · have cm : ∀ x y : W, wI (x + y) = wI (y + x) := fun x y => by rw [BitVec.add_comm]
      rcases (by omega : i = 0 ∨ i = 1 ∨ i = 2 ∨ i = 3 ∨ i = 4 ∨ i = 5 ∨ i = 6 ∨ i = 7) with e | e | e | e | e | e | e | e
      all_goals subst e
      all_goals
        repeat' (first 
         | (with_reducible first | refine awp_scope ?_ | refine awp_seq ?_ | refine awp_block ?_)
         | ((with_reducible first | refine awp_label ?_ | refine awp_skip ?_); try simp only [thenA, inBlockA, noGotoA])
         | (with_reducible refine awp_exit ?_; simp only [thenA, inBlockA, noGotoA, if_true, Nat.reduceEqDiff, if_false, ↓reduceIte])
         | (with_reducible refine awp_ret ?_; (try simp only [thenA, inBlockA, noGotoA]); (try simp [-List.reduceReplicate, Nat.add_one_le_iff, -getElem?_pos, -getElem?_neg, List.getElem?_cons_zero, List.getElem?_cons_succ, S8.l, S8.add, iC, wC, wI_add]))
         | ((with_reducible first | refine awp_reg 110 hX [1, 2, 4, 5, 6, 7, 8, 9, 10, 11, 12, 13, 18, 79, 98] ?_ | refine awp_drw 110 hX [1, 2, 4, 5, 6, 7, 8, 9, 10, 11, 12, 13, 18, 79, 98] Tab.mixed (by kernel_rfl) ?_ | refine DEv_cut _ _ _ _ _ _ _ _ _ _ _ _ (by kernel_rfl) ?_ | change postOf _ _ _ _ _); simp [-List.reduceReplicate, Nat.add_one_le_iff, -getElem?_pos, -getElem?_neg, List.getElem?_cons_zero, List.getElem?_cons_succ, S8.l, S8.add, iC, wC, wI_add])
         | (with_reducible refine awp_if_b rfl (fun hc => ?_) (fun hc => ?_) <;> (try simp [-getElem?_pos, -getElem?_neg] at hc) <;> (try (exfalso; omega)))
         | ((with_reducible first | refine GuardK_b (fun hc => ?_) (fun hc => ?_) | refine DGuard_b _ _ _ _ _ _ _ _ _ _ (fun hc => ?_) (fun hc => ?_)) <;> (try simp only [Bool.not_eq_true', Bool.not_eq_false', decide_eq_true_eq, decide_eq_false_iff_not] at hc) <;> (first | (exfalso; omega) | skip) <;> simp [-List.reduceReplicate, Nat.add_one_le_iff, -getElem?_pos, -getElem?_neg, List.getElem?_cons_zero, List.getElem?_cons_succ, S8.l, S8.add, iC, wC, wI_add, hc])
         | ((with_reducible first | refine hother _ _ rfl ?_ | refine hother2 _ _ rfl ?_); simp only [inBlockA, thenA, noGotoA, Nat.reduceEqDiff, if_false, if_true, ↓reduceIte])
         | (with_reducible refine And.intro (by omega) ?_)
         | fail)
        refine next _ _ (()) (by omega) (by first | trivial | omega | assumption) (by simp [-List.reduceReplicate, keep, iC, wC, S8.l, S8.add, IntKind.wrap, IntKind.bits, IntKind.signed, BitVec.add_comm]) (by simp [-List.reduceReplicate, iC, wC, S8.l, S8.add, IntKind.wrap, IntKind.bits, IntKind.signed, BitVec.add_comm])
    · have hi8 : i = 8 := by omega
      subst hi8
      repeat' (first 
       | (with_reducible first | refine awp_scope ?_ | refine awp_seq ?_ | refine awp_block ?_)
       | ((with_reducible first | refine awp_label ?_ | refine awp_skip ?_); try simp only [thenA, inBlockA, noGotoA])
       | (with_reducible refine awp_exit ?_; simp only [thenA, inBlockA, noGotoA, if_true, Nat.reduceEqDiff, if_false, ↓reduceIte])
       | (with_reducible refine awp_ret ?_; (try simp only [thenA, inBlockA, noGotoA]); (try simp [-List.reduceReplicate, Nat.add_one_le_iff, -getElem?_pos, -getElem?_neg, List.getElem?_cons_zero, List.getElem?_cons_succ, S8.l, S8.add, iC]))
       | ((with_reducible first | refine awp_reg 110 hX [1, 2, 4, 5, 6, 7, 8, 9, 10, 11, 12, 13, 18, 79, 98] ?_ | refine awp_drw 110 hX [1, 2, 4, 5, 6, 7, 8, 9, 10, 11, 12, 13, 18, 79, 98] Tab.mixed (by kernel_rfl) ?_ | refine DEv_cut _ _ _ _ _ _ _ _ _ _ _ _ (by kernel_rfl) ?_ | change postOf _ _ _ _ _); simp [-List.reduceReplicate, Nat.add_one_le_iff, -getElem?_pos, -getElem?_neg, List.getElem?_cons_zero, List.getElem?_cons_succ, S8.l, S8.add, iC])
       | (with_reducible refine awp_if_b rfl (fun hc => ?_) (fun hc => ?_) <;> (try simp [-getElem?_pos, -getElem?_neg] at hc) <;> (try (exfalso; omega)))
       | ((with_reducible first | refine GuardK_b (fun hc => ?_) (fun hc => ?_) | refine DGuard_b _ _ _ _ _ _ _ _ _ _ (fun hc => ?_) (fun hc => ?_)) <;> (try simp only [Bool.not_eq_true', Bool.not_eq_false', decide_eq_true_eq, decide_eq_false_iff_not] at hc) <;> (first | (exfalso; omega) | skip) <;> simp [-List.reduceReplicate, Nat.add_one_le_iff, -getElem?_pos, -getElem?_neg, List.getElem?_cons_zero, List.getElem?_cons_succ, S8.l, S8.add, iC, hc])
       | ((with_reducible first | refine hother _ _ rfl ?_ | refine hother2 _ _ rfl ?_); simp only [inBlockA, thenA, noGotoA, Nat.reduceEqDiff, if_false, if_true, ↓reduceIte])
       | (with_reducible refine And.intro (by omega) ?_)
       | fail)
end Go.Av

set_option exponentiation.threshold 1000
set_option linter.unusedVariables false
set_option linter.unusedSimpArgs false
set_option maxRecDepth 100000
set_option maxHeartbeats 4000000
namespace Go.Av
open Go Go.Proofs Go.Proofs.Ytofomnllcmgfeaa Go.RowKit
/-! ### strings.Join, strings.Repeat -/
def zerosB (n : Nat) : List UInt8 := List.replicate n 0
theorem repeat_zeros (n : Nat) : Lib.repeatL [0] n = zerosB n := by
  induction n with
  | zero => rfl
  | succ n ih => rw [Lib.repeatL, ih]; rfl
theorem repeat_den (n : Nat) (hn : n ≤ 1000000) : DenV Try.prog 132 [.c (.v (.string ⟨#[0]⟩)), .c (.v (.int .i64 (n : Int)))] (.c (.v (.string (bsS (zerosB n))))) := by
  refine Den.of_below (by kernel_rfl) rfl fun w E vals hs ha hst => ?_
  have h1 := ha 1 _ rfl
  have h0 := ha 0 _ rfl
  obtain ⟨va, vb, rfl⟩ : ∃ va vb, vals = #[va, vb] := by
    obtain ⟨l⟩ := vals
    match l, hs with
    | [a, b], _ => exact ⟨a, b, rfl⟩
  obtain rfl : va = .string ⟨#[0]⟩ := arg_v h0
  obtain rfl : vb = .int .i64 n := arg_v h1
  refine (Try.strings_Repeat ⟨#[0]⟩ n w (by omega) (by show 1 * n ≤ _; omega)).mono fun e w' ⟨he, hw⟩ => ⟨?_, hw⟩
  rw [he]
  have : Lib.repeatL (⟨#[0]⟩ : ByteArray).data.toList n = zerosB n := repeat_zeros n
  rw [this]
  rfl
/-! ### sha: what stands behind -/
def padL (n : Nat) : List UInt8 := 128 :: (zerosB ((119 - n % 64) % 64) ++ putN (8 * n % 18446744073709551616) 8)
theorem pad_den (n : Nat) (hn : n < 18446744073709551616) : DenV Try.prog 126 [.c (u64C n)] (.c (.v (.string (bsS (padL n))))) := by
  refine Den.frame rfl rfl ?_
  refine den_of Try.func126 rfl rfl (by simp [Try.ntmps126]) (fun X hX hO => ?_)
  rw [Try.ntmps126] at hX
  simp only [Try.results126]
  have h0 : ((n : Int)).tmod 64 = ((n % 64 : Nat) : Int) := rfl
  have h1 : IntKind.u64.wrap (119 - ((n % 64 : Nat) : Int)) = ((119 - n % 64 : Nat) : Int) := (wrapU64 _ (by omega)).trans (by omega)
  have h2 : (((119 - n % 64 : Nat) : Int)).tmod 64 = (((119 - n % 64) % 64 : Nat) : Int) := rfl
  have h3 := wrap_in (((119 - n % 64) % 64 : Nat) : Int) (by omega)
  have h4 : IntKind.u64.wrap (8 * (n : Int)) = ((8 * n % 18446744073709551616 : Nat) : Int) := (modU64 _).trans (by omega)
  have hm : 8 * n % 18446744073709551616 < 18446744073709551616 := Nat.mod_lt _ (by omega)
  have hg : (119 - n % 64) % 64 < 64 := Nat.mod_lt _ (by omega)
  have hp : padL n = 128 :: (zerosB ((119 - n % 64) % 64) ++ putN (8 * n % 18446744073709551616) 8) := rfl
  generalize n % 64 = a at *
  generalize 119 - a = a2 at *
  generalize a2 % 64 = gap at *
  generalize 8 * n % 18446744073709551616 = m8 at *
  have h5 : (⟨#[128]⟩ : ByteArray) = bsS [128] := rfl
  have l1 : (zerosB gap).length = gap := by simp [zerosB]
  have l2 := putN_len m8 8
  have c1 : gap < 9223372036854775806 := by omega
  have c2 : gap + 1 + 7 < 9223372036854775807 := by omega
  have c3 : 1 + gap ≤ 9223372036854775807 := by omega
  have c4 : gap + 1 + 8 ≤ 9223372036854775807 := by omega
  repeat' (first 
   | (with_reducible first | refine awp_scope ?_ | refine awp_seq ?_ | refine awp_block ?_)
   | ((with_reducible first | refine awp_label ?_ | refine awp_skip ?_); try simp only [thenA, inBlockA, noGotoA])
   | (with_reducible refine awp_exit ?_; simp only [thenA, inBlockA, noGotoA, if_true, Nat.reduceEqDiff, if_false, ↓reduceIte])
   | (with_reducible refine awp_ret ?_; (try simp only [thenA, inBlockA, noGotoA]); (try simp [-List.reduceReplicate, Nat.add_one_le_iff, -getElem?_pos, -getElem?_neg, List.getElem?_cons_zero, List.getElem?_cons_succ, u64C, h0, h1, h2, h3, h4, h5, bs_append, bs_size, l1, l2, c1, c2, c3, c4, hp]))
   | ((with_reducible first | refine awp_reg 16 hX [0, 2, 3] ?_ | change postOf _ _ _ _ _); simp [-List.reduceReplicate, Nat.add_one_le_iff, -getElem?_pos, -getElem?_neg, List.getElem?_cons_zero, List.getElem?_cons_succ, u64C, h0, h1, h2, h3, h4, h5, bs_append, bs_size, l1, l2, c1, c2, c3, c4, hp])
   | ((first | ((with_reducible refine Den.at_ (f := 132) ?_); refine (repeat_den gap (by omega) _).det ?_) | ((with_reducible refine Den.at_ (f := 106) ?_); refine (put64_den m8 hm _).det ?_)); try simp [-List.reduceReplicate, Nat.add_one_le_iff, -getElem?_pos, -getElem?_neg, List.getElem?_cons_zero, List.getElem?_cons_succ, u64C, h0, h1, h2, h3, h4, h5, bs_append, bs_size, l1, l2, c1, c2, c3, c4, hp])
   | (with_reducible refine awp_if_b rfl (fun hc => ?_) (fun hc => ?_) <;> (try simp [-getElem?_pos, -getElem?_neg] at hc) <;> (try (exfalso; omega)))
   | ((with_reducible first | refine GuardK_b (fun hc => ?_) (fun hc => ?_)) <;> (try simp only [Bool.not_eq_true', Bool.not_eq_false', decide_eq_true_eq, decide_eq_false_iff_not] at hc) <;> (first | (exfalso; omega) | skip) <;> simp [-List.reduceReplicate, Nat.add_one_le_iff, -getElem?_pos, -getElem?_neg, List.getElem?_cons_zero, List.getElem?_cons_succ, u64C, h0, h1, h2, h3, h4, h5, bs_append, bs_size, l1, l2, c1, c2, c3, c4, hp, hc])
   | (with_reducible refine And.intro (by omega) ?_)
   | fail)
end Go.Av

set_option exponentiation.threshold 1000
set_option linter.unusedVariables false
set_option linter.unusedSimpArgs false
set_option maxRecDepth 100000
set_option maxHeartbeats 4000000
namespace Go.Av
open Go Go.Proofs Go.Proofs.Ytofomnllcmgfeaa Go.RowKit
/-! ### sha: a State -/
def firstS : S8 := ⟨0x6a09e667, 0xbb67ae85, 0x3c6ef372, 0xa54ff53a, 0x510e527f, 0x9b05688c, 0x1f83d9ab, 0x5be0cd19⟩
theorem first_den : DenV Try.prog 124 [] (s8M firstS) := den_run 20 rfl (by simp [ltB, s8M]) (by kernel_rfl)
theorem first02_den : DenV Try.prog 107 [] (s8M firstS) := den_run 20 rfl (by simp [ltB, s8M]) (by kernel_rfl)
def blk (t : ByteArray) (i : Nat) : ByteArray := t.extract (64 * i) (64 * i + 64)
def blocksTo (s : S8) (t : ByteArray) : Nat → S8
  | 0 => s
  | i + 1 => mix (blocksTo s t i) (blk t i)
/-- A State's cells. -/
def stC (s : S8) (rest : ByteArray) (n : Nat) (on : Bool) : List C := [wC s.a, wC s.b, wC s.c, wC s.d, wC s.e, wC s.f, wC s.g, wC s.h, .v (.string rest), u64C n, bC on]
def stO (s : S8) (rest : ByteArray) (n : Nat) (on : Bool) : Ob := ⟨171, 11, false, 0, up (stC s rest n on), none⟩
def wS (s : S8) (on : Bool) : S8 := if on then s else firstS
theorem ext_size (t : ByteArray) (a b : Nat) (h : a ≤ b) (hb : b ≤ t.size) : (t.extract a b).size = b - a := by rw [ByteArray.size_extract]; omega
set_option maxHeartbeats 2000000 in
theorem write_den (pre suf : List Ob) (s : S8) (rest : ByteArray) (n : Nat) (on : Bool) (b : ByteArray) (hr : rest.size ≤ 1000000) (hb : b.size ≤ 1000000) (hn : n < 18446744073709551616) :
    Den Try.prog 116 [.mp pre.length 0 0, .c (.v (.string b))] (pre ++ stO s rest n on :: suf) (fun r ob' => r = .tup [] ∧
      ob' = pre ++ stO (blocksTo (wS s on) (rest ++ b) ((rest ++ b).size / 64)) ((rest ++ b).extract (64 * ((rest ++ b).size / 64)) (rest ++ b).size) ((n + b.size) % 18446744073709551616) true :: suf) := by
  refine den_of Try.func116 rfl rfl (by simp [Try.ntmps116]) (fun X hX hO => ?_)
  rw [Try.ntmps116] at hX
  simp only [Try.results116]
  have h1 := wrapU64 (b.size : Int) (by omega)
  have h2 : IntKind.u64.wrap ((n : Int) + (b.size : Int)) = (((n + b.size) % 18446744073709551616 : Nat) : Int) := (modU64 _).trans (by omega)
  have h3 : rest.size + b.size ≤ 9223372036854775807 := by omega
  have hts : (rest ++ b).size = rest.size + b.size := ByteArray.size_append
  have htl : (rest ++ b).size ≤ 2000000 := by omega
  obtain ⟨v0, hv0⟩ : ∃ v0, v0 = wS s on := ⟨_, rfl⟩
  rw [← hv0]
  generalize ht : rest ++ b = t at *
  generalize hn' : (n + b.size) % 18446744073709551616 = n' at *
  generalize hk : t.size / 64 = k at *
  rcases (Bool.eq_false_or_eq_true on) with hon | hon
  all_goals
    have hv1 := hv0
    unfold wS at hv1
    simp only [hon, if_true, Bool.false_eq_true, if_false] at hv1
    repeat' (first 
     | (with_reducible first | refine awp_scope ?_ | refine awp_seq ?_ | refine awp_block ?_)
     | ((with_reducible first | refine awp_label ?_ | refine awp_skip ?_); try simp only [thenA, inBlockA, noGotoA])
     | (with_reducible refine awp_exit ?_; simp only [thenA, inBlockA, noGotoA, if_true, Nat.reduceEqDiff, if_false, ↓reduceIte])
     | (with_reducible refine awp_ret ?_; (try simp only [thenA, inBlockA, noGotoA]); (try simp [-List.reduceReplicate, Nat.add_one_le_iff, -getElem?_pos, -getElem?_neg, List.getElem?_cons_zero, List.getElem?_cons_succ, stO, stC, u64C, bC, h1, h2, h3, S8.l, s8M, hon, ht]))
     | ((with_reducible first | refine awp_reg 72 hX [0, 1, 4, 6, 11, 44] ?_ | refine awp_drw 72 hX [0, 1, 4, 6, 11, 44] Tab.mixed (by kernel_rfl) ?_ | refine DEv_cut _ _ _ _ _ _ _ _ _ _ _ _ (by kernel_rfl) ?_ | change postOf _ _ _ _ _); simp [-List.reduceReplicate, Nat.add_one_le_iff, -getElem?_pos, -getElem?_neg, List.getElem?_cons_zero, List.getElem?_cons_succ, stO, stC, u64C, bC, h1, h2, h3, S8.l, s8M, hon, ht])
     | ((first | ((with_reducible refine Den.at_ (f := 124) ?_); refine (first_den _).det ?_) | ((with_reducible refine drawn_at (f := 124) ?_); refine ⟨_, _, first_den _, fun _ => rfl, ?_⟩)); try simp [-List.reduceReplicate, Nat.add_one_le_iff, -getElem?_pos, -getElem?_neg, List.getElem?_cons_zero, List.getElem?_cons_succ, stO, stC, u64C, bC, h1, h2, h3, S8.l, s8M, hon, ht])
     | (with_reducible refine awp_if_b rfl (fun hc => ?_) (fun hc => ?_) <;> (try simp [-getElem?_pos, -getElem?_neg] at hc) <;> (try (exfalso; omega)))
     | ((with_reducible first | refine GuardK_b (fun hc => ?_) (fun hc => ?_) | refine DGuard_b _ _ _ _ _ _ _ _ _ _ (fun hc => ?_) (fun hc => ?_)) <;> (try simp only [Bool.not_eq_true', Bool.not_eq_false', decide_eq_true_eq, decide_eq_false_iff_not] at hc) <;> (first | (exfalso; omega) | skip) <;> simp [-List.reduceReplicate, Nat.add_one_le_iff, -getElem?_pos, -getElem?_neg, List.getElem?_cons_zero, List.getElem?_cons_succ, stO, stC, u64C, bC, h1, h2, h3, S8.l, s8M, hon, ht, hc])
     | ((with_reducible first | refine hother _ _ rfl ?_); simp only [inBlockA, thenA, noGotoA, Nat.reduceEqDiff, if_false, if_true, ↓reduceIte])
     | (with_reducible refine And.intro (by omega) ?_)
     | fail)
    refine awp_forU [0, 4] (fun i (_u : Unit) => [(4, .c (iC (64 * i : Nat)))]) (fun i (_u : Unit) => pre ++ stO (blocksTo v0 t i) t n' true :: suf) (fun i (_u : Unit) => True) (k) (()) (by first | trivial | (simp; done) | omega | (intros; simp at *; done)) (by simp [-List.reduceReplicate, keep, iC, stO, stC, blocksTo, u64C, bC, hv1, firstS]) (by simp [-List.reduceReplicate, iC, stO, stC, blocksTo, u64C, bC, hv1, firstS]) ?_
    rintro i _u Q1 hi hH next hother
    conv => arg 5; arg 1; simp only [List.cons_append, List.nil_append, keep, get, Nat.reduceEqDiff, if_true, if_false, ↓reduceIte]
    have hwi : IntKind.i64.wrap (64 * (i : Int) + 64) = 64 * (i : Int) + 64 := wrap_in _ (by omega)
    have hw2 : IntKind.i64.wrap ((t.size : Int) - 64 * (i : Int)) = (t.size : Int) - 64 * (i : Int) := wrap_in _ (by omega)
    have hst : blocksTo v0 t (i + 1) = mix (blocksTo v0 t i) (blk t i) := rfl
    by_cases hlt : i < k
    · have c1 : 64 ≤ (t.size : Int) - 64 * (i : Int) := by omega
      have c2 : 64 * (i : Int) + 64 ≤ t.size := by omega
      have t1 : (64 * (i : Int)).toNat = 64 * i := by omega
      have t2 : (64 * (i : Int) + 64).toNat = 64 * i + 64 := by omega
      have hbs : (blk t i).size ≤ 9223372036854775807 := by unfold blk; rw [ext_size _ _ _ (by omega) (by omega)]; omega
      have hbl : t.extract (64 * i) (64 * i + 64) = blk t i := rfl
      rw [hst] at next
      generalize blocksTo v0 t i = v at *
      repeat' (first 
       | (with_reducible first | refine awp_scope ?_ | refine awp_seq ?_ | refine awp_block ?_)
       | ((with_reducible first | refine awp_label ?_ | refine awp_skip ?_); try simp only [thenA, inBlockA, noGotoA])
       | (with_reducible refine awp_exit ?_; simp only [thenA, inBlockA, noGotoA, if_true, Nat.reduceEqDiff, if_false, ↓reduceIte])
       | (with_reducible refine awp_ret ?_; (try simp only [thenA, inBlockA, noGotoA]); (try simp [-List.reduceReplicate, Nat.add_one_le_iff, -getElem?_pos, -getElem?_neg, List.getElem?_cons_zero, List.getElem?_cons_succ, stO, stC, S8.l, s8M, iC, u64C, bC, hwi, hw2, c1, c2, t1, t2, hbl]))
       | ((with_reducible first | refine awp_reg 72 hX [0, 1, 4, 6, 11, 44] ?_ | refine awp_drw 72 hX [0, 1, 4, 6, 11, 44] Tab.mixed (by kernel_rfl) ?_ | refine DEv_cut _ _ _ _ _ _ _ _ _ _ _ _ (by kernel_rfl) ?_ | change postOf _ _ _ _ _); simp [-List.reduceReplicate, Nat.add_one_le_iff, -getElem?_pos, -getElem?_neg, List.getElem?_cons_zero, List.getElem?_cons_succ, stO, stC, S8.l, s8M, iC, u64C, bC, hwi, hw2, c1, c2, t1, t2, hbl])
       | ((first | ((with_reducible refine Den.at_ (f := 125) ?_); refine (mix_den v (blk t i) hbs _).det ?_) | ((with_reducible refine drawn_at (f := 125) ?_); refine ⟨_, _, mix_den v (blk t i) hbs _, fun _ => rfl, ?_⟩)); try simp [-List.reduceReplicate, Nat.add_one_le_iff, -getElem?_pos, -getElem?_neg, List.getElem?_cons_zero, List.getElem?_cons_succ, stO, stC, S8.l, s8M, iC, u64C, bC, hwi, hw2, c1, c2, t1, t2, hbl])
       | (with_reducible refine awp_if_b rfl (fun hc => ?_) (fun hc => ?_) <;> (try simp [-getElem?_pos, -getElem?_neg] at hc) <;> (try (exfalso; omega)))
       | ((with_reducible first | refine GuardK_b (fun hc => ?_) (fun hc => ?_) | refine DGuard_b _ _ _ _ _ _ _ _ _ _ (fun hc => ?_) (fun hc => ?_)) <;> (try simp only [Bool.not_eq_true', Bool.not_eq_false', decide_eq_true_eq, decide_eq_false_iff_not] at hc) <;> (first | (exfalso; omega) | skip) <;> simp [-List.reduceReplicate, Nat.add_one_le_iff, -getElem?_pos, -getElem?_neg, List.getElem?_cons_zero, List.getElem?_cons_succ, stO, stC, S8.l, s8M, iC, u64C, bC, hwi, hw2, c1, c2, t1, t2, hbl, hc])
       | ((with_reducible first | refine hother _ _ rfl ?_); simp only [inBlockA, thenA, noGotoA, Nat.reduceEqDiff, if_false, if_true, ↓reduceIte])
       | (with_reducible refine And.intro (by omega) ?_)
       | fail)
      have hx : 64 * (i : Int) + 64 = 64 * ((i : Int) + 1) := by omega
      refine next _ _ (()) (by omega) (by first | trivial | omega | assumption) (by simp [-List.reduceReplicate, keep, iC, stO, stC, u64C, bC, hx]) (by simp [-List.reduceReplicate, iC, stO, stC, u64C, bC, hx])
    · obtain rfl : i = k := by omega
      have c1 : ¬ 64 ≤ (t.size : Int) - 64 * (i : Int) := by omega
      have c2 : 64 * (i : Int) ≤ t.size := by omega
      have t1 : (64 * (i : Int)).toNat = 64 * i := by omega
      generalize blocksTo v0 t i = v at *
      have c3 : 0 ≤ 64 * (i : Int) := by omega
      repeat' (first 
       | (with_reducible first | refine awp_scope ?_ | refine awp_seq ?_ | refine awp_block ?_)
       | ((with_reducible first | refine awp_label ?_ | refine awp_skip ?_); try simp only [thenA, inBlockA, noGotoA])
       | (with_reducible refine awp_exit ?_; simp only [thenA, inBlockA, noGotoA, if_true, Nat.reduceEqDiff, if_false, ↓reduceIte])
       | (with_reducible refine awp_ret ?_; (try simp only [thenA, inBlockA, noGotoA]); (try simp [-List.reduceReplicate, Nat.add_one_le_iff, -getElem?_pos, -getElem?_neg, List.getElem?_cons_zero, List.getElem?_cons_succ, stO, stC, S8.l, s8M, iC, u64C, bC, hw2, c1, c2, c3, t1]))
       | ((with_reducible first | refine awp_reg 72 hX [0, 1, 4, 6, 11, 44] ?_ | refine awp_drw 72 hX [0, 1, 4, 6, 11, 44] Tab.mixed (by kernel_rfl) ?_ | refine DEv_cut _ _ _ _ _ _ _ _ _ _ _ _ (by kernel_rfl) ?_ | change postOf _ _ _ _ _); simp [-List.reduceReplicate, Nat.add_one_le_iff, -getElem?_pos, -getElem?_neg, List.getElem?_cons_zero, List.getElem?_cons_succ, stO, stC, S8.l, s8M, iC, u64C, bC, hw2, c1, c2, c3, t1])
       | (with_reducible refine awp_if_b rfl (fun hc => ?_) (fun hc => ?_) <;> (try simp [-getElem?_pos, -getElem?_neg] at hc) <;> (try (exfalso; omega)))
       | ((with_reducible first | refine GuardK_b (fun hc => ?_) (fun hc => ?_) | refine DGuard_b _ _ _ _ _ _ _ _ _ _ (fun hc => ?_) (fun hc => ?_)) <;> (try simp only [Bool.not_eq_true', Bool.not_eq_false', decide_eq_true_eq, decide_eq_false_iff_not] at hc) <;> (first | (exfalso; omega) | skip) <;> simp [-List.reduceReplicate, Nat.add_one_le_iff, -getElem?_pos, -getElem?_neg, List.getElem?_cons_zero, List.getElem?_cons_succ, stO, stC, S8.l, s8M, iC, u64C, bC, hw2, c1, c2, c3, t1, hc])
       | ((with_reducible first | refine hother _ _ rfl ?_); simp only [inBlockA, thenA, noGotoA, Nat.reduceEqDiff, if_false, if_true, ↓reduceIte])
       | (with_reducible refine And.intro (by omega) ?_)
       | fail)
theorem stateNew_den (ob : List Ob) : Den Try.prog 115 [] ob (fun r ob' => r = .mp ob.length 0 0 ∧ ob' = ob ++ [stO ⟨0, 0, 0, 0, 0, 0, 0, 0⟩ ⟨#[]⟩ 0 false]) := by
  refine den_of Try.func115 rfl rfl (by simp [Try.ntmps115]) (fun X hX hO => ?_)
  rw [Try.ntmps115] at hX
  simp only [Try.results115]
  repeat' (first 
   | (with_reducible first | refine awp_scope ?_ | refine awp_seq ?_ | refine awp_block ?_)
   | ((with_reducible first | refine awp_label ?_ | refine awp_skip ?_); try simp only [thenA, inBlockA, noGotoA])
   | (with_reducible refine awp_exit ?_; simp only [thenA, inBlockA, noGotoA, if_true, Nat.reduceEqDiff, if_false, ↓reduceIte])
   | (with_reducible refine awp_ret ?_; (try simp only [thenA, inBlockA, noGotoA]); (try simp [-List.reduceReplicate, Nat.add_one_le_iff, -getElem?_pos, -getElem?_neg, List.getElem?_cons_zero, List.getElem?_cons_succ, stO, stC, u64C, bC]))
   | ((with_reducible first | refine awp_reg 3 hX [0] ?_ | change postOf _ _ _ _ _); simp [-List.reduceReplicate, Nat.add_one_le_iff, -getElem?_pos, -getElem?_neg, List.getElem?_cons_zero, List.getElem?_cons_succ, stO, stC, u64C, bC])
   | (with_reducible refine awp_if_b rfl (fun hc => ?_) (fun hc => ?_) <;> (try simp [-getElem?_pos, -getElem?_neg] at hc) <;> (try (exfalso; omega)))
   | ((with_reducible first | refine GuardK_b (fun hc => ?_) (fun hc => ?_)) <;> (try simp only [Bool.not_eq_true', Bool.not_eq_false', decide_eq_true_eq, decide_eq_false_iff_not] at hc) <;> (first | (exfalso; omega) | skip) <;> simp [-List.reduceReplicate, Nat.add_one_le_iff, -getElem?_pos, -getElem?_neg, List.getElem?_cons_zero, List.getElem?_cons_succ, stO, stC, u64C, bC, hc])
   | (with_reducible refine And.intro (by omega) ?_)
   | fail)
  rfl
/-- Words as bytes. -/
def wBytes (l : List W) : List UInt8 := l.flatMap fun x => putN x.toNat 4
/-- What comes of a State. -/
def sumS (s : S8) (rest : ByteArray) (n : Nat) (on : Bool) : List UInt8 := wBytes (blocksTo (wS s on) (rest ++ bsS (padL n)) ((rest ++ bsS (padL n)).size / 64)).l
theorem wBytes_len (l : List W) : (wBytes l).length = 4 * l.length := by
  induction l with
  | nil => rfl
  | cons x r ih => simp only [wBytes, List.flatMap_cons, List.length_append, putN_len, List.length_cons] at *; omega
theorem wBytes_app (a b : List W) : wBytes (a ++ b) = wBytes a ++ wBytes b := by simp [wBytes]
/-- The sum as it is filled. -/
def outTo (l : List W) (i : Nat) : List C := (wBytes (l.take i)).map bC8 ++ List.replicate (32 - 4 * i) (bC8 0)
theorem outTo_len (l : List W) (i : Nat) (h : i ≤ 8) (hl : l.length = 8) : (outTo l i).length = 32 := by
  simp [outTo, wBytes_len, hl]; omega
theorem outTo_lay (l : List W) (i : Nat) (h : i < 8) (hl : l.length = 8) : lay (up (outTo l i)) (4 * i) (up ((putN (l.getD i 0).toNat 4).map bC8)) = up (outTo l (i + 1)) := by
  have h4 := putN_len (l.getD i 0).toNat 4
  have hw : (wBytes (l.take i)).length = 4 * i := by rw [wBytes_len, List.length_take]; omega
  have ht : l.take (i + 1) = l.take i ++ [l.getD i 0] := by
    rw [List.take_add_one, List.getElem?_eq_getElem (by omega), List.getD_eq_getElem?_getD, List.getElem?_eq_getElem (by omega)]
    rfl
  have e : wBytes (l.take (i + 1)) = wBytes (l.take i) ++ putN (l.getD i 0).toNat 4 := by rw [ht, wBytes_app]; simp [wBytes]
  rw [lay_app _ _ _ (by simp only [up, List.length_map, outTo_len l i (by omega) hl, h4]; omega)]
  unfold outTo
  rw [e]
  generalize putN (l.getD i 0).toNat 4 = p at *
  generalize wBytes (l.take i) = q at *
  have e1 : (q.map bC8).length = 4 * i := by rw [List.length_map, hw]
  simp only [up, ← List.map_take, ← List.map_drop, ← List.map_append, List.length_map, h4]
  congr 1
  rw [List.take_append_of_le_length (by omega), List.take_of_length_le (by omega), List.drop_append, e1, List.drop_of_length_le (by omega), List.nil_append, List.drop_replicate, List.map_append]
  simp only [List.append_assoc]
  congr 3
  omega
set_option maxHeartbeats 2000000 in
theorem stateSum_den (ob : List Ob) (p : Nat) (s : S8) (rest : ByteArray) (n : Nat) (on : Bool) (hget : ob[p]? = some (stO s rest n on)) (hr : rest.size ≤ 900000) (hn : n < 18446744073709551616) :
    Den Try.prog 117 [.mp p 0 0] ob (fun r ob' => r = hashM (sumS s rest n on) ∧ ob' = ob) := by
  refine Den.dropM (lt_hash _ _) ?_
  have hlt : p < ob.length := (List.getElem?_eq_some_iff.1 hget).1
  have hget2 : ∀ l, (ob ++ l)[p]? = some (stO s rest n on) := fun l => by rw [List.getElem?_append_left hlt, hget]
  obtain ⟨out, hout⟩ : ∃ out, out = sumS s rest n on := ⟨_, rfl⟩
  rw [← hout]
  refine den_of Try.func117 rfl rfl (by simp [Try.ntmps117]) (fun X hX hO => ?_)
  rw [Try.ntmps117] at hX
  simp only [Try.results117]
  have hW := write_den (ob ++ [⟨71, 1, false, 0, up (List.replicate 32 (C.v (Value.int IntKind.u8 0))), none⟩]) [] s rest n on (bsS (padL n)) (by omega) (by rw [bs_size]; simp [padL, zerosB, putN_len]; omega) hn
  unfold sumS at hout
  generalize blocksTo (wS s on) (rest ++ bsS (padL n)) ((rest ++ bsS (padL n)).size / 64) = v at *
  generalize (rest ++ bsS (padL n)).extract (64 * ((rest ++ bsS (padL n)).size / 64)) (rest ++ bsS (padL n)).size = r2 at *
  generalize (n + (bsS (padL n)).size) % 18446744073709551616 = n2 at *
  simp only [stO, stC] at hget hget2 hW
  simp [-List.reduceReplicate] at hW
  repeat' (first 
   | (with_reducible first | refine awp_scope ?_ | refine awp_seq ?_ | refine awp_block ?_)
   | ((with_reducible first | refine awp_label ?_ | refine awp_skip ?_); try simp only [thenA, inBlockA, noGotoA])
   | (with_reducible refine awp_exit ?_; simp only [thenA, inBlockA, noGotoA, if_true, Nat.reduceEqDiff, if_false, ↓reduceIte])
   | (with_reducible refine awp_ret ?_; (try simp only [thenA, inBlockA, noGotoA]); (try simp [-List.reduceReplicate, Nat.add_one_le_iff, -getElem?_pos, -getElem?_neg, List.getElem?_cons_zero, List.getElem?_cons_succ, u64C, bC, hget, hget2, hlt]))
   | ((with_reducible first | refine awp_reg 37 hX [0, 2, 3, 4, 5, 6, 9, 18, 19, 20] ?_ | refine awp_drw 37 hX [0, 2, 3, 4, 5, 6, 9, 18, 19, 20] Tab.mixed (by kernel_rfl) ?_ | refine DEv_cut _ _ _ _ _ _ _ _ _ _ _ _ (by kernel_rfl) ?_ | change postOf _ _ _ _ _); simp [-List.reduceReplicate, Nat.add_one_le_iff, -getElem?_pos, -getElem?_neg, List.getElem?_cons_zero, List.getElem?_cons_succ, u64C, bC, hget, hget2, hlt])
   | ((first | ((with_reducible refine Den.at_ (f := 126) ?_); refine (pad_den n hn _).det ?_) | ((with_reducible refine drawn_at (f := 126) ?_); refine ⟨_, _, pad_den n hn _, fun _ => rfl, ?_⟩) | (refine (hW).det ?_) | (refine ⟨_, _, hW, fun _ => rfl, ?_⟩)); try simp [-List.reduceReplicate, Nat.add_one_le_iff, -getElem?_pos, -getElem?_neg, List.getElem?_cons_zero, List.getElem?_cons_succ, u64C, bC, hget, hget2, hlt])
   | (with_reducible refine awp_if_b rfl (fun hc => ?_) (fun hc => ?_) <;> (try simp [-getElem?_pos, -getElem?_neg] at hc) <;> (try (exfalso; omega)))
   | ((with_reducible first | refine GuardK_b (fun hc => ?_) (fun hc => ?_) | refine DGuard_b _ _ _ _ _ _ _ _ _ _ (fun hc => ?_) (fun hc => ?_)) <;> (try simp only [Bool.not_eq_true', Bool.not_eq_false', decide_eq_true_eq, decide_eq_false_iff_not] at hc) <;> (first | (exfalso; omega) | skip) <;> simp [-List.reduceReplicate, Nat.add_one_le_iff, -getElem?_pos, -getElem?_neg, List.getElem?_cons_zero, List.getElem?_cons_succ, u64C, bC, hget, hget2, hlt, hc])
   | ((with_reducible first | refine hother _ _ rfl ?_); simp only [inBlockA, thenA, noGotoA, Nat.reduceEqDiff, if_false, if_true, ↓reduceIte])
   | (with_reducible refine And.intro (by omega) ?_)
   | fail)
  refine awp_forU [2, 4, 18, 19] (fun i (_u : Unit) => [(19, .c (iC i))]) (fun i (_u : Unit) => ob ++ [⟨71, 1, false, 0, up (List.replicate 32 (C.v (Value.int IntKind.u8 0))), none⟩, ⟨171, 11, false, 0, up [wC v.a, wC v.b, wC v.c, wC v.d, wC v.e, wC v.f, wC v.g, wC v.h, C.v (Value.string r2), C.v (Value.int IntKind.u64 n2), C.v (Value.bool true)], none⟩, ⟨71, 1, false, 0, up (outTo v.l i), none⟩]) (fun i (_u : Unit) => True) (8) (()) (by first | trivial | (simp; done) | omega | (intros; simp at *; done)) (by simp [-List.reduceReplicate, keep, iC, outTo, wBytes, bC8]) (by simp [-List.reduceReplicate, iC, outTo, wBytes, bC8]) ?_
  rintro i _u Q1 hi hH next hother
  conv => arg 5; arg 1; simp only [List.cons_append, List.nil_append, keep, get, Nat.reduceEqDiff, if_true, if_false, ↓reduceIte]
  have hwi := wrap_in ((i : Int) + 1) (by omega)
  have hol := outTo_len v.l i (by show i ≤ 8; omega) rfl
  by_cases hlt : i < 8
  · have hlay := outTo_lay v.l i hlt rfl
    have hv : [wC v.a, wC v.b, wC v.c, wC v.d, wC v.e, wC v.f, wC v.g, wC v.h][i]? = some (wC (v.l.getD i 0)) := ws_get v.l i 8 hlt rfl
    have hw1 : IntKind.i64.wrap (4 * (i : Int)) = 4 * (i : Int) := wrap_in _ (by omega)
    have hw2 : IntKind.i64.wrap (4 * (i : Int) + 4) = 4 * (i : Int) + 4 := wrap_in _ (by omega)
    have h8 : (i : Int) < 8 := by omega
    have c1 : 0 ≤ 4 * (i : Int) := by omega
    have c2 : 4 * (i : Int) < 4 * (i : Int) + 4 := by omega
    have c3 : 4 * (i : Int) + 4 ≤ 32 := by omega
    have c4 : 4 * (i : Int) + 4 - 4 * (i : Int) = 4 := by omega
    have c5 : (4 * (i : Int)).toNat = 4 * i := by omega
    have c6 : 4 * i + 4 ≤ 32 := by omega
    have hpl := putN_len (v.l.getD i 0).toNat 4
    have hxl := (v.l.getD i 0).isLt
    have hbt := bs_toList (putN (v.l.getD i 0).toNat 4)
    have hbz := bs_size (putN (v.l.getD i 0).toNat 4)
    generalize v.l.getD i 0 = x at *
    have htk : ∀ f : UInt8 → C, ((putN x.toNat 4).map f).take 4 = (putN x.toNat 4).map f := fun f => List.take_of_length_le (by simp [hpl])
    have hfn : (fun b : UInt8 => C.v (.int .u8 (b.toNat : Int))) = bC8 := rfl
    repeat' (first 
     | (with_reducible first | refine awp_scope ?_ | refine awp_seq ?_ | refine awp_block ?_)
     | ((with_reducible first | refine awp_label ?_ | refine awp_skip ?_); try simp only [thenA, inBlockA, noGotoA])
     | (with_reducible refine awp_exit ?_; simp only [thenA, inBlockA, noGotoA, if_true, Nat.reduceEqDiff, if_false, ↓reduceIte])
     | (with_reducible refine awp_ret ?_; (try simp only [thenA, inBlockA, noGotoA]); (try simp [-List.reduceReplicate, Nat.add_one_le_iff, -getElem?_pos, -getElem?_neg, List.getElem?_cons_zero, List.getElem?_cons_succ, iC, hlt, h8, hwi, hv, hw1, hw2, c1, c2, c3, c4, c5, c6, hol, hpl, hbt, hbz, htk, hfn]))
     | ((with_reducible first | refine awp_reg 37 hX [0, 2, 3, 4, 5, 6, 9, 18, 19, 20] ?_ | refine awp_drw 37 hX [0, 2, 3, 4, 5, 6, 9, 18, 19, 20] Tab.mixed (by kernel_rfl) ?_ | refine DEv_cut _ _ _ _ _ _ _ _ _ _ _ _ (by kernel_rfl) ?_ | change postOf _ _ _ _ _); simp [-List.reduceReplicate, Nat.add_one_le_iff, -getElem?_pos, -getElem?_neg, List.getElem?_cons_zero, List.getElem?_cons_succ, iC, hlt, h8, hwi, hv, hw1, hw2, c1, c2, c3, c4, c5, c6, hol, hpl, hbt, hbz, htk, hfn])
     | ((first | ((with_reducible refine Den.at_ (f := 105) ?_); refine (put32_den x.toNat hxl _).det ?_) | ((with_reducible refine drawn_at (f := 105) ?_); refine ⟨_, _, put32_den x.toNat hxl _, fun _ => rfl, ?_⟩)); try simp [-List.reduceReplicate, Nat.add_one_le_iff, -getElem?_pos, -getElem?_neg, List.getElem?_cons_zero, List.getElem?_cons_succ, iC, hlt, h8, hwi, hv, hw1, hw2, c1, c2, c3, c4, c5, c6, hol, hpl, hbt, hbz, htk, hfn])
     | (with_reducible refine awp_if_b rfl (fun hc => ?_) (fun hc => ?_) <;> (try simp [-getElem?_pos, -getElem?_neg] at hc) <;> (try (exfalso; omega)))
     | ((with_reducible first | refine GuardK_b (fun hc => ?_) (fun hc => ?_) | refine DGuard_b _ _ _ _ _ _ _ _ _ _ (fun hc => ?_) (fun hc => ?_)) <;> (try simp only [Bool.not_eq_true', Bool.not_eq_false', decide_eq_true_eq, decide_eq_false_iff_not] at hc) <;> (first | (exfalso; omega) | skip) <;> simp [-List.reduceReplicate, Nat.add_one_le_iff, -getElem?_pos, -getElem?_neg, List.getElem?_cons_zero, List.getElem?_cons_succ, iC, hlt, h8, hwi, hv, hw1, hw2, c1, c2, c3, c4, c5, c6, hol, hpl, hbt, hbz, htk, hfn, hc])
     | ((with_reducible first | refine hother _ _ rfl ?_); simp only [inBlockA, thenA, noGotoA, Nat.reduceEqDiff, if_false, if_true, ↓reduceIte])
     | (with_reducible refine And.intro (by omega) ?_)
     | fail)
    refine next _ _ (()) (by omega) (by first | trivial | omega | assumption) (by simp [-List.reduceReplicate, keep, iC, hlay]) (by simp [-List.reduceReplicate, iC, hlay])
  · obtain rfl : i = 8 := by omega
    have hfin : outTo v.l 8 = (wBytes v.l).map bC8 := by
      unfold outTo
      rw [List.take_of_length_le (by show 8 ≤ 8; omega)]
      simp
    have hl32 : (wBytes v.l).length = 32 := wBytes_len v.l
    have htk : ((wBytes v.l).map bC8).take 32 = (wBytes v.l).map bC8 := List.take_of_length_le (by simp [hl32])
    rw [hfin]
    repeat' (first 
     | (with_reducible first | refine awp_scope ?_ | refine awp_seq ?_ | refine awp_block ?_)
     | ((with_reducible first | refine awp_label ?_ | refine awp_skip ?_); try simp only [thenA, inBlockA, noGotoA])
     | (with_reducible refine awp_exit ?_; simp only [thenA, inBlockA, noGotoA, if_true, Nat.reduceEqDiff, if_false, ↓reduceIte])
     | (with_reducible refine awp_ret ?_; (try simp only [thenA, inBlockA, noGotoA]); (try simp [-List.reduceReplicate, Nat.add_one_le_iff, -getElem?_pos, -getElem?_neg, List.getElem?_cons_zero, List.getElem?_cons_succ, iC, hl32, htk]))
     | ((with_reducible first | refine awp_reg 37 hX [0, 2, 3, 4, 5, 6, 9, 18, 19, 20] ?_ | refine awp_drw 37 hX [0, 2, 3, 4, 5, 6, 9, 18, 19, 20] Tab.mixed (by kernel_rfl) ?_ | refine DEv_cut _ _ _ _ _ _ _ _ _ _ _ _ (by kernel_rfl) ?_ | change postOf _ _ _ _ _); simp [-List.reduceReplicate, Nat.add_one_le_iff, -getElem?_pos, -getElem?_neg, List.getElem?_cons_zero, List.getElem?_cons_succ, iC, hl32, htk])
     | (with_reducible refine awp_if_b rfl (fun hc => ?_) (fun hc => ?_) <;> (try simp [-getElem?_pos, -getElem?_neg] at hc) <;> (try (exfalso; omega)))
     | ((with_reducible first | refine GuardK_b (fun hc => ?_) (fun hc => ?_) | refine DGuard_b _ _ _ _ _ _ _ _ _ _ (fun hc => ?_) (fun hc => ?_)) <;> (try simp only [Bool.not_eq_true', Bool.not_eq_false', decide_eq_true_eq, decide_eq_false_iff_not] at hc) <;> (first | (exfalso; omega) | skip) <;> simp [-List.reduceReplicate, Nat.add_one_le_iff, -getElem?_pos, -getElem?_neg, List.getElem?_cons_zero, List.getElem?_cons_succ, iC, hl32, htk, hc])
     | ((with_reducible first | refine hother _ _ rfl ?_); simp only [inBlockA, thenA, noGotoA, Nat.reduceEqDiff, if_false, if_true, ↓reduceIte])
     | (with_reducible refine And.intro (by omega) ?_)
     | fail)
    rw [hout]
    rfl
end Go.Av

set_option exponentiation.threshold 1000
set_option linter.unusedVariables false
set_option linter.unusedSimpArgs false
set_option maxRecDepth 100000
set_option maxHeartbeats 4000000
namespace Go.Av
open Go Go.Proofs Go.Proofs.Ytofomnllcmgfeaa Go.RowKit
/-! ### sha: texts that come piece by piece -/
theorem ext_list (t : ByteArray) (a b : Nat) : (t.extract a b).data.toList = (t.data.toList.drop a).take (b - a) := by
  rw [ByteArray.data_extract, Array.toList_extract]
theorem app_list (a b : ByteArray) : (a ++ b).data.toList = a.data.toList ++ b.data.toList := by simp
theorem blk_list (t : ByteArray) (i : Nat) : (blk t i).data.toList = (t.data.toList.drop (64 * i)).take 64 := by
  unfold blk
  rw [ext_list, show 64 * i + 64 - 64 * i = 64 by omega]
def restOf (t : ByteArray) : ByteArray := t.extract (64 * (t.size / 64)) t.size
theorem rest_list (t : ByteArray) : (restOf t).data.toList = t.data.toList.drop (64 * (t.size / 64)) := by
  unfold restOf
  rw [ext_list]
  exact List.take_of_length_le (by rw [List.length_drop, ← size_list]; omega)
theorem rest_size (t : ByteArray) : (restOf t).size = t.size % 64 := by rw [size_list, rest_list, List.length_drop, ← size_list]; omega
theorem blk_rest (t b : ByteArray) (i : Nat) : blk (t ++ b) (t.size / 64 + i) = blk (restOf t ++ b) i := by
  apply ba_ext
  rw [blk_list, blk_list, app_list, app_list, rest_list, Nat.mul_add, ← List.drop_drop, List.drop_append_of_le_length (by rw [← size_list]; omega)]
theorem blocks_congr (s : S8) (t t' : ByteArray) (n : Nat) (h : ∀ i, i < n → blk t i = blk t' i) : blocksTo s t n = blocksTo s t' n := by
  induction n with
  | zero => rfl
  | succ n ih => simp only [blocksTo]; rw [ih fun i hi => h i (by omega), h n (by omega)]
theorem blk_left (t b : ByteArray) (i : Nat) (h : i < t.size / 64) : blk (t ++ b) i = blk t i := by
  apply ba_ext
  rw [blk_list, blk_list, app_list, List.drop_append_of_le_length (by rw [← size_list]; omega), List.take_append_of_le_length (by rw [List.length_drop, ← size_list]; omega)]
theorem blocks_app (s : S8) (t b : ByteArray) (j : Nat) : blocksTo (blocksTo s t (t.size / 64)) (restOf t ++ b) j = blocksTo s (t ++ b) (t.size / 64 + j) := by
  induction j with
  | zero => exact (blocks_congr s _ _ _ fun i hi => blk_left t b i hi).symm
  | succ j ih => simp only [blocksTo]; rw [ih, ← blk_rest]; rfl
theorem count_app (t b : ByteArray) : (t ++ b).size / 64 = t.size / 64 + (restOf t ++ b).size / 64 := by
  rw [ByteArray.size_append, ByteArray.size_append, rest_size]; omega
/-- A State that a text came to. -/
def stT (t : ByteArray) : Ob := stO (blocksTo firstS t (t.size / 64)) (restOf t) t.size true
def st0 : Ob := stO ⟨0, 0, 0, 0, 0, 0, 0, 0⟩ ⟨#[]⟩ 0 false
/-- The sum of a text. -/
def shaL (t : ByteArray) : List UInt8 := wBytes (blocksTo firstS (t ++ bsS (padL t.size)) ((t ++ bsS (padL t.size)).size / 64)).l
theorem empty_app (b : ByteArray) : (⟨#[]⟩ : ByteArray) ++ b = b := by apply ba_ext; simp
theorem write0_den (pre suf : List Ob) (b : ByteArray) (hb : b.size ≤ 1000000) :
    Den Try.prog 116 [.mp pre.length 0 0, .c (.v (.string b))] (pre ++ st0 :: suf) (fun r ob' => r = .tup [] ∧ ob' = pre ++ stT b :: suf) := by
  have h := write_den pre suf ⟨0, 0, 0, 0, 0, 0, 0, 0⟩ ⟨#[]⟩ 0 false b (by decide) hb (by omega)
  have hw : wS ⟨0, 0, 0, 0, 0, 0, 0, 0⟩ false = firstS := rfl
  have e2 : (0 + b.size) % 18446744073709551616 = b.size := by omega
  rw [hw, empty_app, e2] at h
  exact h
theorem sumT_den (ob : List Ob) (p : Nat) (t : ByteArray) (hget : ob[p]? = some (stT t)) (ht : t.size ≤ 800000) :
    Den Try.prog 117 [.mp p 0 0] ob (fun r ob' => r = hashM (shaL t) ∧ ob' = ob) := by
  have h := stateSum_den ob p _ _ _ _ hget (by rw [rest_size]; omega) (by omega)
  have e : sumS (blocksTo firstS t (t.size / 64)) (restOf t) t.size true = shaL t := by
    unfold sumS shaL
    have hw : wS (blocksTo firstS t (t.size / 64)) true = blocksTo firstS t (t.size / 64) := rfl
    rw [hw, blocks_app, ← count_app]
  rw [e] at h
  exact h
theorem sha_den (b : ByteArray) (hb : b.size ≤ 800000) : DenV Try.prog 103 [.c (.v (.string b))] (hashM (shaL b)) := by
  refine Den.frame rfl (lt_hash _ _) ?_
  obtain ⟨out, hout⟩ : ∃ out, out = shaL b := ⟨_, rfl⟩
  rw [← hout]
  refine den_of Try.func103 rfl rfl (by simp [Try.ntmps103]) (fun X hX hO => ?_)
  rw [Try.ntmps103] at hX
  simp only [Try.results103]
  have h1 := stateNew_den [⟨71, 1, false, 0, up (List.replicate 32 (C.v (Value.int IntKind.u8 0))), none⟩]
  have h2 := write0_den [⟨71, 1, false, 0, up (List.replicate 32 (C.v (Value.int IntKind.u8 0))), none⟩] [] b (by omega)
  have h3 := sumT_den [⟨71, 1, false, 0, up (List.replicate 32 (C.v (Value.int IntKind.u8 0))), none⟩, stT b] 1 b rfl hb
  rw [← hout] at h3
  have hl : out.length = 32 := by rw [hout]; exact wBytes_len _
  have htk : (out.map bC8).take 32 = out.map bC8 := List.take_of_length_le (by simp [hl])
  change Den Try.prog _ _ _ (fun r ob' => r = _ ∧ ob' = _ ++ [st0]) at h1
  simp [-List.reduceReplicate] at h1 h2
  repeat' (first 
   | (with_reducible first | refine awp_scope ?_ | refine awp_seq ?_ | refine awp_block ?_)
   | ((with_reducible first | refine awp_label ?_ | refine awp_skip ?_); try simp only [thenA, inBlockA, noGotoA])
   | (with_reducible refine awp_exit ?_; simp only [thenA, inBlockA, noGotoA, if_true, Nat.reduceEqDiff, if_false, ↓reduceIte])
   | (with_reducible refine awp_ret ?_; (try simp only [thenA, inBlockA, noGotoA]); (try simp [-List.reduceReplicate, Nat.add_one_le_iff, -getElem?_pos, -getElem?_neg, List.getElem?_cons_zero, List.getElem?_cons_succ, hashM, hl, htk]))
   | ((with_reducible first | refine awp_reg 10 hX [0, 2, 3] ?_ | change postOf _ _ _ _ _); simp [-List.reduceReplicate, Nat.add_one_le_iff, -getElem?_pos, -getElem?_neg, List.getElem?_cons_zero, List.getElem?_cons_succ, hashM, hl, htk])
   | ((first | (refine (h1).det ?_) | (refine (h2).det ?_) | (refine (h3).det ?_)); try simp [-List.reduceReplicate, Nat.add_one_le_iff, -getElem?_pos, -getElem?_neg, List.getElem?_cons_zero, List.getElem?_cons_succ, hashM, hl, htk])
   | (with_reducible refine awp_if_b rfl (fun hc => ?_) (fun hc => ?_) <;> (try simp [-getElem?_pos, -getElem?_neg] at hc) <;> (try (exfalso; omega)))
   | ((with_reducible first | refine GuardK_b (fun hc => ?_) (fun hc => ?_)) <;> (try simp only [Bool.not_eq_true', Bool.not_eq_false', decide_eq_true_eq, decide_eq_false_iff_not] at hc) <;> (first | (exfalso; omega) | skip) <;> simp [-List.reduceReplicate, Nat.add_one_le_iff, -getElem?_pos, -getElem?_neg, List.getElem?_cons_zero, List.getElem?_cons_succ, hashM, hl, htk, hc])
   | (with_reducible refine And.intro (by omega) ?_)
   | fail)
end Go.Av

set_option exponentiation.threshold 1000
set_option linter.unusedVariables false
set_option linter.unusedSimpArgs false
set_option maxRecDepth 100000
set_option maxHeartbeats 4000000
namespace Go.Av
open Go Go.Proofs Go.Proofs.Ytofomnllcmgfeaa Go.RowKit
/-! ### the document's sha -/
theorem zerosB_succ (i : Nat) : zerosB i ++ [0] = zerosB (i + 1) := by unfold zerosB; rw [List.replicate_succ']
theorem pad02_den (n : Nat) (hn : n < 18446744073709551616) : DenV Try.prog 108 [.c (u64C n)] (.c (.v (.string (bsS (padL n))))) := by
  refine Den.frame rfl rfl ?_
  refine den_of Try.func108 rfl rfl (by simp [Try.ntmps108]) (fun X hX hO => ?_)
  rw [Try.ntmps108] at hX
  simp only [Try.results108]
  have hp : padL n = 128 :: (zerosB ((119 - n % 64) % 64) ++ putN (8 * n % 18446744073709551616) 8) := rfl
  have h4 : IntKind.u64.wrap ((n : Int) * 8) = ((8 * n % 18446744073709551616 : Nat) : Int) := (modU64 _).trans (by omega)
  have hm8 : 8 * n % 18446744073709551616 < 18446744073709551616 := Nat.mod_lt _ (by omega)
  have hg : (119 - n % 64) % 64 < 64 := Nat.mod_lt _ (by omega)
  have ha : n % 64 < 64 := Nat.mod_lt _ (by omega)
  have h0 : ((n : Int)).tmod 64 = ((n % 64 : Nat) : Int) := rfl
  have hgap : ∀ i, i ≤ (119 - n % 64) % 64 → (i < (119 - n % 64) % 64 ↔ (n % 64 + (1 + i) + 8) % 64 ≠ 0) := fun i hi => by omega
  generalize n % 64 = a at *
  generalize (119 - a) % 64 = gap at *
  generalize 8 * n % 18446744073709551616 = m8 at *
  have z1 : bsS [UInt8.ofNat (128 % 256 : Int).toNat] = bsS (128 :: zerosB 0) := rfl
  have z2 : bsS [UInt8.ofNat (0 % 256 : Int).toNat] = bsS [0] := rfl
  repeat' (first 
   | (with_reducible first | refine awp_scope ?_ | refine awp_seq ?_ | refine awp_block ?_)
   | ((with_reducible first | refine awp_label ?_ | refine awp_skip ?_); try simp only [thenA, inBlockA, noGotoA])
   | (with_reducible refine awp_exit ?_; simp only [thenA, inBlockA, noGotoA, if_true, Nat.reduceEqDiff, if_false, ↓reduceIte])
   | (with_reducible refine awp_ret ?_; (try simp only [thenA, inBlockA, noGotoA]); (try simp [-List.reduceReplicate, Nat.add_one_le_iff, -getElem?_pos, -getElem?_neg, List.getElem?_cons_zero, List.getElem?_cons_succ, u64C, z1]))
   | ((with_reducible first | refine awp_reg 22 hX [0, 2, 3, 13] ?_ | change postOf _ _ _ _ _); simp [-List.reduceReplicate, Nat.add_one_le_iff, -getElem?_pos, -getElem?_neg, List.getElem?_cons_zero, List.getElem?_cons_succ, u64C, z1])
   | ((first | ((with_reducible refine Den.at_ (f := 111) ?_); refine (byte01_den 128 _).det ?_)); try simp [-List.reduceReplicate, Nat.add_one_le_iff, -getElem?_pos, -getElem?_neg, List.getElem?_cons_zero, List.getElem?_cons_succ, u64C, z1])
   | (with_reducible refine awp_if_b rfl (fun hc => ?_) (fun hc => ?_) <;> (try simp [-getElem?_pos, -getElem?_neg] at hc) <;> (try (exfalso; omega)))
   | ((with_reducible first | refine GuardK_b (fun hc => ?_) (fun hc => ?_)) <;> (try simp only [Bool.not_eq_true', Bool.not_eq_false', decide_eq_true_eq, decide_eq_false_iff_not] at hc) <;> (first | (exfalso; omega) | skip) <;> simp [-List.reduceReplicate, Nat.add_one_le_iff, -getElem?_pos, -getElem?_neg, List.getElem?_cons_zero, List.getElem?_cons_succ, u64C, z1, hc])
   | ((with_reducible first | refine hother _ _ rfl ?_); simp only [inBlockA, thenA, noGotoA, Nat.reduceEqDiff, if_false, if_true, ↓reduceIte])
   | (with_reducible refine And.intro (by omega) ?_)
   | fail)
  refine awp_forU [0, 3] (fun i (_u : Unit) => [(3, .c (.v (.string (bsS (128 :: zerosB i)))))]) (fun i (_u : Unit) => []) (fun i (_u : Unit) => True) (gap) (()) (by first | trivial | (simp; done) | omega | (intros; simp at *; done)) (by simp [-List.reduceReplicate, keep, z1, zerosB]) (by simp [-List.reduceReplicate, z1, zerosB]) ?_
  rintro i _u Q1 hi hH next hother
  conv => arg 5; arg 1; simp only [List.cons_append, List.nil_append, keep, get, Nat.reduceEqDiff, if_true, if_false, ↓reduceIte]
  have l1 : (zerosB i).length = i := by simp [zerosB]
  have w1 := wrapU64 ((i : Int) + 1) (by omega)
  have w2 := wrapU64 ((a : Int) + ((i : Int) + 1)) (by omega)
  have w3 := wrapU64 ((a : Int) + ((i : Int) + 1) + 8) (by omega)
  have hiff := hgap i hi
  by_cases hlt : i < gap
  · have hne : ¬ (((a : Int) + ((i : Int) + 1) + 8)).tmod 64 = 0 := by
      have := hiff.1 hlt
      rw [show ((a : Int) + ((i : Int) + 1) + 8).tmod 64 = (((a + (1 + i) + 8) % 64 : Nat) : Int) by rw [show (a : Int) + ((i : Int) + 1) + 8 = ((a + (1 + i) + 8 : Nat) : Int) by omega]; rfl]
      omega
    have hz := zerosB_succ i
    have c1 : i + 1 < 9223372036854775807 := by omega
    repeat' (first 
     | (with_reducible first | refine awp_scope ?_ | refine awp_seq ?_ | refine awp_block ?_)
     | ((with_reducible first | refine awp_label ?_ | refine awp_skip ?_); try simp only [thenA, inBlockA, noGotoA])
     | (with_reducible refine awp_exit ?_; simp only [thenA, inBlockA, noGotoA, if_true, Nat.reduceEqDiff, if_false, ↓reduceIte])
     | (with_reducible refine awp_ret ?_; (try simp only [thenA, inBlockA, noGotoA]); (try simp [-List.reduceReplicate, Nat.add_one_le_iff, -getElem?_pos, -getElem?_neg, List.getElem?_cons_zero, List.getElem?_cons_succ, u64C, h0, l1, w1, w2, w3, hne, z2, bs_append, bs_size, hz, c1]))
     | ((with_reducible first | refine awp_reg 22 hX [0, 2, 3, 13] ?_ | change postOf _ _ _ _ _); simp [-List.reduceReplicate, Nat.add_one_le_iff, -getElem?_pos, -getElem?_neg, List.getElem?_cons_zero, List.getElem?_cons_succ, u64C, h0, l1, w1, w2, w3, hne, z2, bs_append, bs_size, hz, c1])
     | ((first | ((with_reducible refine Den.at_ (f := 111) ?_); refine (byte01_den 0 _).det ?_)); try simp [-List.reduceReplicate, Nat.add_one_le_iff, -getElem?_pos, -getElem?_neg, List.getElem?_cons_zero, List.getElem?_cons_succ, u64C, h0, l1, w1, w2, w3, hne, z2, bs_append, bs_size, hz, c1])
     | (with_reducible refine awp_if_b rfl (fun hc => ?_) (fun hc => ?_) <;> (try simp [-getElem?_pos, -getElem?_neg] at hc) <;> (try (exfalso; omega)))
     | ((with_reducible first | refine GuardK_b (fun hc => ?_) (fun hc => ?_)) <;> (try simp only [Bool.not_eq_true', Bool.not_eq_false', decide_eq_true_eq, decide_eq_false_iff_not] at hc) <;> (first | (exfalso; omega) | skip) <;> simp [-List.reduceReplicate, Nat.add_one_le_iff, -getElem?_pos, -getElem?_neg, List.getElem?_cons_zero, List.getElem?_cons_succ, u64C, h0, l1, w1, w2, w3, hne, z2, bs_append, bs_size, hz, c1, hc])
     | ((with_reducible first | refine hother _ _ rfl ?_); simp only [inBlockA, thenA, noGotoA, Nat.reduceEqDiff, if_false, if_true, ↓reduceIte])
     | (with_reducible refine And.intro (by omega) ?_)
     | fail)
    refine next _ _ (()) (by omega) (by first | trivial | omega | assumption) (by simp [-List.reduceReplicate, keep, u64C]) (by simp [-List.reduceReplicate, u64C])
  · obtain rfl : i = gap := by omega
    have he : (((a : Int) + ((i : Int) + 1) + 8)).tmod 64 = 0 := by
      have : (a + (1 + i) + 8) % 64 = 0 := by
        by_cases h : (a + (1 + i) + 8) % 64 = 0
        · exact h
        · exact absurd (hiff.2 h) hlt
      rw [show ((a : Int) + ((i : Int) + 1) + 8).tmod 64 = (((a + (1 + i) + 8) % 64 : Nat) : Int) by rw [show (a : Int) + ((i : Int) + 1) + 8 = ((a + (1 + i) + 8 : Nat) : Int) by omega]; rfl]
      omega
    have l2 := putN_len m8 8
    have c2 : i + 1 + 7 < 9223372036854775807 := by omega
    repeat' (first 
     | (with_reducible first | refine awp_scope ?_ | refine awp_seq ?_ | refine awp_block ?_)
     | ((with_reducible first | refine awp_label ?_ | refine awp_skip ?_); try simp only [thenA, inBlockA, noGotoA])
     | (with_reducible refine awp_exit ?_; simp only [thenA, inBlockA, noGotoA, if_true, Nat.reduceEqDiff, if_false, ↓reduceIte])
     | (with_reducible refine awp_ret ?_; (try simp only [thenA, inBlockA, noGotoA]); (try simp [-List.reduceReplicate, Nat.add_one_le_iff, -getElem?_pos, -getElem?_neg, List.getElem?_cons_zero, List.getElem?_cons_succ, u64C, h0, l1, l2, w1, w2, w3, he, h4, bs_append, bs_size, c2, hp]))
     | ((with_reducible first | refine awp_reg 22 hX [0, 2, 3, 13] ?_ | change postOf _ _ _ _ _); simp [-List.reduceReplicate, Nat.add_one_le_iff, -getElem?_pos, -getElem?_neg, List.getElem?_cons_zero, List.getElem?_cons_succ, u64C, h0, l1, l2, w1, w2, w3, he, h4, bs_append, bs_size, c2, hp])
     | ((first | ((with_reducible refine Den.at_ (f := 110) ?_); refine (put01_den m8 8 hm8 (by omega) _).det ?_)); try simp [-List.reduceReplicate, Nat.add_one_le_iff, -getElem?_pos, -getElem?_neg, List.getElem?_cons_zero, List.getElem?_cons_succ, u64C, h0, l1, l2, w1, w2, w3, he, h4, bs_append, bs_size, c2, hp])
     | (with_reducible refine awp_if_b rfl (fun hc => ?_) (fun hc => ?_) <;> (try simp [-getElem?_pos, -getElem?_neg] at hc) <;> (try (exfalso; omega)))
     | ((with_reducible first | refine GuardK_b (fun hc => ?_) (fun hc => ?_)) <;> (try simp only [Bool.not_eq_true', Bool.not_eq_false', decide_eq_true_eq, decide_eq_false_iff_not] at hc) <;> (first | (exfalso; omega) | skip) <;> simp [-List.reduceReplicate, Nat.add_one_le_iff, -getElem?_pos, -getElem?_neg, List.getElem?_cons_zero, List.getElem?_cons_succ, u64C, h0, l1, l2, w1, w2, w3, he, h4, bs_append, bs_size, c2, hp, hc])
     | ((with_reducible first | refine hother _ _ rfl ?_); simp only [inBlockA, thenA, noGotoA, Nat.reduceEqDiff, if_false, if_true, ↓reduceIte])
     | (with_reducible refine And.intro (by omega) ?_)
     | fail)
/-- The sum as it is filled, byte by byte. -/
def outTo2 (l : List W) (j : Nat) (p : List UInt8) (q : Nat) : List C := (wBytes (l.take j) ++ p.take q).map bC8 ++ List.replicate (32 - 4 * j - q) (bC8 0)
theorem outTo2_zero (l : List W) (j : Nat) (p : List UInt8) : outTo2 l j p 0 = outTo l j := by simp [outTo2, outTo]
theorem outTo2_len (l : List W) (j q : Nat) (p : List UInt8) (h : j < 8) (hq : q ≤ 4) (hp : p.length = 4) (hl : l.length = 8) : (outTo2 l j p q).length = 32 := by
  simp [outTo2, wBytes_len, hl, hp]; omega
theorem outTo2_set (l : List W) (j q : Nat) (p : List UInt8) (c : UInt8) (h : j < 8) (hq : q < 4) (hp : p.length = 4) (hl : l.length = 8) (hc : p[q]? = some c) : (outTo2 l j p q).set (4 * j + q) (bC8 c) = outTo2 l j p (q + 1) := by
  have hw : (wBytes (l.take j)).length = 4 * j := by rw [wBytes_len, List.length_take]; omega
  unfold outTo2
  rw [show 32 - 4 * j - q = (32 - 4 * j - (q + 1)) + 1 by omega, List.replicate_succ, List.set_append_right _ _ (by simp [hw, hp]; omega), List.length_map, List.length_append, hw, List.length_take, hp, show 4 * j + q - (4 * j + min q 4) = 0 by omega, List.take_add_one, hc]
  simp
set_option maxHeartbeats 2000000 in
theorem sha02_den (b : ByteArray) (hb : b.size ≤ 800000) : DenV Try.prog 96 [.c (.v (.string b))] (hashM (shaL b)) := by
  refine Den.frame rfl (lt_hash _ _) ?_
  obtain ⟨out, hout⟩ : ∃ out, out = shaL b := ⟨_, rfl⟩
  rw [← hout]
  refine den_of Try.func96 rfl rfl (by simp [Try.ntmps96]) (fun X hX hO => ?_)
  rw [Try.ntmps96] at hX
  simp only [Try.results96]
  have hpl : (padL b.size).length = 9 + (119 - b.size % 64) % 64 := by simp [padL, zerosB, putN_len]; omega
  have hts : (b ++ bsS (padL b.size)).size = b.size + (9 + (119 - b.size % 64) % 64) := by rw [ByteArray.size_append, bs_size, hpl]
  have h1 := wrapU64 (b.size : Int) (by omega)
  have h2 : b.size + (9 + (119 - b.size % 64) % 64) ≤ 9223372036854775807 := by omega
  have hsz := bs_size (padL b.size)
  obtain ⟨t, ht⟩ : ∃ t, t = b ++ bsS (padL b.size) := ⟨_, rfl⟩
  unfold shaL at hout
  rw [← ht] at hout hts
  have hk64 : t.size = 64 * (t.size / 64) := by omega
  generalize hk : t.size / 64 = k at *
  obtain ⟨f0, hf0⟩ : ∃ f0, f0 = firstS := ⟨_, rfl⟩
  rw [← hf0] at hout
  have hfd := first02_den
  rw [← hf0] at hfd
  repeat' (first 
   | (with_reducible first | refine awp_scope ?_ | refine awp_seq ?_ | refine awp_block ?_)
   | ((with_reducible first | refine awp_label ?_ | refine awp_skip ?_); try simp only [thenA, inBlockA, noGotoA])
   | (with_reducible refine awp_exit ?_; simp only [thenA, inBlockA, noGotoA, if_true, Nat.reduceEqDiff, if_false, ↓reduceIte])
   | (with_reducible refine awp_ret ?_; (try simp only [thenA, inBlockA, noGotoA]); (try simp [-List.reduceReplicate, Nat.add_one_le_iff, -getElem?_pos, -getElem?_neg, List.getElem?_cons_zero, List.getElem?_cons_succ, u64C, s8M, S8.l, h1, hsz, hpl, h2, ← ht]))
   | ((with_reducible first | refine awp_reg 51 hX [0, 2, 3, 4, 5, 6, 7, 8, 19, 30, 39] ?_ | refine awp_drw 51 hX [0, 2, 3, 4, 5, 6, 7, 8, 19, 30, 39] Tab.mixed (by kernel_rfl) ?_ | refine DEv_cut _ _ _ _ _ _ _ _ _ _ _ _ (by kernel_rfl) ?_ | change postOf _ _ _ _ _); simp [-List.reduceReplicate, Nat.add_one_le_iff, -getElem?_pos, -getElem?_neg, List.getElem?_cons_zero, List.getElem?_cons_succ, u64C, s8M, S8.l, h1, hsz, hpl, h2, ← ht])
   | ((first | (refine (hfd _).det ?_) | (refine ⟨_, _, hfd _, fun _ => rfl, ?_⟩) | ((with_reducible refine Den.at_ (f := 108) ?_); refine (pad02_den b.size (by omega) _).det ?_) | ((with_reducible refine drawn_at (f := 108) ?_); refine ⟨_, _, pad02_den b.size (by omega) _, fun _ => rfl, ?_⟩)); try simp [-List.reduceReplicate, Nat.add_one_le_iff, -getElem?_pos, -getElem?_neg, List.getElem?_cons_zero, List.getElem?_cons_succ, u64C, s8M, S8.l, h1, hsz, hpl, h2, ← ht])
   | (with_reducible refine awp_if_b rfl (fun hc => ?_) (fun hc => ?_) <;> (try simp [-getElem?_pos, -getElem?_neg] at hc) <;> (try (exfalso; omega)))
   | ((with_reducible first | refine GuardK_b (fun hc => ?_) (fun hc => ?_) | refine DGuard_b _ _ _ _ _ _ _ _ _ _ (fun hc => ?_) (fun hc => ?_)) <;> (try simp only [Bool.not_eq_true', Bool.not_eq_false', decide_eq_true_eq, decide_eq_false_iff_not] at hc) <;> (first | (exfalso; omega) | skip) <;> simp [-List.reduceReplicate, Nat.add_one_le_iff, -getElem?_pos, -getElem?_neg, List.getElem?_cons_zero, List.getElem?_cons_succ, u64C, s8M, S8.l, h1, hsz, hpl, h2, ← ht, hc])
   | ((with_reducible first | refine hother _ _ rfl ?_ | refine hother2 _ _ rfl ?_); simp only [inBlockA, thenA, noGotoA, Nat.reduceEqDiff, if_false, if_true, ↓reduceIte])
   | (with_reducible refine And.intro (by omega) ?_)
   | fail)
  refine awp_forU [0, 2, 3, 4] (fun i (_u : Unit) => [(4, .c (iC (64 * i : Nat)))]) (fun i (_u : Unit) => [⟨71, 1, false, 0, up (List.replicate 32 (C.v (Value.int IntKind.u8 0))), none⟩, ⟨151, 1, false, 0, up ((blocksTo f0 t i).l.map wC), none⟩]) (fun i (_u : Unit) => True) (k) (()) (by first | trivial | (simp; done) | omega | (intros; simp at *; done)) (by simp [-List.reduceReplicate, keep, iC, blocksTo, S8.l]) (by simp [-List.reduceReplicate, iC, blocksTo, S8.l]) ?_
  rintro i _u Q1 hi hH next hother
  conv => arg 5; arg 1; simp only [List.cons_append, List.nil_append, keep, get, Nat.reduceEqDiff, if_true, if_false, ↓reduceIte]
  have hwi : IntKind.i64.wrap (64 * (i : Int) + 64) = 64 * (i : Int) + 64 := wrap_in _ (by omega)
  by_cases hlt : i < k
  · have hst : blocksTo f0 t (i + 1) = mix (blocksTo f0 t i) (blk t i) := rfl
    have c1 : 64 * (i : Int) < t.size := by omega
    have c2 : 64 * (i : Int) + 64 ≤ t.size := by omega
    have t1 : (64 * (i : Int)).toNat = 64 * i := by omega
    have t2 : (64 * (i : Int) + 64).toNat = 64 * i + 64 := by omega
    have c3 : 0 ≤ 64 * (i : Int) := by omega
    have c4 : 64 * (i : Int) ≤ 64 * (i : Int) + 64 := by omega
    have hbs : (blk t i).size ≤ 9223372036854775807 := by unfold blk; rw [ext_size _ _ _ (by omega) (by omega)]; omega
    have hbl : t.extract (64 * i) (64 * i + 64) = blk t i := rfl
    rw [hst] at next
    generalize blocksTo f0 t i = v at *
    have hx : 64 * (i : Int) + 64 = 64 * ((i : Int) + 1) := by omega
    repeat' (first 
     | (with_reducible first | refine awp_scope ?_ | refine awp_seq ?_ | refine awp_block ?_)
     | ((with_reducible first | refine awp_label ?_ | refine awp_skip ?_); try simp only [thenA, inBlockA, noGotoA])
     | (with_reducible refine awp_exit ?_; simp only [thenA, inBlockA, noGotoA, if_true, Nat.reduceEqDiff, if_false, ↓reduceIte])
     | (with_reducible refine awp_ret ?_; (try simp only [thenA, inBlockA, noGotoA]); (try simp [-List.reduceReplicate, Nat.add_one_le_iff, -getElem?_pos, -getElem?_neg, List.getElem?_cons_zero, List.getElem?_cons_succ, S8.l, s8M, iC, hwi, c1, c2, c3, c4, t1, t2, hbl]))
     | ((with_reducible first | refine awp_reg 51 hX [0, 2, 3, 4, 5, 6, 7, 8, 19, 30, 39] ?_ | refine awp_drw 51 hX [0, 2, 3, 4, 5, 6, 7, 8, 19, 30, 39] Tab.mixed (by kernel_rfl) ?_ | refine DEv_cut _ _ _ _ _ _ _ _ _ _ _ _ (by kernel_rfl) ?_ | change postOf _ _ _ _ _); simp [-List.reduceReplicate, Nat.add_one_le_iff, -getElem?_pos, -getElem?_neg, List.getElem?_cons_zero, List.getElem?_cons_succ, S8.l, s8M, iC, hwi, c1, c2, c3, c4, t1, t2, hbl])
     | ((first | ((with_reducible refine Den.at_ (f := 109) ?_); refine (mix02_den v (blk t i) hbs _).det ?_) | ((with_reducible refine drawn_at (f := 109) ?_); refine ⟨_, _, mix02_den v (blk t i) hbs _, fun _ => rfl, ?_⟩)); try simp [-List.reduceReplicate, Nat.add_one_le_iff, -getElem?_pos, -getElem?_neg, List.getElem?_cons_zero, List.getElem?_cons_succ, S8.l, s8M, iC, hwi, c1, c2, c3, c4, t1, t2, hbl])
     | (with_reducible refine awp_if_b rfl (fun hc => ?_) (fun hc => ?_) <;> (try simp [-getElem?_pos, -getElem?_neg] at hc) <;> (try (exfalso; omega)))
     | ((with_reducible first | refine GuardK_b (fun hc => ?_) (fun hc => ?_) | refine DGuard_b _ _ _ _ _ _ _ _ _ _ (fun hc => ?_) (fun hc => ?_)) <;> (try simp only [Bool.not_eq_true', Bool.not_eq_false', decide_eq_true_eq, decide_eq_false_iff_not] at hc) <;> (first | (exfalso; omega) | skip) <;> simp [-List.reduceReplicate, Nat.add_one_le_iff, -getElem?_pos, -getElem?_neg, List.getElem?_cons_zero, List.getElem?_cons_succ, S8.l, s8M, iC, hwi, c1, c2, c3, c4, t1, t2, hbl, hc])
     | ((with_reducible first | refine hother _ _ rfl ?_ | refine hother2 _ _ rfl ?_); simp only [inBlockA, thenA, noGotoA, Nat.reduceEqDiff, if_false, if_true, ↓reduceIte])
     | (with_reducible refine And.intro (by omega) ?_)
     | fail)
    refine next _ _ (()) (by omega) (by first | trivial | omega | assumption) (by simp [-List.reduceReplicate, keep, iC, hx, S8.l]) (by simp [-List.reduceReplicate, iC, hx, S8.l])
  · obtain rfl : i = k := by omega
    have c1 : ¬ 64 * (i : Int) < t.size := by omega
    generalize blocksTo f0 t i = v at *
    clear next
    repeat' (first 
     | (with_reducible first | refine awp_scope ?_ | refine awp_seq ?_ | refine awp_block ?_)
     | ((with_reducible first | refine awp_label ?_ | refine awp_skip ?_); try simp only [thenA, inBlockA, noGotoA])
     | (with_reducible refine awp_exit ?_; simp only [thenA, inBlockA, noGotoA, if_true, Nat.reduceEqDiff, if_false, ↓reduceIte])
     | (with_reducible refine awp_ret ?_; (try simp only [thenA, inBlockA, noGotoA]); (try simp [-List.reduceReplicate, Nat.add_one_le_iff, -getElem?_pos, -getElem?_neg, List.getElem?_cons_zero, List.getElem?_cons_succ, S8.l, iC, c1]))
     | ((with_reducible first | refine awp_reg 51 hX [0, 2, 3, 4, 5, 6, 7, 8, 19, 30, 39] ?_ | refine awp_drw 51 hX [0, 2, 3, 4, 5, 6, 7, 8, 19, 30, 39] Tab.mixed (by kernel_rfl) ?_ | refine DEv_cut _ _ _ _ _ _ _ _ _ _ _ _ (by kernel_rfl) ?_ | change postOf _ _ _ _ _); simp [-List.reduceReplicate, Nat.add_one_le_iff, -getElem?_pos, -getElem?_neg, List.getElem?_cons_zero, List.getElem?_cons_succ, S8.l, iC, c1])
     | (with_reducible refine awp_if_b rfl (fun hc => ?_) (fun hc => ?_) <;> (try simp [-getElem?_pos, -getElem?_neg] at hc) <;> (try (exfalso; omega)))
     | ((with_reducible first | refine GuardK_b (fun hc => ?_) (fun hc => ?_) | refine DGuard_b _ _ _ _ _ _ _ _ _ _ (fun hc => ?_) (fun hc => ?_)) <;> (try simp only [Bool.not_eq_true', Bool.not_eq_false', decide_eq_true_eq, decide_eq_false_iff_not] at hc) <;> (first | (exfalso; omega) | skip) <;> simp [-List.reduceReplicate, Nat.add_one_le_iff, -getElem?_pos, -getElem?_neg, List.getElem?_cons_zero, List.getElem?_cons_succ, S8.l, iC, c1, hc])
     | ((with_reducible first | refine hother _ _ rfl ?_ | refine hother2 _ _ rfl ?_); simp only [inBlockA, thenA, noGotoA, Nat.reduceEqDiff, if_false, if_true, ↓reduceIte])
     | (with_reducible refine And.intro (by omega) ?_)
     | fail)
    refine awp_forU [2, 3, 5, 6] (fun j (_u : Unit) => [(6, .c (iC j))]) (fun j (_u : Unit) => [⟨71, 1, false, 0, up (List.replicate 32 (C.v (Value.int IntKind.u8 0))), none⟩, ⟨151, 1, false, 0, up (v.l.map wC), none⟩, ⟨71, 1, false, 0, up (outTo v.l j), none⟩]) (fun j (_u : Unit) => True) (8) (()) (by first | trivial | (simp; done) | omega | (intros; simp at *; done)) (by simp [-List.reduceReplicate, keep, iC, S8.l, outTo, wBytes, bC8]) (by simp [-List.reduceReplicate, iC, S8.l, outTo, wBytes, bC8]) ?_
    rintro j _u Q1 hi hH next hother
    conv => arg 5; arg 1; simp only [List.cons_append, List.nil_append, keep, get, Nat.reduceEqDiff, if_true, if_false, ↓reduceIte]
    have hwj := wrap_in ((j : Int) + 1) (by omega)
    have hol := outTo_len v.l j (by show j ≤ 8; omega) rfl
    by_cases hlj : j < 8
    · have hv : [wC v.a, wC v.b, wC v.c, wC v.d, wC v.e, wC v.f, wC v.g, wC v.h][j]? = some (wC (v.l.getD j 0)) := ws_get v.l j 8 hlj rfl
      have h8 : (j : Int) < 8 := by omega
      have ht1 : v.l.take (j + 1) = v.l.take j ++ [v.l.getD j 0] := by
        rw [List.take_add_one, List.getElem?_eq_getElem (by show j < 8; omega), List.getD_eq_getElem?_getD, List.getElem?_eq_getElem (by show j < 8; omega)]
        rfl
      have hq : ∀ q, q ≤ 4 → outTo2 v.l j (putN (v.l.getD j 0).toNat 4) 4 = outTo v.l (j + 1) := fun q _ => by
        unfold outTo2 outTo
        rw [ht1, wBytes_app, List.take_of_length_le (l := putN (v.l.getD j 0).toNat 4) (by rw [putN_len]; omega), show 32 - 4 * j - 4 = 32 - 4 * (j + 1) by omega]
        simp [wBytes]
      have hq4 := hq 4 (by omega)
      have hxl := (v.l.getD j 0).isLt
      have hpl := putN_len (v.l.getD j 0).toNat 4
      have hbz := bs_size (putN (v.l.getD j 0).toNat 4)
      have hz := outTo2_zero v.l j (putN (v.l.getD j 0).toNat 4)
      generalize v.l.getD j 0 = x at *
      have hm := wrapU64 (x.toNat : Int) (by omega)
      have hwx : wI x = (x.toNat : Int) := rfl
      simp only [wC] at hv
      have next0 := next
      have hother2 := hother
      clear next hother
      repeat' (first 
       | (with_reducible first | refine awp_scope ?_ | refine awp_seq ?_ | refine awp_block ?_)
       | ((with_reducible first | refine awp_label ?_ | refine awp_skip ?_); try simp only [thenA, inBlockA, noGotoA])
       | (with_reducible refine awp_exit ?_; simp only [thenA, inBlockA, noGotoA, if_true, Nat.reduceEqDiff, if_false, ↓reduceIte])
       | (with_reducible refine awp_ret ?_; (try simp only [thenA, inBlockA, noGotoA]); (try simp [-List.reduceReplicate, Nat.add_one_le_iff, -getElem?_pos, -getElem?_neg, List.getElem?_cons_zero, List.getElem?_cons_succ, S8.l, iC, hlj, h8, hv, hm, wC, hwx, u64C]))
       | ((with_reducible first | refine awp_reg 51 hX [0, 2, 3, 4, 5, 6, 7, 8, 19, 30, 39] ?_ | refine awp_drw 51 hX [0, 2, 3, 4, 5, 6, 7, 8, 19, 30, 39] Tab.mixed (by kernel_rfl) ?_ | refine DEv_cut _ _ _ _ _ _ _ _ _ _ _ _ (by kernel_rfl) ?_ | change postOf _ _ _ _ _); simp [-List.reduceReplicate, Nat.add_one_le_iff, -getElem?_pos, -getElem?_neg, List.getElem?_cons_zero, List.getElem?_cons_succ, S8.l, iC, hlj, h8, hv, hm, wC, hwx, u64C])
       | ((first | ((with_reducible refine Den.at_ (f := 110) ?_); refine (put01_den x.toNat 4 (by omega) (by omega) _).det ?_) | ((with_reducible refine drawn_at (f := 110) ?_); refine ⟨_, _, put01_den x.toNat 4 (by omega) (by omega) _, fun _ => rfl, ?_⟩)); try simp [-List.reduceReplicate, Nat.add_one_le_iff, -getElem?_pos, -getElem?_neg, List.getElem?_cons_zero, List.getElem?_cons_succ, S8.l, iC, hlj, h8, hv, hm, wC, hwx, u64C])
       | (with_reducible refine awp_if_b rfl (fun hc => ?_) (fun hc => ?_) <;> (try simp [-getElem?_pos, -getElem?_neg] at hc) <;> (try (exfalso; omega)))
       | ((with_reducible first | refine GuardK_b (fun hc => ?_) (fun hc => ?_) | refine DGuard_b _ _ _ _ _ _ _ _ _ _ (fun hc => ?_) (fun hc => ?_)) <;> (try simp only [Bool.not_eq_true', Bool.not_eq_false', decide_eq_true_eq, decide_eq_false_iff_not] at hc) <;> (first | (exfalso; omega) | skip) <;> simp [-List.reduceReplicate, Nat.add_one_le_iff, -getElem?_pos, -getElem?_neg, List.getElem?_cons_zero, List.getElem?_cons_succ, S8.l, iC, hlj, h8, hv, hm, wC, hwx, u64C, hc])
       | ((with_reducible first | refine hother _ _ rfl ?_ | refine hother2 _ _ rfl ?_); simp only [inBlockA, thenA, noGotoA, Nat.reduceEqDiff, if_false, if_true, ↓reduceIte])
       | (with_reducible refine And.intro (by omega) ?_)
       | fail)
      refine awp_forU [2, 3, 5, 6, 7, 8] (fun q (_u : Unit) => [(8, .c (iC q))]) (fun q (_u : Unit) => [⟨71, 1, false, 0, up (List.replicate 32 (C.v (Value.int IntKind.u8 0))), none⟩, ⟨151, 1, false, 0, up (v.l.map wC), none⟩, ⟨71, 1, false, 0, up (outTo2 v.l j (putN x.toNat 4) q), none⟩]) (fun q (_u : Unit) => True) (4) (()) (by first | trivial | (simp; done) | omega | (intros; simp at *; done)) (by simp [-List.reduceReplicate, keep, iC, S8.l, wC, outTo2_zero]) (by simp [-List.reduceReplicate, iC, S8.l, wC, outTo2_zero]) ?_
      rintro q _u Q1 hi hH next hother
      conv => arg 5; arg 1; simp only [List.cons_append, List.nil_append, keep, get, Nat.reduceEqDiff, if_true, if_false, ↓reduceIte]
      have hwq := wrap_in ((q : Int) + 1) (by omega)
      have w4 : IntKind.i64.wrap (4 * (j : Int)) = 4 * (j : Int) := wrap_in _ (by omega)
      have w5 : IntKind.i64.wrap (4 * (j : Int) + (q : Int)) = 4 * (j : Int) + (q : Int) := wrap_in _ (by omega)
      have ho2 := outTo2_len v.l j q (putN x.toNat 4) hlj (by omega) hpl rfl
      by_cases hlq : q < 4
      · obtain ⟨c, hc⟩ := getI (putN x.toNat 4) (q : Nat) (by omega) (by omega)
        simp only [Int.toNat_natCast] at hc
        have hset := outTo2_set v.l j q (putN x.toNat 4) c hlj hlq hpl rfl hc
        have hby : byteAt (bsS (putN x.toNat 4)) q = (c.toNat : Int) := by unfold byteAt; rw [bs_toList, List.getD_eq_getElem?_getD, hc]; rfl
        have d1 : (4 * (j : Int) + (q : Int)).toNat = 4 * j + q := by omega
        have d2 : 0 ≤ 4 * (j : Int) + (q : Int) := by omega
        have d3 : 4 * (j : Int) + (q : Int) < 32 := by omega
        have d4 : 4 * j + q < 32 := by omega
        have d5 : (q : Int) < 4 := by omega
        have hbc : C.v (.int .u8 (c.toNat : Int)) = bC8 c := rfl
        rw [← hbc] at hset
        generalize outTo2 v.l j (putN x.toNat 4) q = r0 at *
        repeat' (first 
         | (with_reducible first | refine awp_scope ?_ | refine awp_seq ?_ | refine awp_block ?_)
         | ((with_reducible first | refine awp_label ?_ | refine awp_skip ?_); try simp only [thenA, inBlockA, noGotoA])
         | (with_reducible refine awp_exit ?_; simp only [thenA, inBlockA, noGotoA, if_true, Nat.reduceEqDiff, if_false, ↓reduceIte])
         | (with_reducible refine awp_ret ?_; (try simp only [thenA, inBlockA, noGotoA]); (try simp [-List.reduceReplicate, Nat.add_one_le_iff, -getElem?_pos, -getElem?_neg, List.getElem?_cons_zero, List.getElem?_cons_succ, S8.l, iC, hlq, hwq, w4, w5, hby, hbz, hpl, d1, d2, d3, d4, d5, ho2]))
         | ((with_reducible first | refine awp_reg 51 hX [0, 2, 3, 4, 5, 6, 7, 8, 19, 30, 39] ?_ | refine awp_drw 51 hX [0, 2, 3, 4, 5, 6, 7, 8, 19, 30, 39] Tab.mixed (by kernel_rfl) ?_ | refine DEv_cut _ _ _ _ _ _ _ _ _ _ _ _ (by kernel_rfl) ?_ | change postOf _ _ _ _ _); simp [-List.reduceReplicate, Nat.add_one_le_iff, -getElem?_pos, -getElem?_neg, List.getElem?_cons_zero, List.getElem?_cons_succ, S8.l, iC, hlq, hwq, w4, w5, hby, hbz, hpl, d1, d2, d3, d4, d5, ho2])
         | (with_reducible refine awp_if_b rfl (fun hc => ?_) (fun hc => ?_) <;> (try simp [-getElem?_pos, -getElem?_neg] at hc) <;> (try (exfalso; omega)))
         | ((with_reducible first | refine GuardK_b (fun hc => ?_) (fun hc => ?_) | refine DGuard_b _ _ _ _ _ _ _ _ _ _ (fun hc => ?_) (fun hc => ?_)) <;> (try simp only [Bool.not_eq_true', Bool.not_eq_false', decide_eq_true_eq, decide_eq_false_iff_not] at hc) <;> (first | (exfalso; omega) | skip) <;> simp [-List.reduceReplicate, Nat.add_one_le_iff, -getElem?_pos, -getElem?_neg, List.getElem?_cons_zero, List.getElem?_cons_succ, S8.l, iC, hlq, hwq, w4, w5, hby, hbz, hpl, d1, d2, d3, d4, d5, ho2, hc])
         | ((with_reducible first | refine hother _ _ rfl ?_ | refine hother2 _ _ rfl ?_); simp only [inBlockA, thenA, noGotoA, Nat.reduceEqDiff, if_false, if_true, ↓reduceIte])
         | (with_reducible refine And.intro (by omega) ?_)
         | fail)
        simp only [S8.l] at hset
        refine next _ _ (()) (by omega) (by first | trivial | omega | assumption) (by simp [-List.reduceReplicate, keep, iC, ← hset, S8.l]) (by simp [-List.reduceReplicate, iC, ← hset, S8.l])
      · obtain rfl : q = 4 := by omega
        rw [hq4]
        clear next
        repeat' (first 
         | (with_reducible first | refine awp_scope ?_ | refine awp_seq ?_ | refine awp_block ?_)
         | ((with_reducible first | refine awp_label ?_ | refine awp_skip ?_); try simp only [thenA, inBlockA, noGotoA])
         | (with_reducible refine awp_exit ?_; simp only [thenA, inBlockA, noGotoA, if_true, Nat.reduceEqDiff, if_false, ↓reduceIte])
         | (with_reducible refine awp_ret ?_; (try simp only [thenA, inBlockA, noGotoA]); (try simp [-List.reduceReplicate, Nat.add_one_le_iff, -getElem?_pos, -getElem?_neg, List.getElem?_cons_zero, List.getElem?_cons_succ, S8.l, iC, hwj]))
         | ((with_reducible first | refine awp_reg 51 hX [0, 2, 3, 4, 5, 6, 7, 8, 19, 30, 39] ?_ | refine awp_drw 51 hX [0, 2, 3, 4, 5, 6, 7, 8, 19, 30, 39] Tab.mixed (by kernel_rfl) ?_ | refine DEv_cut _ _ _ _ _ _ _ _ _ _ _ _ (by kernel_rfl) ?_ | change postOf _ _ _ _ _); simp [-List.reduceReplicate, Nat.add_one_le_iff, -getElem?_pos, -getElem?_neg, List.getElem?_cons_zero, List.getElem?_cons_succ, S8.l, iC, hwj])
         | (with_reducible refine awp_if_b rfl (fun hc => ?_) (fun hc => ?_) <;> (try simp [-getElem?_pos, -getElem?_neg] at hc) <;> (try (exfalso; omega)))
         | ((with_reducible first | refine GuardK_b (fun hc => ?_) (fun hc => ?_) | refine DGuard_b _ _ _ _ _ _ _ _ _ _ (fun hc => ?_) (fun hc => ?_)) <;> (try simp only [Bool.not_eq_true', Bool.not_eq_false', decide_eq_true_eq, decide_eq_false_iff_not] at hc) <;> (first | (exfalso; omega) | skip) <;> simp [-List.reduceReplicate, Nat.add_one_le_iff, -getElem?_pos, -getElem?_neg, List.getElem?_cons_zero, List.getElem?_cons_succ, S8.l, iC, hwj, hc])
         | ((with_reducible first | refine hother _ _ rfl ?_ | refine hother2 _ _ rfl ?_); simp only [inBlockA, thenA, noGotoA, Nat.reduceEqDiff, if_false, if_true, ↓reduceIte])
         | (with_reducible refine And.intro (by omega) ?_)
         | fail)
        refine next0 _ _ (()) (by omega) (by first | trivial | omega | assumption) (by simp [-List.reduceReplicate, keep, iC, S8.l]) (by simp [-List.reduceReplicate, iC, S8.l])
    · obtain rfl : j = 8 := by omega
      have hfin : outTo v.l 8 = (wBytes v.l).map bC8 := by
        unfold outTo
        rw [List.take_of_length_le (by show 8 ≤ 8; omega)]
        simp
      have hl32 : (wBytes v.l).length = 32 := wBytes_len v.l
      have htk : ((wBytes v.l).map bC8).take 32 = (wBytes v.l).map bC8 := List.take_of_length_le (by simp [hl32])
      rw [hfin]
      repeat' (first 
       | (with_reducible first | refine awp_scope ?_ | refine awp_seq ?_ | refine awp_block ?_)
       | ((with_reducible first | refine awp_label ?_ | refine awp_skip ?_); try simp only [thenA, inBlockA, noGotoA])
       | (with_reducible refine awp_exit ?_; simp only [thenA, inBlockA, noGotoA, if_true, Nat.reduceEqDiff, if_false, ↓reduceIte])
       | (with_reducible refine awp_ret ?_; (try simp only [thenA, inBlockA, noGotoA]); (try simp [-List.reduceReplicate, Nat.add_one_le_iff, -getElem?_pos, -getElem?_neg, List.getElem?_cons_zero, List.getElem?_cons_succ, iC, hl32, htk]))
       | ((with_reducible first | refine awp_reg 51 hX [0, 2, 3, 4, 5, 6, 7, 8, 19, 30, 39] ?_ | refine awp_drw 51 hX [0, 2, 3, 4, 5, 6, 7, 8, 19, 30, 39] Tab.mixed (by kernel_rfl) ?_ | refine DEv_cut _ _ _ _ _ _ _ _ _ _ _ _ (by kernel_rfl) ?_ | change postOf _ _ _ _ _); simp [-List.reduceReplicate, Nat.add_one_le_iff, -getElem?_pos, -getElem?_neg, List.getElem?_cons_zero, List.getElem?_cons_succ, iC, hl32, htk])
       | (with_reducible refine awp_if_b rfl (fun hc => ?_) (fun hc => ?_) <;> (try simp [-getElem?_pos, -getElem?_neg] at hc) <;> (try (exfalso; omega)))
       | ((with_reducible first | refine GuardK_b (fun hc => ?_) (fun hc => ?_) | refine DGuard_b _ _ _ _ _ _ _ _ _ _ (fun hc => ?_) (fun hc => ?_)) <;> (try simp only [Bool.not_eq_true', Bool.not_eq_false', decide_eq_true_eq, decide_eq_false_iff_not] at hc) <;> (first | (exfalso; omega) | skip) <;> simp [-List.reduceReplicate, Nat.add_one_le_iff, -getElem?_pos, -getElem?_neg, List.getElem?_cons_zero, List.getElem?_cons_succ, iC, hl32, htk, hc])
       | ((with_reducible first | refine hother _ _ rfl ?_ | refine hother2 _ _ rfl ?_); simp only [inBlockA, thenA, noGotoA, Nat.reduceEqDiff, if_false, if_true, ↓reduceIte])
       | (with_reducible refine And.intro (by omega) ?_)
       | fail)
      rw [hout]
      rfl
end Go.Av

set_option exponentiation.threshold 1000
set_option linter.unusedVariables false
set_option linter.unusedSimpArgs false
set_option maxRecDepth 100000
set_option maxHeartbeats 4000000
namespace Go.Av
open Go Go.Proofs Go.Proofs.Ytofomnllcmgfeaa Go.RowKit
theorem shaL_len (t : ByteArray) : (shaL t).length = 32 := wBytes_len _
def primes8 : List Nat := [2, 3, 5, 7, 11, 13, 17, 19]
end Go.Av

set_option exponentiation.threshold 1000
set_option linter.unusedVariables false
set_option linter.unusedSimpArgs false
set_option maxRecDepth 100000
set_option maxHeartbeats 4000000
namespace Go.Av
open Go Go.Proofs Go.Proofs.Ytofomnllcmgfeaa Go.RowKit
end Go.Av

set_option exponentiation.threshold 1000
set_option linter.unusedVariables false
set_option linter.unusedSimpArgs false
set_option maxRecDepth 100000
set_option maxHeartbeats 4000000
namespace Go.Av
open Go Go.Proofs Go.Proofs.Ytofomnllcmgfeaa Go.RowKit
/-! ### tag: sums -/
theorem headerSum_den (s : ByteArray) (hs : s.size ≤ 2000) : DenV Try.prog 91 [.c (.v (.string s))] (hashM (shaL (bsS (headT s)))) := by
  have h1 : (bsS (headT s)).size = s.size + 1 := by rw [bs_size]; simp [headT]
  have h := sha_den (bsS (headT s)) (by omega)
  have ht := headerText_den s (by omega)
  have hl := shaL_len (bsS (headT s))
  generalize shaL (bsS (headT s)) = x at *
  generalize bsS (headT s) = y at *
  refine Den.frame rfl (lt_hash _ _) ?_
  refine den_of Try.func91 rfl rfl (by simp [Try.ntmps91]) (fun X hX hO => ?_)
  rw [Try.ntmps91] at hX
  simp only [Try.results91]
  have t1 := hash_take x hl
  repeat' (first 
   | (with_reducible first | refine awp_scope ?_ | refine awp_seq ?_ | refine awp_block ?_)
   | ((with_reducible first | refine awp_label ?_ | refine awp_skip ?_); try simp only [thenA, inBlockA, noGotoA])
   | (with_reducible refine awp_exit ?_; simp only [thenA, inBlockA, noGotoA, if_true, Nat.reduceEqDiff, if_false, ↓reduceIte])
   | (with_reducible refine awp_ret ?_; (try simp only [thenA, inBlockA, noGotoA]); (try simp [-List.reduceReplicate, Nat.add_one_le_iff, -getElem?_pos, -getElem?_neg, List.getElem?_cons_zero, List.getElem?_cons_succ, hashM, hl, t1]))
   | ((with_reducible first | refine awp_reg 6 hX [0, 2] ?_ | change postOf _ _ _ _ _); simp [-List.reduceReplicate, Nat.add_one_le_iff, -getElem?_pos, -getElem?_neg, List.getElem?_cons_zero, List.getElem?_cons_succ, hashM, hl, t1])
   | ((first | (refine (ht _).det ?_) | (refine (h _).det ?_)); try simp [-List.reduceReplicate, Nat.add_one_le_iff, -getElem?_pos, -getElem?_neg, List.getElem?_cons_zero, List.getElem?_cons_succ, hashM, hl, t1])
   | (with_reducible refine awp_if_b rfl (fun hc => ?_) (fun hc => ?_) <;> (try simp [-getElem?_pos, -getElem?_neg] at hc) <;> (try (exfalso; omega)))
   | ((with_reducible first | refine GuardK_b (fun hc => ?_) (fun hc => ?_)) <;> (try simp only [Bool.not_eq_true', Bool.not_eq_false', decide_eq_true_eq, decide_eq_false_iff_not] at hc) <;> (first | (exfalso; omega) | skip) <;> simp [-List.reduceReplicate, Nat.add_one_le_iff, -getElem?_pos, -getElem?_neg, List.getElem?_cons_zero, List.getElem?_cons_succ, hashM, hl, t1, hc])
   | (with_reducible refine And.intro (by omega) ?_)
   | fail)
end Go.Av

set_option exponentiation.threshold 1000
set_option linter.unusedVariables false
set_option linter.unusedSimpArgs false
set_option maxRecDepth 100000
set_option maxHeartbeats 4000000
namespace Go.Av
open Go Go.Proofs Go.Proofs.Ytofomnllcmgfeaa Go.RowKit
theorem data_inj (a b : ByteArray) : a.data.toList = b.data.toList ↔ a = b := ⟨ba_ext, fun h => by rw [h]⟩
def textAt (s : ByteArray) (a b : List UInt8) (n : Nat) : List (List UInt8) := [leafT s, nodeT a b, rootT n a, headT s]
def sameAt (s t : ByteArray) (a b c d : List UInt8) (n m : Nat) : List Bool := [decide (s = t), decide (a = c) && decide (b = d), decide (n = m) && decide (a = c), decide (s = t)]
theorem toList_inj (x y : ByteArray) : x.toList = y.toList ↔ x = y := by rw [toList_data, toList_data]; exact data_inj x y
end Go.Av

set_option exponentiation.threshold 1000
set_option linter.unusedVariables false
set_option linter.unusedSimpArgs false
set_option maxRecDepth 100000
set_option maxHeartbeats 4000000
namespace Go.Av
open Go Go.Proofs Go.Proofs.Ytofomnllcmgfeaa Go.RowKit
/-! ### headers -/
structure HD where
  v : Nat
  a : H32
  b : H32
  n : Nat
def u32v (n : Nat) : C := .v (.int .u32 (n : Int))
def hdC (h : HD) : List C := u32v h.v :: (h.a.1.map bC8 ++ (h.b.1.map bC8 ++ [u64C h.n]))
def HDok (h : HD) : Prop := h.v < 4294967296 ∧ h.n < 18446744073709551616
def hdL (h : HD) : List UInt8 := putN h.v 4 ++ (h.a.1 ++ (h.b.1 ++ putN h.n 8))
def hdM (h : HD) : M := .agg (up (hdC h))
theorem hdC_len (h : HD) : (hdC h).length = 66 := by simp [hdC, h.a.2, h.b.2]
theorem hdL_len (h : HD) : (hdL h).length = 76 := by simp [hdL, h.a.2, h.b.2, putN_len]
theorem hdC_0 (h : HD) : (hdC h)[0]? = some (u32v h.v) := rfl
theorem hdC_1 (h : HD) : ((hdC h).drop 1).take 32 = h.a.1.map bC8 := by
  simp only [hdC, List.drop_succ_cons, List.drop_zero]
  rw [List.take_append_of_le_length (by simp [h.a.2]), List.take_of_length_le (by simp [h.a.2])]
theorem hdC_33 (h : HD) : ((hdC h).drop 33).take 32 = h.b.1.map bC8 := by
  simp only [hdC, List.drop_succ_cons, List.drop_zero]
  rw [List.drop_append_of_le_length (by simp [h.a.2]), List.drop_of_length_le (by simp [h.a.2]), List.nil_append, List.take_append_of_le_length (by simp [h.b.2]), List.take_of_length_le (by simp [h.b.2])]
theorem hdC_65 (h : HD) : (hdC h)[65]? = some (u64C h.n) := by
  simp only [hdC, List.getElem?_cons_succ]
  rw [List.getElem?_append_right (by simp [h.a.2]), List.getElem?_append_right (by simp [h.a.2, h.b.2])]
  simp [h.a.2, h.b.2]
theorem hdC_66 (h : HD) : (hdC h).take 66 = hdC h := List.take_of_length_le (by rw [hdC_len]; exact Nat.le_refl _)
theorem hdC_up1 (h : HD) : List.take 32 (up (hdC h)).tail = up (h.a.1.map bC8) := by
  have := hdC_1 h
  simp only [List.drop_one] at this
  simp only [up, ← List.map_tail, ← List.map_take]
  rw [this]
theorem headBytes_den (h : HD) (hok : HDok h) : DenV Try.prog 92 [hdM h] (.c (.v (.string (bsS (hdL h))))) := by
  refine Den.frame (by simp [ltBs, ltB, hdM, ltBs_up]) rfl ?_
  have c0 := hdC_0 h
  have c1 := hdC_1 h
  have c1' := hdC_up1 h
  have c2 := hdC_33 h
  have c3 := hdC_65 h
  have c4 := hdC_len h
  have c5 := hdC_66 h
  have l4 := putN_len h.v 4
  have l8 := putN_len h.n 8
  have b1 := bytesM_b8 h.a.1
  have b2 := bytesM_b8 h.b.1
  have la := h.a.2
  have lb := h.b.2
  have p1 := put32_den h.v hok.1
  have p2 := put64_den h.n hok.2
  unfold hdM hdL
  generalize hdC h = hd at *
  refine den_of Try.func92 rfl rfl (by simp [Try.ntmps92]) (fun X hX hO => ?_)
  rw [Try.ntmps92] at hX
  simp only [Try.results92]
  repeat' (first 
   | (with_reducible first | refine awp_scope ?_ | refine awp_seq ?_ | refine awp_block ?_)
   | ((with_reducible first | refine awp_label ?_ | refine awp_skip ?_); try simp only [thenA, inBlockA, noGotoA])
   | (with_reducible refine awp_exit ?_; simp only [thenA, inBlockA, noGotoA, if_true, Nat.reduceEqDiff, if_false, ↓reduceIte])
   | (with_reducible refine awp_ret ?_; (try simp only [thenA, inBlockA, noGotoA]); (try simp [-List.reduceReplicate, Nat.add_one_le_iff, -getElem?_pos, -getElem?_neg, List.getElem?_cons_zero, List.getElem?_cons_succ, c0, c1, c1', c2, c3, c4, c5, u32v, u64C, b1, b2, la, lb, l4, l8, bs_append, bs_size, of_list]))
   | ((with_reducible first | refine awp_reg 18 hX [1, 2] ?_ | refine awp_drw 18 hX [1, 2] Tab.mixed (by kernel_rfl) ?_ | refine DEv_cut _ _ _ _ _ _ _ _ _ _ _ _ (by kernel_rfl) ?_ | change postOf _ _ _ _ _); simp [-List.reduceReplicate, Nat.add_one_le_iff, -getElem?_pos, -getElem?_neg, List.getElem?_cons_zero, List.getElem?_cons_succ, c0, c1, c1', c2, c3, c4, c5, u32v, u64C, b1, b2, la, lb, l4, l8, bs_append, bs_size, of_list])
   | ((first | (refine (p1 _).det ?_) | (refine ⟨_, _, p1 _, fun _ => rfl, ?_⟩) | (refine (p2 _).det ?_) | (refine ⟨_, _, p2 _, fun _ => rfl, ?_⟩)); try simp [-List.reduceReplicate, Nat.add_one_le_iff, -getElem?_pos, -getElem?_neg, List.getElem?_cons_zero, List.getElem?_cons_succ, c0, c1, c1', c2, c3, c4, c5, u32v, u64C, b1, b2, la, lb, l4, l8, bs_append, bs_size, of_list])
   | (with_reducible refine awp_if_b rfl (fun hc => ?_) (fun hc => ?_) <;> (try simp [-getElem?_pos, -getElem?_neg] at hc) <;> (try (exfalso; omega)))
   | ((with_reducible first | refine GuardK_b (fun hc => ?_) (fun hc => ?_) | refine DGuard_b _ _ _ _ _ _ _ _ _ _ (fun hc => ?_) (fun hc => ?_)) <;> (try simp only [Bool.not_eq_true', Bool.not_eq_false', decide_eq_true_eq, decide_eq_false_iff_not] at hc) <;> (first | (exfalso; omega) | skip) <;> simp [-List.reduceReplicate, Nat.add_one_le_iff, -getElem?_pos, -getElem?_neg, List.getElem?_cons_zero, List.getElem?_cons_succ, c0, c1, c1', c2, c3, c4, c5, u32v, u64C, b1, b2, la, lb, l4, l8, bs_append, bs_size, of_list, hc])
   | (with_reducible refine And.intro (by omega) ?_)
   | fail)
theorem bytes17_den (h : HD) (hok : HDok h) : DenV Try.prog 98 [hdM h] (.c (.v (.string (bsS (hdL h))))) := by
  refine Den.frame (by simp [ltBs, ltB, hdM, ltBs_up]) rfl ?_
  have c0 := hdC_0 h
  have c1 := hdC_1 h
  have c1' := hdC_up1 h
  have c2 := hdC_33 h
  have c3 := hdC_65 h
  have c4 := hdC_len h
  have c5 := hdC_66 h
  have l4 := putN_len h.v 4
  have l8 := putN_len h.n 8
  have la := h.a.2
  have lb := h.b.2
  have p1 := put01_den h.v 4 (by have := hok.1; omega) (by omega)
  have p2 := put01_den h.n 8 hok.2 (by omega)
  have q1 := raw_den' h.a.1 h.a.2
  have q2 := raw_den' h.b.1 h.b.2
  unfold hdM hdL
  generalize hdC h = hd at *
  have w1 : IntKind.u64.wrap (h.v : Int) = (h.v : Int) := wrapU64 _ (by have := hok.1; omega)
  refine den_of Try.func98 rfl rfl (by simp [Try.ntmps98]) (fun X hX hO => ?_)
  rw [Try.ntmps98] at hX
  simp only [Try.results98]
  repeat' (first 
   | (with_reducible first | refine awp_scope ?_ | refine awp_seq ?_ | refine awp_block ?_)
   | ((with_reducible first | refine awp_label ?_ | refine awp_skip ?_); try simp only [thenA, inBlockA, noGotoA])
   | (with_reducible refine awp_exit ?_; simp only [thenA, inBlockA, noGotoA, if_true, Nat.reduceEqDiff, if_false, ↓reduceIte])
   | (with_reducible refine awp_ret ?_; (try simp only [thenA, inBlockA, noGotoA]); (try simp [-List.reduceReplicate, Nat.add_one_le_iff, -getElem?_pos, -getElem?_neg, List.getElem?_cons_zero, List.getElem?_cons_succ, c0, c1, c1', c2, c3, c4, c5, u32v, u64C, la, lb, l4, l8, bs_append, bs_size, hashM, w1, iC]))
   | ((with_reducible first | refine awp_reg 19 hX [1, 2] ?_ | refine awp_drw 19 hX [1, 2] Tab.mixed (by kernel_rfl) ?_ | refine DEv_cut _ _ _ _ _ _ _ _ _ _ _ _ (by kernel_rfl) ?_ | change postOf _ _ _ _ _); simp [-List.reduceReplicate, Nat.add_one_le_iff, -getElem?_pos, -getElem?_neg, List.getElem?_cons_zero, List.getElem?_cons_succ, c0, c1, c1', c2, c3, c4, c5, u32v, u64C, la, lb, l4, l8, bs_append, bs_size, hashM, w1, iC])
   | ((first | (refine (p1 _).det ?_) | (refine ⟨_, _, p1 _, fun _ => rfl, ?_⟩) | (refine (q1 _).det ?_) | (refine ⟨_, _, q1 _, fun _ => rfl, ?_⟩) | (refine (q2 _).det ?_) | (refine ⟨_, _, q2 _, fun _ => rfl, ?_⟩) | (refine (p2 _).det ?_) | (refine ⟨_, _, p2 _, fun _ => rfl, ?_⟩)); try simp [-List.reduceReplicate, Nat.add_one_le_iff, -getElem?_pos, -getElem?_neg, List.getElem?_cons_zero, List.getElem?_cons_succ, c0, c1, c1', c2, c3, c4, c5, u32v, u64C, la, lb, l4, l8, bs_append, bs_size, hashM, w1, iC])
   | (with_reducible refine awp_if_b rfl (fun hc => ?_) (fun hc => ?_) <;> (try simp [-getElem?_pos, -getElem?_neg] at hc) <;> (try (exfalso; omega)))
   | ((with_reducible first | refine GuardK_b (fun hc => ?_) (fun hc => ?_) | refine DGuard_b _ _ _ _ _ _ _ _ _ _ (fun hc => ?_) (fun hc => ?_)) <;> (try simp only [Bool.not_eq_true', Bool.not_eq_false', decide_eq_true_eq, decide_eq_false_iff_not] at hc) <;> (first | (exfalso; omega) | skip) <;> simp [-List.reduceReplicate, Nat.add_one_le_iff, -getElem?_pos, -getElem?_neg, List.getElem?_cons_zero, List.getElem?_cons_succ, c0, c1, c1', c2, c3, c4, c5, u32v, u64C, la, lb, l4, l8, bs_append, bs_size, hashM, w1, iC, hc])
   | (with_reducible refine And.intro (by omega) ?_)
   | fail)
end Go.Av

set_option exponentiation.threshold 1000
set_option linter.unusedVariables false
set_option linter.unusedSimpArgs false
set_option maxRecDepth 100000
set_option maxHeartbeats 4000000
namespace Go.Av
open Go Go.Proofs Go.Proofs.Ytofomnllcmgfeaa Go.RowKit
/-! ### ident -/
def idL (h : HD) : List UInt8 := shaL (bsS (3 :: hdL h))
theorem head_bs (h : HD) : headT (bsS (hdL h)) = 3 :: hdL h := rfl
theorem identId_den (h : HD) (hok : HDok h) : DenV Try.prog 73 [hdM h] (hashM (idL h)) := by
  refine Den.frame (by simp [ltBs, ltB, hdM, ltBs_up]) (lt_hash _ _) ?_
  have c4 := hdC_len h
  have c5 := hdC_66 h
  have p1 := headBytes_den h hok
  have p2 := headerSum_den (bsS (hdL h)) (by rw [bs_size, hdL_len]; omega)
  rw [head_bs] at p2
  have hl : (idL h).length = 32 := shaL_len _
  have t1 := hash_take _ hl
  unfold idL at *
  unfold hdM at *
  generalize shaL (bsS (3 :: hdL h)) = y at *
  generalize hdC h = hd at *
  generalize bsS (hdL h) = x at *
  refine den_of Try.func73 rfl rfl (by simp [Try.ntmps73]) (fun X hX hO => ?_)
  rw [Try.ntmps73] at hX
  simp only [Try.results73]
  repeat' (first 
   | (with_reducible first | refine awp_scope ?_ | refine awp_seq ?_ | refine awp_block ?_)
   | ((with_reducible first | refine awp_label ?_ | refine awp_skip ?_); try simp only [thenA, inBlockA, noGotoA])
   | (with_reducible refine awp_exit ?_; simp only [thenA, inBlockA, noGotoA, if_true, Nat.reduceEqDiff, if_false, ↓reduceIte])
   | (with_reducible refine awp_ret ?_; (try simp only [thenA, inBlockA, noGotoA]); (try simp [-List.reduceReplicate, Nat.add_one_le_iff, -getElem?_pos, -getElem?_neg, List.getElem?_cons_zero, List.getElem?_cons_succ, c4, c5, hashM, hl, t1]))
   | ((with_reducible first | refine awp_reg 6 hX [1, 2] ?_ | change postOf _ _ _ _ _); simp [-List.reduceReplicate, Nat.add_one_le_iff, -getElem?_pos, -getElem?_neg, List.getElem?_cons_zero, List.getElem?_cons_succ, c4, c5, hashM, hl, t1])
   | ((first | (refine (p1 _).det ?_) | (refine (p2 _).det ?_)); try simp [-List.reduceReplicate, Nat.add_one_le_iff, -getElem?_pos, -getElem?_neg, List.getElem?_cons_zero, List.getElem?_cons_succ, c4, c5, hashM, hl, t1])
   | (with_reducible refine awp_if_b rfl (fun hc => ?_) (fun hc => ?_) <;> (try simp [-getElem?_pos, -getElem?_neg] at hc) <;> (try (exfalso; omega)))
   | ((with_reducible first | refine GuardK_b (fun hc => ?_) (fun hc => ?_)) <;> (try simp only [Bool.not_eq_true', Bool.not_eq_false', decide_eq_true_eq, decide_eq_false_iff_not] at hc) <;> (first | (exfalso; omega) | skip) <;> simp [-List.reduceReplicate, Nat.add_one_le_iff, -getElem?_pos, -getElem?_neg, List.getElem?_cons_zero, List.getElem?_cons_succ, c4, c5, hashM, hl, t1, hc])
   | (with_reducible refine And.intro (by omega) ?_)
   | fail)
theorem id17_den (h : HD) (hok : HDok h) : DenV Try.prog 75 [hdM h] (hashM (idL h)) := by
  refine Den.frame (by simp [ltBs, ltB, hdM, ltBs_up]) (lt_hash _ _) ?_
  have c4 := hdC_len h
  have c5 := hdC_66 h
  have p1 := bytes17_den h hok
  have p2 := headerText03_den (bsS (hdL h)) (by rw [bs_size, hdL_len]; omega)
  have p3 := sha02_den (bsS (headT (bsS (hdL h)))) (by rw [head_bs, bs_size, List.length_cons, hdL_len]; omega)
  rw [head_bs] at p2 p3
  have hl : (idL h).length = 32 := shaL_len _
  have t1 := hash_take _ hl
  unfold idL at *
  unfold hdM at *
  generalize shaL (bsS (3 :: hdL h)) = y at *
  generalize bsS (3 :: hdL h) = z at *
  generalize hdC h = hd at *
  generalize bsS (hdL h) = x at *
  refine den_of Try.func75 rfl rfl (by simp [Try.ntmps75]) (fun X hX hO => ?_)
  rw [Try.ntmps75] at hX
  simp only [Try.results75]
  repeat' (first 
   | (with_reducible first | refine awp_scope ?_ | refine awp_seq ?_ | refine awp_block ?_)
   | ((with_reducible first | refine awp_label ?_ | refine awp_skip ?_); try simp only [thenA, inBlockA, noGotoA])
   | (with_reducible refine awp_exit ?_; simp only [thenA, inBlockA, noGotoA, if_true, Nat.reduceEqDiff, if_false, ↓reduceIte])
   | (with_reducible refine awp_ret ?_; (try simp only [thenA, inBlockA, noGotoA]); (try simp [-List.reduceReplicate, Nat.add_one_le_iff, -getElem?_pos, -getElem?_neg, List.getElem?_cons_zero, List.getElem?_cons_succ, c4, c5, hashM, hl, t1]))
   | ((with_reducible first | refine awp_reg 7 hX [1, 2] ?_ | change postOf _ _ _ _ _); simp [-List.reduceReplicate, Nat.add_one_le_iff, -getElem?_pos, -getElem?_neg, List.getElem?_cons_zero, List.getElem?_cons_succ, c4, c5, hashM, hl, t1])
   | ((first | (refine (p1 _).det ?_) | (refine (p2 _).det ?_) | (refine (p3 _).det ?_)); try simp [-List.reduceReplicate, Nat.add_one_le_iff, -getElem?_pos, -getElem?_neg, List.getElem?_cons_zero, List.getElem?_cons_succ, c4, c5, hashM, hl, t1])
   | (with_reducible refine awp_if_b rfl (fun hc => ?_) (fun hc => ?_) <;> (try simp [-getElem?_pos, -getElem?_neg] at hc) <;> (try (exfalso; omega)))
   | ((with_reducible first | refine GuardK_b (fun hc => ?_) (fun hc => ?_)) <;> (try simp only [Bool.not_eq_true', Bool.not_eq_false', decide_eq_true_eq, decide_eq_false_iff_not] at hc) <;> (first | (exfalso; omega) | skip) <;> simp [-List.reduceReplicate, Nat.add_one_le_iff, -getElem?_pos, -getElem?_neg, List.getElem?_cons_zero, List.getElem?_cons_succ, c4, c5, hashM, hl, t1, hc])
   | (with_reducible refine And.intro (by omega) ?_)
   | fail)
/-! ### lists of hashes -/
def hsC (l : List H32) : List C := l.flatMap fun h => h.1.map bC8
theorem hsC_len (l : List H32) : (hsC l).length = 32 * l.length := by
  have := flat_len (f := fun h : H32 => h.1.map bC8) (sz := 32) (fun h => by simp [h.2]) l
  unfold hsC
  omega
theorem flat_take {A B : Type} {f : A → List B} {sz : Nat} (hf : ∀ a, (f a).length = sz) (l : List A) : ∀ (i : Nat) (a : A), l[i]? = some a → ((l.flatMap f).drop (i * sz)).take sz = f a := by
  induction l with
  | nil => intro i a h; simp at h
  | cons x l ih =>
    intro i a h
    simp only [List.flatMap_cons]
    cases i with
    | zero =>
      simp at h
      subst h
      rw [Nat.zero_mul, List.drop_zero, List.take_append_of_le_length (by rw [hf]; exact Nat.le_refl _), List.take_of_length_le (by rw [hf]; exact Nat.le_refl _)]
    | succ i =>
      have hx := hf x
      rw [Nat.add_mul, Nat.one_mul, Nat.add_comm (i * sz) sz, ← List.drop_drop, List.drop_left' hx]
      exact ih i a (by simpa using h)
theorem hsC_at (l : List H32) (i : Nat) (h : H32) (hi : l[i]? = some h) : ((hsC l).drop (i * 32)).take 32 = h.1.map bC8 := flat_take (fun h => by simp [h.2]) l i h hi
def fstI : List H32 → List UInt8 → Nat → Int
  | [], _, _ => -1
  | x :: r, id, k => if x.1 = id then (k : Int) else fstI r id (k + 1)
theorem fstI_step (l : List H32) (id : List UInt8) (i : Nat) (h : H32) (hi : l[i]? = some h) : fstI (l.drop i) id i = if h.1 = id then (i : Int) else fstI (l.drop (i + 1)) id (i + 1) := by
  obtain ⟨hlt, rfl⟩ := List.getElem?_eq_some_iff.1 hi
  rw [List.drop_eq_getElem_cons hlt]
  rfl
set_option maxHeartbeats 2000000 in
theorem identFirst_den (l : List H32) (id : List UInt8) (hid : id.length = 32) (n : Nat) (full : Bool) (hn : l.length = n) (hN : n ≤ 1000000) :
    DenV Try.prog 81 [.c (.sl (hsC l) n full), hashM id] (.c (iC (fstI l id 0))) := by
  refine Den.frame (by simp [ltBs, ltB, lt_hash]) rfl ?_
  have hlen := hsC_len l
  have hat := hsC_at l
  have hst := fstI_step l id
  have t1 := hash_take id hid
  subst hn
  obtain ⟨res, hres⟩ : ∃ r, r = fstI l id 0 := ⟨_, rfl⟩
  rw [← hres]
  generalize hsC l = cs at *
  refine den_of Try.func81 rfl rfl (by simp [Try.ntmps81]) (fun X hX hO => ?_)
  rw [Try.ntmps81] at hX
  simp only [Try.results81]
  repeat' (first 
   | (with_reducible first | refine awp_scope ?_ | refine awp_seq ?_ | refine awp_block ?_)
   | ((with_reducible first | refine awp_label ?_ | refine awp_skip ?_); try simp only [thenA, inBlockA, noGotoA])
   | (with_reducible refine awp_exit ?_; simp only [thenA, inBlockA, noGotoA, if_true, Nat.reduceEqDiff, if_false, ↓reduceIte])
   | (with_reducible refine awp_ret ?_; (try simp only [thenA, inBlockA, noGotoA]); (try simp [-List.reduceReplicate, Nat.add_one_le_iff, -getElem?_pos, -getElem?_neg, List.getElem?_cons_zero, List.getElem?_cons_succ, hashM, hid, t1]))
   | ((with_reducible first | refine awp_reg 19 hX [0, 3, 4, 5, 6, 7, 8, 9, 10, 16] ?_ | change postOf _ _ _ _ _); simp [-List.reduceReplicate, Nat.add_one_le_iff, -getElem?_pos, -getElem?_neg, List.getElem?_cons_zero, List.getElem?_cons_succ, hashM, hid, t1])
   | (with_reducible refine awp_if_b rfl (fun hc => ?_) (fun hc => ?_) <;> (try simp [-getElem?_pos, -getElem?_neg] at hc) <;> (try (exfalso; omega)))
   | ((with_reducible first | refine GuardK_b (fun hc => ?_) (fun hc => ?_)) <;> (try simp only [Bool.not_eq_true', Bool.not_eq_false', decide_eq_true_eq, decide_eq_false_iff_not] at hc) <;> (first | (exfalso; omega) | skip) <;> simp [-List.reduceReplicate, Nat.add_one_le_iff, -getElem?_pos, -getElem?_neg, List.getElem?_cons_zero, List.getElem?_cons_succ, hashM, hid, t1, hc])
   | ((with_reducible first | refine hother _ _ rfl ?_); simp only [inBlockA, thenA, noGotoA, Nat.reduceEqDiff, if_false, if_true, ↓reduceIte])
   | (with_reducible refine And.intro (by omega) ?_)
   | fail)
  refine awp_forU [3, 7, 8, 9] (fun i (g : List Ob) => [(9, .c (iC i))]) (fun i (g : List Ob) => ⟨71, 1, false, 0, up (id.map bC8), none⟩ :: g) (fun i (g : List Ob) => (fstI (l.drop i) id i = res)) (l.length) ([]) ((by rw [hres]; rfl)) (by simp [-List.reduceReplicate, keep, iC, bC8]) (by simp [-List.reduceReplicate, iC, bC8]) ?_
  rintro i g Q1 hi hH next hother
  conv => arg 5; arg 1; simp only [List.cons_append, List.nil_append, keep, get, Nat.reduceEqDiff, if_true, if_false, ↓reduceIte]
  have hwi := wrap_in ((i : Int) + 1) (by omega)
  by_cases hlt : i < l.length
  · obtain ⟨h, hh⟩ : ∃ h, l[i]? = some h := ⟨_, List.getElem?_eq_getElem hlt⟩
    have ha := hat i h hh
    have hs := hst i h hh
    have hl2 := h.2
    have he := eq_hash h.1 id hl2 hid
    have t2 := hash_take h.1 hl2
    have hb : 32 ≤ cs.length - i * 32 := by omega
    have hb2 : i * 32 + 32 ≤ cs.length := by omega
    by_cases heq : h.1 = id
    · rw [if_pos heq] at hs
      have he1 := eq_hash1 id hid
      have hr : res = (i : Int) := by rw [← hH, hs]
      repeat' (first 
       | (with_reducible first | refine awp_scope ?_ | refine awp_seq ?_ | refine awp_block ?_)
       | ((with_reducible first | refine awp_label ?_ | refine awp_skip ?_); try simp only [thenA, inBlockA, noGotoA])
       | (with_reducible refine awp_exit ?_; simp only [thenA, inBlockA, noGotoA, if_true, Nat.reduceEqDiff, if_false, ↓reduceIte])
       | (with_reducible refine awp_ret ?_; (try simp only [thenA, inBlockA, noGotoA]); (try simp [-List.reduceReplicate, Nat.add_one_le_iff, -getElem?_pos, -getElem?_neg, List.getElem?_cons_zero, List.getElem?_cons_succ, iC, hlt, hwi, ha, hl2, he, he1, heq, t2, hb, hb2, hid, t1, hr]))
       | ((with_reducible first | refine awp_reg 19 hX [0, 3, 4, 5, 6, 7, 8, 9, 10, 16] ?_ | change postOf _ _ _ _ _); simp [-List.reduceReplicate, Nat.add_one_le_iff, -getElem?_pos, -getElem?_neg, List.getElem?_cons_zero, List.getElem?_cons_succ, iC, hlt, hwi, ha, hl2, he, he1, heq, t2, hb, hb2, hid, t1, hr])
       | (with_reducible refine awp_if_b rfl (fun hc => ?_) (fun hc => ?_) <;> (try simp [-getElem?_pos, -getElem?_neg] at hc) <;> (try (exfalso; omega)))
       | ((with_reducible first | refine GuardK_b (fun hc => ?_) (fun hc => ?_)) <;> (try simp only [Bool.not_eq_true', Bool.not_eq_false', decide_eq_true_eq, decide_eq_false_iff_not] at hc) <;> (first | (exfalso; omega) | skip) <;> simp [-List.reduceReplicate, Nat.add_one_le_iff, -getElem?_pos, -getElem?_neg, List.getElem?_cons_zero, List.getElem?_cons_succ, iC, hlt, hwi, ha, hl2, he, he1, heq, t2, hb, hb2, hid, t1, hr, hc])
       | ((with_reducible first | refine hother _ _ rfl ?_); simp only [inBlockA, thenA, noGotoA, Nat.reduceEqDiff, if_false, if_true, ↓reduceIte])
       | (with_reducible refine And.intro (by omega) ?_)
       | fail)
    · rw [if_neg heq] at hs
      have hH' : fstI (l.drop (i + 1)) id (i + 1) = res := by rw [← hs]; exact hH
      repeat' (first 
       | (with_reducible first | refine awp_scope ?_ | refine awp_seq ?_ | refine awp_block ?_)
       | ((with_reducible first | refine awp_label ?_ | refine awp_skip ?_); try simp only [thenA, inBlockA, noGotoA])
       | (with_reducible refine awp_exit ?_; simp only [thenA, inBlockA, noGotoA, if_true, Nat.reduceEqDiff, if_false, ↓reduceIte])
       | (with_reducible refine awp_ret ?_; (try simp only [thenA, inBlockA, noGotoA]); (try simp [-List.reduceReplicate, Nat.add_one_le_iff, -getElem?_pos, -getElem?_neg, List.getElem?_cons_zero, List.getElem?_cons_succ, iC, hlt, hwi, ha, hl2, he, heq, t2, hb, hb2, hid, t1]))
       | ((with_reducible first | refine awp_reg 19 hX [0, 3, 4, 5, 6, 7, 8, 9, 10, 16] ?_ | change postOf _ _ _ _ _); simp [-List.reduceReplicate, Nat.add_one_le_iff, -getElem?_pos, -getElem?_neg, List.getElem?_cons_zero, List.getElem?_cons_succ, iC, hlt, hwi, ha, hl2, he, heq, t2, hb, hb2, hid, t1])
       | (with_reducible refine awp_if_b rfl (fun hc => ?_) (fun hc => ?_) <;> (try simp [-getElem?_pos, -getElem?_neg] at hc) <;> (try (exfalso; omega)))
       | ((with_reducible first | refine GuardK_b (fun hc => ?_) (fun hc => ?_)) <;> (try simp only [Bool.not_eq_true', Bool.not_eq_false', decide_eq_true_eq, decide_eq_false_iff_not] at hc) <;> (first | (exfalso; omega) | skip) <;> simp [-List.reduceReplicate, Nat.add_one_le_iff, -getElem?_pos, -getElem?_neg, List.getElem?_cons_zero, List.getElem?_cons_succ, iC, hlt, hwi, ha, hl2, he, heq, t2, hb, hb2, hid, t1, hc])
       | ((with_reducible first | refine hother _ _ rfl ?_); simp only [inBlockA, thenA, noGotoA, Nat.reduceEqDiff, if_false, if_true, ↓reduceIte])
       | (with_reducible refine And.intro (by omega) ?_)
       | fail)
      refine next _ _ ((g ++ [⟨71, 1, false, 0, up (h.1.map bC8), none⟩])) (by omega) (by first | trivial | omega | assumption) (by simp [-List.reduceReplicate, keep, iC]) (by simp [-List.reduceReplicate, iC])
  · have hi2 : i = l.length := by omega
    have hr : res = -1 := by rw [← hH, hi2, List.drop_length]; rfl
    repeat' (first 
     | (with_reducible first | refine awp_scope ?_ | refine awp_seq ?_ | refine awp_block ?_)
     | ((with_reducible first | refine awp_label ?_ | refine awp_skip ?_); try simp only [thenA, inBlockA, noGotoA])
     | (with_reducible refine awp_exit ?_; simp only [thenA, inBlockA, noGotoA, if_true, Nat.reduceEqDiff, if_false, ↓reduceIte])
     | (with_reducible refine awp_ret ?_; (try simp only [thenA, inBlockA, noGotoA]); (try simp [-List.reduceReplicate, Nat.add_one_le_iff, -getElem?_pos, -getElem?_neg, List.getElem?_cons_zero, List.getElem?_cons_succ, iC, hlt, hr]))
     | ((with_reducible first | refine awp_reg 19 hX [0, 3, 4, 5, 6, 7, 8, 9, 10, 16] ?_ | change postOf _ _ _ _ _); simp [-List.reduceReplicate, Nat.add_one_le_iff, -getElem?_pos, -getElem?_neg, List.getElem?_cons_zero, List.getElem?_cons_succ, iC, hlt, hr])
     | (with_reducible refine awp_if_b rfl (fun hc => ?_) (fun hc => ?_) <;> (try simp [-getElem?_pos, -getElem?_neg] at hc) <;> (try (exfalso; omega)))
     | ((with_reducible first | refine GuardK_b (fun hc => ?_) (fun hc => ?_)) <;> (try simp only [Bool.not_eq_true', Bool.not_eq_false', decide_eq_true_eq, decide_eq_false_iff_not] at hc) <;> (first | (exfalso; omega) | skip) <;> simp [-List.reduceReplicate, Nat.add_one_le_iff, -getElem?_pos, -getElem?_neg, List.getElem?_cons_zero, List.getElem?_cons_succ, iC, hlt, hr, hc])
     | ((with_reducible first | refine hother _ _ rfl ?_); simp only [inBlockA, thenA, noGotoA, Nat.reduceEqDiff, if_false, if_true, ↓reduceIte])
     | (with_reducible refine And.intro (by omega) ?_)
     | fail)
end Go.Av

set_option exponentiation.threshold 1000
set_option linter.unusedVariables false
set_option linter.unusedSimpArgs false
set_option maxRecDepth 100000
set_option maxHeartbeats 4000000
namespace Go.Av
open Go Go.Proofs Go.Proofs.Ytofomnllcmgfeaa Go.RowKit
/-! ### ident: lists of headers -/
def hdsC (l : List HD) : List C := l.flatMap hdC
theorem hdsC_len (l : List HD) : (hdsC l).length = 66 * l.length := by
  have := flat_len (f := hdC) (sz := 66) hdC_len l
  unfold hdsC
  omega
theorem hdsC_at (l : List HD) (i : Nat) (h : HD) (hi : l[i]? = some h) : ((hdsC l).drop (i * 66)).take 66 = hdC h := flat_take hdC_len l i h hi
def idH (h : HD) : H32 := ⟨idL h, shaL_len _⟩
def idsTo (l : List HD) (i : Nat) : List C := hsC ((l.take i).map idH)
theorem idsTo_len (l : List HD) (i : Nat) (hi : i ≤ l.length) : (idsTo l i).length = i * 32 := by
  unfold idsTo
  rw [hsC_len]
  simp
  omega
theorem idsTo_succ (l : List HD) (i : Nat) (h : HD) (hi : l[i]? = some h) : idsTo l (i + 1) = idsTo l i ++ (idL h).map bC8 := by
  unfold idsTo
  rw [List.take_add_one, hi]
  simp [hsC, idH]
set_option maxHeartbeats 4000000 in
theorem ids_den (l : List HD) (hok : ∀ h ∈ l, HDok h) (n : Nat) (full : Bool) (hn : l.length = n) (hN : n ≤ 1000000) :
    DenV Try.prog 99 [.c (.sl (hdsC l) n full)] (.c (.sl (hsC (l.map idH)) n false)) := by
  refine Den.frame rfl rfl ?_
  have hlen := hdsC_len l
  have hat := hdsC_at l
  have hil := idsTo_len l
  have his := idsTo_succ l
  have hall : hsC (l.map idH) = idsTo l l.length := by unfold idsTo; rw [List.take_length]
  rw [hall]
  have h0 : idsTo l 0 = [] := rfl
  subst hn
  generalize hdsC l = cs at *
  generalize idsTo l = ids at *
  refine den_of Try.func99 rfl rfl (by simp [Try.ntmps99]) (fun X hX hO => ?_)
  rw [Try.ntmps99] at hX
  simp only [Try.results99]
  repeat' (first 
   | (with_reducible first | refine awp_scope ?_ | refine awp_seq ?_ | refine awp_block ?_)
   | ((with_reducible first | refine awp_label ?_ | refine awp_skip ?_); try simp only [thenA, inBlockA, noGotoA])
   | (with_reducible refine awp_exit ?_; simp only [thenA, inBlockA, noGotoA, if_true, Nat.reduceEqDiff, if_false, ↓reduceIte])
   | (with_reducible refine awp_ret ?_; (try simp only [thenA, inBlockA, noGotoA]); (try simp [-List.reduceReplicate, Nat.add_one_le_iff, -getElem?_pos, -getElem?_neg, List.getElem?_cons_zero, List.getElem?_cons_succ]))
   | ((with_reducible first | refine awp_reg 19 hX [0, 2, 3, 5, 6, 7, 8, 9] ?_ | change postOf _ _ _ _ _); simp [-List.reduceReplicate, Nat.add_one_le_iff, -getElem?_pos, -getElem?_neg, List.getElem?_cons_zero, List.getElem?_cons_succ])
   | (with_reducible refine awp_if_b rfl (fun hc => ?_) (fun hc => ?_) <;> (try simp [-getElem?_pos, -getElem?_neg] at hc) <;> (try (exfalso; omega)))
   | ((with_reducible first | refine GuardK_b (fun hc => ?_) (fun hc => ?_)) <;> (try simp only [Bool.not_eq_true', Bool.not_eq_false', decide_eq_true_eq, decide_eq_false_iff_not] at hc) <;> (first | (exfalso; omega) | skip) <;> simp [-List.reduceReplicate, Nat.add_one_le_iff, -getElem?_pos, -getElem?_neg, List.getElem?_cons_zero, List.getElem?_cons_succ, hc])
   | ((with_reducible first | refine hother _ _ rfl ?_); simp only [inBlockA, thenA, noGotoA, Nat.reduceEqDiff, if_false, if_true, ↓reduceIte])
   | (with_reducible refine And.intro (by omega) ?_)
   | fail)
  refine awp_nil 3 71 32 (by simp) ?_
  simp
  refine awp_forU [3, 6, 7, 8] (fun i (g : Nat × Bool × List Ob) => [(3, .ms 0 g.1 0 i), (8, .c (iC i))]) (fun i (g : Nat × Bool × List Ob) => ⟨71, 32, g.2.1, g.1, up (ids i), none⟩ :: g.2.2) (fun i (g : Nat × Bool × List Ob) => True) (l.length) ((0, true, [])) (by first | trivial | (simp; done) | omega | (intros; simp at *; done)) (by simp [-List.reduceReplicate, keep, iC, h0]) (by simp [-List.reduceReplicate, iC, h0]) ?_
  rintro i g Q1 hi hH next hother
  conv => arg 5; arg 1; simp only [List.cons_append, List.nil_append, keep, get, Nat.reduceEqDiff, if_true, if_false, ↓reduceIte]
  have hwi := wrap_in ((i : Int) + 1) (by omega)
  by_cases hlt : i < l.length
  · obtain ⟨h, hh⟩ : ∃ h, l[i]? = some h := ⟨_, List.getElem?_eq_getElem hlt⟩
    have ha := hat i h hh
    have hs := his i h hh
    have hli := hil i hi
    have hb : 66 ≤ cs.length - i * 66 := by omega
    have hb2 : i * 66 + 66 ≤ cs.length := by omega
    have c4 := hdC_len h
    have c5 := hdC_66 h
    have p1 := identId_den h (hok h (List.mem_of_getElem? hh))
    have hl : (idL h).length = 32 := shaL_len _
    unfold hdM at p1
    generalize idL h = id at *
    generalize hdC h = hd at *
    generalize ids (i + 1) = ids1 at *
    generalize ids i = ids0 at *
    have t1 := hash_take id hl
    repeat' (first 
     | (with_reducible first | refine awp_scope ?_ | refine awp_seq ?_ | refine awp_block ?_)
     | ((with_reducible first | refine awp_label ?_ | refine awp_skip ?_); try simp only [thenA, inBlockA, noGotoA])
     | (with_reducible refine awp_exit ?_; simp only [thenA, inBlockA, noGotoA, if_true, Nat.reduceEqDiff, if_false, ↓reduceIte])
     | (with_reducible refine awp_ret ?_; (try simp only [thenA, inBlockA, noGotoA]); (try simp [-List.reduceReplicate, Nat.add_one_le_iff, -getElem?_pos, -getElem?_neg, List.getElem?_cons_zero, List.getElem?_cons_succ, iC, hlt, hwi, ha, hb, hb2, c4, c5, hashM, hl, t1, hli, roomB]))
     | ((with_reducible first | refine awp_reg 19 hX [0, 2, 3, 5, 6, 7, 8, 9] ?_ | change postOf _ _ _ _ _); simp [-List.reduceReplicate, Nat.add_one_le_iff, -getElem?_pos, -getElem?_neg, List.getElem?_cons_zero, List.getElem?_cons_succ, iC, hlt, hwi, ha, hb, hb2, c4, c5, hashM, hl, t1, hli, roomB])
     | ((first | (refine (p1 _).det ?_)); try simp [-List.reduceReplicate, Nat.add_one_le_iff, -getElem?_pos, -getElem?_neg, List.getElem?_cons_zero, List.getElem?_cons_succ, iC, hlt, hwi, ha, hb, hb2, c4, c5, hashM, hl, t1, hli, roomB])
     | (with_reducible refine awp_if_b rfl (fun hc => ?_) (fun hc => ?_) <;> (try simp [-getElem?_pos, -getElem?_neg] at hc) <;> (try (exfalso; omega)))
     | ((with_reducible first | refine GuardK_b (fun hc => ?_) (fun hc => ?_)) <;> (try simp only [Bool.not_eq_true', Bool.not_eq_false', decide_eq_true_eq, decide_eq_false_iff_not] at hc) <;> (first | (exfalso; omega) | skip) <;> simp [-List.reduceReplicate, Nat.add_one_le_iff, -getElem?_pos, -getElem?_neg, List.getElem?_cons_zero, List.getElem?_cons_succ, iC, hlt, hwi, ha, hb, hb2, c4, c5, hashM, hl, t1, hli, roomB, hc])
     | ((with_reducible first | refine hother _ _ rfl ?_); simp only [inBlockA, thenA, noGotoA, Nat.reduceEqDiff, if_false, if_true, ↓reduceIte])
     | (with_reducible refine And.intro (by omega) ?_)
     | fail)
    refine next _ _ ((g.1 + 1, false, g.2.2 ++ [⟨111, 66, false, 0, up hd, none⟩])) (by omega) (by first | trivial | omega | assumption) (by simp [-List.reduceReplicate, keep, iC, hs]) (by simp [-List.reduceReplicate, iC, hs])
  · have hi2 : i = l.length := by omega
    subst hi2
    have hexit := hother; clear hother
    repeat' (first 
     | (with_reducible first | refine awp_scope ?_ | refine awp_seq ?_ | refine awp_block ?_)
     | ((with_reducible first | refine awp_label ?_ | refine awp_skip ?_); try simp only [thenA, inBlockA, noGotoA])
     | (with_reducible refine awp_exit ?_; simp only [thenA, inBlockA, noGotoA, if_true, Nat.reduceEqDiff, if_false, ↓reduceIte])
     | (with_reducible refine awp_ret ?_; (try simp only [thenA, inBlockA, noGotoA]); (try simp [-List.reduceReplicate, Nat.add_one_le_iff, -getElem?_pos, -getElem?_neg, List.getElem?_cons_zero, List.getElem?_cons_succ, iC, hlt]))
     | ((with_reducible first | refine awp_reg 19 hX [0, 2, 3, 5, 6, 7, 8, 9] ?_ | change postOf _ _ _ _ _); simp [-List.reduceReplicate, Nat.add_one_le_iff, -getElem?_pos, -getElem?_neg, List.getElem?_cons_zero, List.getElem?_cons_succ, iC, hlt])
     | (with_reducible refine awp_if_b rfl (fun hc => ?_) (fun hc => ?_) <;> (try simp [-getElem?_pos, -getElem?_neg] at hc) <;> (try (exfalso; omega)))
     | ((with_reducible first | refine GuardK_b (fun hc => ?_) (fun hc => ?_)) <;> (try simp only [Bool.not_eq_true', Bool.not_eq_false', decide_eq_true_eq, decide_eq_false_iff_not] at hc) <;> (first | (exfalso; omega) | skip) <;> simp [-List.reduceReplicate, Nat.add_one_le_iff, -getElem?_pos, -getElem?_neg, List.getElem?_cons_zero, List.getElem?_cons_succ, iC, hlt, hc])
     | ((with_reducible first | refine hother _ _ rfl ?_); simp only [inBlockA, thenA, noGotoA, Nat.reduceEqDiff, if_false, if_true, ↓reduceIte])
     | (with_reducible refine And.intro (by omega) ?_)
     | fail)
    refine hexit _ _ rfl ?_
    simp only [inBlockA, thenA, ↓reduceIte]
    refine awp_frz2 3 [] [] g.2.2 _ (ids l.length) _ hO rfl rfl rfl (by simp [ltB]) (by simp) ?_
    repeat' (first 
     | (with_reducible first | refine awp_scope ?_ | refine awp_seq ?_ | refine awp_block ?_)
     | ((with_reducible first | refine awp_label ?_ | refine awp_skip ?_); try simp only [thenA, inBlockA, noGotoA])
     | (with_reducible refine awp_exit ?_; simp only [thenA, inBlockA, noGotoA, if_true, Nat.reduceEqDiff, if_false, ↓reduceIte])
     | (with_reducible refine awp_ret ?_; (try simp only [thenA, inBlockA, noGotoA]); (try simp [-List.reduceReplicate, Nat.add_one_le_iff, -getElem?_pos, -getElem?_neg, List.getElem?_cons_zero, List.getElem?_cons_succ]))
     | ((with_reducible first | refine awp_reg 19 hX [0, 2, 3, 5, 6, 7, 8, 9] ?_ | change postOf _ _ _ _ _); simp [-List.reduceReplicate, Nat.add_one_le_iff, -getElem?_pos, -getElem?_neg, List.getElem?_cons_zero, List.getElem?_cons_succ])
     | (with_reducible refine awp_if_b rfl (fun hc => ?_) (fun hc => ?_) <;> (try simp [-getElem?_pos, -getElem?_neg] at hc) <;> (try (exfalso; omega)))
     | ((with_reducible first | refine GuardK_b (fun hc => ?_) (fun hc => ?_)) <;> (try simp only [Bool.not_eq_true', Bool.not_eq_false', decide_eq_true_eq, decide_eq_false_iff_not] at hc) <;> (first | (exfalso; omega) | skip) <;> simp [-List.reduceReplicate, Nat.add_one_le_iff, -getElem?_pos, -getElem?_neg, List.getElem?_cons_zero, List.getElem?_cons_succ, hc])
     | ((with_reducible first | refine hother _ _ rfl ?_); simp only [inBlockA, thenA, noGotoA, Nat.reduceEqDiff, if_false, if_true, ↓reduceIte])
     | (with_reducible refine And.intro (by omega) ?_)
     | fail)
end Go.Av

set_option exponentiation.threshold 1000
set_option linter.unusedVariables false
set_option linter.unusedSimpArgs false
set_option maxRecDepth 100000
set_option maxHeartbeats 4000000
namespace Go.Av
open Go Go.Proofs Go.Proofs.Ytofomnllcmgfeaa Go.RowKit
theorem opens_hashes {P : Program} {t e b : TypeId} (ht : P.underlying t = some (.slice e)) (he : P.underlying e = some (.array 32 b)) (hb : P.underlying b = some (.int .u8)) (hc : P.cellsOf b = 1) (hce : P.cellsOf e = 32) :
    Opens P t (fun l : List H32 => [.sl (hsC l) l.length false]) (fun l => l.length ≤ maxLen ∧ ∀ a ∈ l, True) :=
  opens_slice ht (fun a => by rw [hce, List.length_map]; exact a.2) (opens_hash he hb hc hce)
end Go.Av

set_option exponentiation.threshold 1000
set_option linter.unusedVariables false
set_option linter.unusedSimpArgs false
set_option maxRecDepth 100000
set_option maxHeartbeats 4000000
namespace Go.Av
open Go Go.Proofs Go.Proofs.Ytofomnllcmgfeaa Go.RowKit
def Z32 : H32 := ⟨List.replicate 32 0, by simp⟩
def H0 : HD := ⟨0, Z32, Z32, 0⟩
def H1 : HD := ⟨0, Z32, Z32, 1⟩
end Go.Av

set_option exponentiation.threshold 1000
set_option linter.unusedVariables false
set_option linter.unusedSimpArgs false
set_option maxRecDepth 100000
set_option maxHeartbeats 4000000
namespace Go.Av
open Go Go.Proofs Go.Proofs.Ytofomnllcmgfeaa Go.RowKit
theorem HD.ext' (a b : HD) : a = b ↔ a.v = b.v ∧ a.a.1 = b.a.1 ∧ a.b.1 = b.b.1 ∧ a.n = b.n := by
  obtain ⟨v, ⟨x, hx⟩, ⟨y, hy⟩, n⟩ := a
  obtain ⟨v', ⟨x', hx'⟩, ⟨y', hy'⟩, n'⟩ := b
  simp
instance : DecidableEq HD := fun a b => decidable_of_iff _ (HD.ext' a b).symm
end Go.Av

set_option exponentiation.threshold 1000
set_option linter.unusedVariables false
set_option linter.unusedSimpArgs false
set_option maxRecDepth 100000
set_option maxHeartbeats 4000000
namespace Go.Av
open Go Go.Proofs Go.Proofs.Ytofomnllcmgfeaa Go.RowKit
/-! ### headers as arguments -/
theorem reads_app {W : World} {es1 es2 : List C} {cs : List Value} (k : Nat) (h1 : Reads W es1 (cs.take k)) (h2 : Reads W es2 (cs.drop k)) (hk : es1.length = k) : Reads W (es1 ++ es2) cs := by
  have hl : k ≤ cs.length := by
    have := h1.1
    rw [hk, List.length_take] at this
    omega
  refine ⟨?_, fun j c y hc hy => ?_⟩
  · have := h2.1
    rw [List.length_drop] at this
    rw [List.length_append]
    omega
  · by_cases hj : j < k
    · rw [List.getElem?_append_left (by omega)] at hc
      exact h1.2 j c y hc (by rw [List.getElem?_take_of_lt hj]; exact hy)
    · rw [List.getElem?_append_right (by omega), hk] at hc
      exact h2.2 (j - k) c y hc (by rw [List.getElem?_drop, show k + (j - k) = j by omega]; exact hy)
theorem opens_u32 {P : Program} {t : TypeId} (ht : P.underlying t = some (.int .u32)) : Opens P t (fun n : Nat => [u32v n]) (fun n => n < 4294967296) :=
  (opens_int ht).conv fun n hn => by
    have h : 0 ≤ n ∧ n ≤ 4294967295 := by simpa [Lit.wf, IntKind.min, IntKind.max, IntKind.signed, IntKind.bits] using hn
    exact ⟨n.toNat, by omega, by simp only [u32v]; rw [show ((n.toNat : Nat) : Int) = n by omega]⟩
theorem opens_header {P : Program} {t tv th tb tn : TypeId} {fs : Array Field} (ht : P.underlying t = some (.struct fs)) (hv : P.underlying tv = some (.int .u32)) (hh : P.underlying th = some (.array 32 tb)) (hb : P.underlying tb = some (.int .u8)) (hn : P.underlying tn = some (.int .u64))
    (c1 : P.cellsOf tv = 1) (c2 : P.cellsOf th = 32) (c3 : P.cellsOf tb = 1) (c4 : P.cellsOf tn = 1) (c5 : P.cellsOf t = 66)
    (f0 : (fs[0]?).map (fun f => (f.offset, f.type)) = some (0, tv)) (f1 : (fs[1]?).map (fun f => (f.offset, f.type)) = some (1, th)) (f2 : (fs[2]?).map (fun f => (f.offset, f.type)) = some (33, th)) (f3 : (fs[3]?).map (fun f => (f.offset, f.type)) = some (65, tn)) (hs : fs.size = 4) :
    Opens P t hdC HDok := fun H e0 W fuel cs x hx => by
  obtain ⟨xs, m, _, _, hlen, hxl, hel⟩ := DataW.trod_struct ht hx
  have key : ∀ (i off : Nat) (q : TypeId), (fs[i]?).map (fun f => (f.offset, f.type)) = some (off, q) → ∃ y, DataW.trod e0 P W 0 (fun _ => true) true m q ((cs.drop off).take (P.cellsOf q)) = some y := by
    intro i off q h
    rw [Option.map_eq_some_iff] at h
    obtain ⟨f, hf, he⟩ := h
    simp only [Prod.mk.injEq] at he
    obtain ⟨rfl, rfl⟩ := he
    have hlt := (Array.getElem?_eq_some_iff.1 hf).1
    rw [hel i f hf]
    exact ⟨xs[i], List.getElem?_eq_getElem (by omega)⟩
  obtain ⟨y0, h0⟩ := key 0 _ _ f0
  obtain ⟨y1, h1⟩ := key 1 _ _ f1
  obtain ⟨y2, h2⟩ := key 2 _ _ f2
  obtain ⟨y3, h3⟩ := key 3 _ _ f3
  obtain ⟨v, hv1, r0⟩ := opens_u32 hv H e0 W _ _ _ h0
  obtain ⟨a, _, r1⟩ := opens_hash hh hb c3 c2 H e0 W _ _ _ h1
  obtain ⟨b, _, r2⟩ := opens_hash hh hb c3 c2 H e0 W _ _ _ h2
  obtain ⟨n, hn1, r3⟩ := opens_u64 hn H e0 W _ _ _ h3
  rw [c1, List.drop_zero] at r0
  rw [c2] at r1 r2
  rw [c4] at r3
  rw [c5] at hlen
  rw [List.take_of_length_le (by rw [List.length_drop]; omega)] at r3
  refine ⟨⟨v, a, b, n⟩, ⟨hv1, hn1⟩, ?_⟩
  refine reads_app 1 r0 (reads_app 32 r1 (reads_app 32 ?_ ?_ ?_) ?_) rfl
  · rw [List.drop_drop]; exact r2
  · rw [List.drop_drop, List.drop_drop]; exact r3
  · rw [List.length_map]; exact b.2
  · rw [List.length_map]; exact a.2
end Go.Av

set_option exponentiation.threshold 1000
set_option linter.unusedVariables false
set_option linter.unusedSimpArgs false
set_option maxRecDepth 100000
set_option maxHeartbeats 4000000
namespace Go.Av
open Go Go.Proofs Go.Proofs.Ytofomnllcmgfeaa Go.RowKit
end Go.Av
