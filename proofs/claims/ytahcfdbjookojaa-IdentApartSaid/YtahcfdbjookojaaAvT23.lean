import Derived.Test.YtahcfdbjookojaaAvT22
import Derived.Test.YtahcfdbjookojaaAvShelf
import Derived.Test.YtahcfdbjookojaaAv29
set_option linter.unusedVariables false
set_option linter.unusedSimpArgs false
set_option maxRecDepth 100000
set_option maxHeartbeats 4000000
namespace Go.Av
open Go Go.Proofs Go.Proofs.Ytahcfdbjookojaa Go.RowKit
/-! ### strings.Join, strings.Repeat -/
theorem of_list (l : List UInt8) : (⟨l.toArray⟩ : ByteArray) = bsS l := rfl
theorem bs_data (b : ByteArray) : bsS b.data.toList = b := by
  obtain ⟨d⟩ := b
  simp [bsS]
def joinS (xs : List ByteArray) (sep : ByteArray) : List UInt8 := Lib.join (xs.map (·.data.toList)) sep.data.toList
theorem join_den (xs : List ByteArray) (sep : ByteArray) (n : Nat) (full : Bool) (hn : xs.length = n) (hN : n ≤ 1000000) (hlen : (joinS xs sep).length ≤ 140737488355328) :
    DenV Try.prog 67 [.c (.sl (xs.map fun s => .v (.string s)) n full), .c (.v (.string sep))] (.c (.v (.string (bsS (joinS xs sep))))) := by
  refine Den.of_below (by kernel_rfl) rfl fun w E vals hs ha hst => ?_
  have h1 := ha 1 _ rfl
  have h0 := ha 0 _ rfl
  rw [show (xs.map fun s => C.v (.string s)) = (xs.map Value.string).map C.v by simp] at h0
  obtain ⟨va, vb, rfl⟩ : ∃ va vb, vals = #[va, vb] := by
    obtain ⟨l⟩ := vals
    match l, hs with
    | [a, b], _ => exact ⟨a, b, rfl⟩
  obtain rfl : vb = .string sep := arg_v h1
  rcases arg_row (by simpa using hn) h0 with ⟨h, e⟩ | ⟨a, cap, e, hcap, hcell⟩
  · simp only [Array.getD_eq_getD_getElem?, List.getElem?_toArray, List.getElem?_cons_zero, Option.getD_some] at e
    subst e
    have : xs = [] := by rw [h] at hn; exact List.length_eq_zero_iff.1 hn
    subst this
    refine (Try.strings_Join_none none 0 sep w).mono fun e w' ⟨he, hw⟩ => ⟨?_, hw ▸ Below.refl _ _⟩
    rw [he]
    rfl
  · simp only [Array.getD_eq_getD_getElem?, List.getElem?_toArray, List.getElem?_cons_zero, Option.getD_some] at e
    subst e
    by_cases h : n = 0
    · have : xs = [] := by rw [h] at hn; exact List.length_eq_zero_iff.1 hn
      subst this
      subst h
      refine (Try.strings_Join_none (some a) cap sep w).mono fun e w' ⟨he, hw⟩ => ⟨?_, hw ▸ Below.refl _ _⟩
      rw [he]
      rfl
    · obtain ⟨s, hs0⟩ : ∃ s, xs[0]? = some s := ⟨_, List.getElem?_eq_getElem (by omega)⟩
      obtain ⟨hb, hc0⟩ := hcell 0 (.string s) (by simp [hs0])
      have hpl : a = ⟨a.block, a.off, none⟩ := by
        have : a.add 0 = a := by simp [Addr.add]
        rw [this] at hc0
        exact plain_of_cell hc0
      obtain ⟨blk, off, sp⟩ := a
      simp only [Addr.mk.injEq, true_and] at hpl
      subst hpl
      subst hn
      exact (Try.strings_Join blk off cap xs sep w (fun j x hx => by
        have := (hcell j (.string x) (by simp [hx])).2
        rwa [add_plain] at this) (hst _ hb) (by omega) hcap hlen).mono fun e w' h => h
def zerosB (n : Nat) : List UInt8 := List.replicate n 0
theorem repeat_zeros (n : Nat) : Lib.repeatL [0] n = zerosB n := by
  induction n with
  | zero => rfl
  | succ n ih => rw [Lib.repeatL, ih]; rfl
theorem repeat_den (n : Nat) (hn : n ≤ 1000000) : DenV Try.prog 59 [.c (.v (.string ⟨#[0]⟩)), .c (.v (.int .i64 (n : Int)))] (.c (.v (.string (bsS (zerosB n))))) := by
  refine Den.of_below (by kernel_rfl) rfl fun w E vals hs ha hst => ?_
  have h1 := ha 1 _ rfl
  have h0 := ha 0 _ rfl
  obtain ⟨va, vb, rfl⟩ : ∃ va vb, vals = #[va, vb] := by
    obtain ⟨l⟩ := vals
    match l, hs with
    | [a, b], _ => exact ⟨a, b, rfl⟩
  obtain rfl : va = .string ⟨#[0]⟩ := arg_v h0
  obtain rfl : vb = .int .i64 n := arg_v h1
  refine (Try.strings_Repeat ⟨#[0]⟩ n w (by omega) (by show 1 * n ≤ _; omega)).mono fun e w' ⟨he, hw⟩ => ⟨?_, hw⟩
  rw [he]
  have : Lib.repeatL (⟨#[0]⟩ : ByteArray).data.toList n = zerosB n := repeat_zeros n
  rw [this]
  rfl
/-! ### sha: what stands behind -/
def padL (n : Nat) : List UInt8 := 128 :: (zerosB ((119 - n % 64) % 64) ++ putN (8 * n % 18446744073709551616) 8)
theorem pad_den (n : Nat) (hn : n < 18446744073709551616) : DenV Try.prog 28 [.c (u64C n)] (.c (.v (.string (bsS (padL n))))) := by
  refine Den.frame rfl rfl ?_
  refine den_of Try.func28 rfl rfl (by simp [Try.ntmps28]) (fun X hX hO => ?_)
  rw [Try.ntmps28] at hX
  simp only [Try.results28]
  have h0 : ((n : Int)).tmod 64 = ((n % 64 : Nat) : Int) := rfl
  have h1 : IntKind.u64.wrap (119 - ((n % 64 : Nat) : Int)) = ((119 - n % 64 : Nat) : Int) := (wrapU64 _ (by omega)).trans (by omega)
  have h2 : (((119 - n % 64 : Nat) : Int)).tmod 64 = (((119 - n % 64) % 64 : Nat) : Int) := rfl
  have h3 := wrap_in (((119 - n % 64) % 64 : Nat) : Int) (by omega)
  have h4 : IntKind.u64.wrap (8 * (n : Int)) = ((8 * n % 18446744073709551616 : Nat) : Int) := (modU64 _).trans (by omega)
  have hm : 8 * n % 18446744073709551616 < 18446744073709551616 := Nat.mod_lt _ (by omega)
  have hg : (119 - n % 64) % 64 < 64 := Nat.mod_lt _ (by omega)
  have hp : padL n = 128 :: (zerosB ((119 - n % 64) % 64) ++ putN (8 * n % 18446744073709551616) 8) := rfl
  generalize n % 64 = a at *
  generalize 119 - a = a2 at *
  generalize a2 % 64 = gap at *
  generalize 8 * n % 18446744073709551616 = m8 at *
  have h5 : (⟨#[128]⟩ : ByteArray) = bsS [128] := rfl
  have l1 : (zerosB gap).length = gap := by simp [zerosB]
  have l2 := putN_len m8 8
  have c1 : gap < 9223372036854775806 := by omega
  have c2 : gap + 1 + 7 < 9223372036854775807 := by omega
  have c3 : 1 + gap ≤ 9223372036854775807 := by omega
  have c4 : gap + 1 + 8 ≤ 9223372036854775807 := by omega
  repeat' (first 
    | with_reducible refine awp_scope ?_
    | with_reducible refine awp_seq ?_
    | with_reducible refine awp_block ?_
    | (with_reducible refine awp_label ?_; try simp only [thenA, inBlockA, noGotoA])
    | (with_reducible refine awp_skip ?_; try simp only [thenA, inBlockA, noGotoA])
    | (with_reducible refine awp_exit ?_; simp only [thenA, inBlockA, noGotoA, if_true, Nat.reduceEqDiff, if_false, ↓reduceIte])
    | (with_reducible refine awp_ret ?_; (try simp only [thenA, inBlockA, noGotoA]); (try simp [-List.reduceReplicate, Nat.add_one_le_iff, -getElem?_pos, -getElem?_neg, List.getElem?_cons_zero, List.getElem?_cons_succ, u64C, h0, h1, h2, h3, h4, h5, bs_append, bs_size, l1, l2, c1, c2, c3, c4, hp]))
    | (with_reducible refine awp_reg 16 hX [0, 2, 3] ?_; simp [-List.reduceReplicate, Nat.add_one_le_iff, -getElem?_pos, -getElem?_neg, List.getElem?_cons_zero, List.getElem?_cons_succ, u64C, h0, h1, h2, h3, h4, h5, bs_append, bs_size, l1, l2, c1, c2, c3, c4, hp])
    | (with_reducible refine awp_drw 16 hX [0, 2, 3] Tab.mixed (by kernel_rfl) ?_; simp [-List.reduceReplicate, Nat.add_one_le_iff, -getElem?_pos, -getElem?_neg, List.getElem?_cons_zero, List.getElem?_cons_succ, u64C, h0, h1, h2, h3, h4, h5, bs_append, bs_size, l1, l2, c1, c2, c3, c4, hp])
    | ((with_reducible refine Den.at_ (f := 59) ?_); refine (repeat_den gap (by omega) _).det ?_; try simp [-List.reduceReplicate, Nat.add_one_le_iff, -getElem?_pos, -getElem?_neg, List.getElem?_cons_zero, List.getElem?_cons_succ, u64C, h0, h1, h2, h3, h4, h5, bs_append, bs_size, l1, l2, c1, c2, c3, c4, hp])
    | ((with_reducible refine drawn_at (f := 59) ?_); refine ⟨_, _, repeat_den gap (by omega) _, fun _ => rfl, ?_⟩; try simp [-List.reduceReplicate, Nat.add_one_le_iff, -getElem?_pos, -getElem?_neg, List.getElem?_cons_zero, List.getElem?_cons_succ, u64C, h0, h1, h2, h3, h4, h5, bs_append, bs_size, l1, l2, c1, c2, c3, c4, hp])
    | ((with_reducible refine Den.at_ (f := 50) ?_); refine (put64_den m8 hm _).det ?_; try simp [-List.reduceReplicate, Nat.add_one_le_iff, -getElem?_pos, -getElem?_neg, List.getElem?_cons_zero, List.getElem?_cons_succ, u64C, h0, h1, h2, h3, h4, h5, bs_append, bs_size, l1, l2, c1, c2, c3, c4, hp])
    | ((with_reducible refine drawn_at (f := 50) ?_); refine ⟨_, _, put64_den m8 hm _, fun _ => rfl, ?_⟩; try simp [-List.reduceReplicate, Nat.add_one_le_iff, -getElem?_pos, -getElem?_neg, List.getElem?_cons_zero, List.getElem?_cons_succ, u64C, h0, h1, h2, h3, h4, h5, bs_append, bs_size, l1, l2, c1, c2, c3, c4, hp])
    | (with_reducible refine awp_if_b rfl (fun hc => ?_) (fun hc => ?_) <;> (try simp [-getElem?_pos, -getElem?_neg] at hc) <;> (try (exfalso; omega)))
    | (with_reducible refine GuardK_b (fun hc => ?_) (fun hc => ?_) <;> (try simp only [Bool.not_eq_true', Bool.not_eq_false', decide_eq_true_eq, decide_eq_false_iff_not] at hc) <;> (first | (exfalso; omega) | skip) <;> simp [-List.reduceReplicate, Nat.add_one_le_iff, -getElem?_pos, -getElem?_neg, List.getElem?_cons_zero, List.getElem?_cons_succ, u64C, h0, h1, h2, h3, h4, h5, bs_append, bs_size, l1, l2, c1, c2, c3, c4, hp, hc])
    | (with_reducible refine DGuard_b _ _ _ _ _ _ _ _ _ _ (fun hc => ?_) (fun hc => ?_) <;> (try simp only [Bool.not_eq_true', Bool.not_eq_false', decide_eq_true_eq, decide_eq_false_iff_not] at hc) <;> (first | (exfalso; omega) | skip) <;> simp [-List.reduceReplicate, Nat.add_one_le_iff, -getElem?_pos, -getElem?_neg, List.getElem?_cons_zero, List.getElem?_cons_succ, u64C, h0, h1, h2, h3, h4, h5, bs_append, bs_size, l1, l2, c1, c2, c3, c4, hp, hc])
    | (with_reducible refine DEv_cut _ _ _ _ _ _ _ _ _ _ _ _ (by kernel_rfl) ?_; simp [-List.reduceReplicate, Nat.add_one_le_iff, -getElem?_pos, -getElem?_neg, List.getElem?_cons_zero, List.getElem?_cons_succ, u64C, h0, h1, h2, h3, h4, h5, bs_append, bs_size, l1, l2, c1, c2, c3, c4, hp])
    | ((with_reducible refine hother _ _ rfl ?_); simp only [inBlockA, thenA, noGotoA, Nat.reduceEqDiff, if_false, if_true, ↓reduceIte])
    | ((with_reducible refine hother2 _ _ rfl ?_); simp only [inBlockA, thenA, noGotoA, Nat.reduceEqDiff, if_false, if_true, ↓reduceIte])
    | ((with_reducible refine hother3 _ _ rfl ?_); simp only [inBlockA, thenA, noGotoA, Nat.reduceEqDiff, if_false, if_true, ↓reduceIte])
    | (with_reducible refine And.intro (by omega) ?_)
    | (with_reducible change postOf _ _ _ _ _; simp [-List.reduceReplicate, Nat.add_one_le_iff, -getElem?_pos, -getElem?_neg, List.getElem?_cons_zero, List.getElem?_cons_succ, u64C, h0, h1, h2, h3, h4, h5, bs_append, bs_size, l1, l2, c1, c2, c3, c4, hp])
    | fail)
end Go.Av
