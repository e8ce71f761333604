/- 48 texts of the program logic over abstract values, joined: each is proved without any condition beyond its own words. -/
import Derived.Test.YtpcnacknlgmmlaaAvWalk1
import Derived.Test.YtpcnacknlgmmlaaAvShelf
import Derived.Test.YtpcnacknlgmmlaaAvEngine4
import Derived.Test.YtpcnacknlgmmlaaAvEngine3
set_option exponentiation.threshold 1000
set_option linter.unusedVariables false
set_option linter.unusedSimpArgs false
set_option maxRecDepth 100000
set_option maxHeartbeats 4000000
namespace Go.Av
open Go Go.Proofs Go.Proofs.Ytpcnacknlgmmlaa Go.RowKit
attribute [local simp] List.getElem?_cons_zero List.getElem?_cons_succ
theorem of_list (l : List UInt8) : (⟨l.toArray⟩ : ByteArray) = bsS l := rfl
def joinS (xs : List ByteArray) (sep : ByteArray) : List UInt8 := Lib.join (xs.map (·.data.toList)) sep.data.toList
theorem join_den (xs : List ByteArray) (sep : ByteArray) (n : Nat) (full : Bool) (hn : xs.length = n) (hN : n ≤ 1000000) (hlen : (joinS xs sep).length ≤ 140737488355328) :
    DenV Try.prog 105 [.c (.sl (xs.map fun s => .v (.string s)) n full), .c (.v (.string sep))] (.c (.v (.string (bsS (joinS xs sep))))) := by
  refine Den.of_below (by kernel_rfl) rfl fun w E vals hs ha hst => ?_
  have h1 := ha 1 _ rfl
  have h0 := ha 0 _ rfl
  rw [show (xs.map fun s => C.v (.string s)) = (xs.map Value.string).map C.v by simp] at h0
  obtain ⟨va, vb, rfl⟩ : ∃ va vb, vals = #[va, vb] := by
    obtain ⟨l⟩ := vals
    match l, hs with
    | [a, b], _ => exact ⟨a, b, rfl⟩
  obtain rfl : vb = .string sep := arg_v h1
  rcases arg_row (by simpa using hn) h0 with ⟨h, e⟩ | ⟨a, cap, e, hcap, hcell⟩
  · simp only [Array.getD_eq_getD_getElem?, List.getElem?_toArray, List.getElem?_cons_zero, Option.getD_some] at e
    subst e
    have : xs = [] := by rw [h] at hn; exact List.length_eq_zero_iff.1 hn
    subst this
    refine (Try.strings_Join_none none 0 sep w).mono fun e w' ⟨he, hw⟩ => ⟨?_, hw ▸ Below.refl _ _⟩
    rw [he]
    rfl
  · simp only [Array.getD_eq_getD_getElem?, List.getElem?_toArray, List.getElem?_cons_zero, Option.getD_some] at e
    subst e
    by_cases h : n = 0
    · have : xs = [] := by rw [h] at hn; exact List.length_eq_zero_iff.1 hn
      subst this
      subst h
      refine (Try.strings_Join_none (some a) cap sep w).mono fun e w' ⟨he, hw⟩ => ⟨?_, hw ▸ Below.refl _ _⟩
      rw [he]
      rfl
    · obtain ⟨s, hs0⟩ : ∃ s, xs[0]? = some s := ⟨_, List.getElem?_eq_getElem (by omega)⟩
      obtain ⟨hb, hc0⟩ := hcell 0 (.string s) (by simp [hs0])
      have hpl : a = ⟨a.block, a.off, none⟩ := by
        have : a.add 0 = a := by simp [Addr.add]
        rw [this] at hc0
        exact plain_of_cell hc0
      obtain ⟨blk, off, sp⟩ := a
      simp only [Addr.mk.injEq, true_and] at hpl
      subst hpl
      subst hn
      exact (Try.strings_Join blk off cap xs sep w (fun j x hx => by
        have := (hcell j (.string x) (by simp [hx])).2
        rwa [add_plain] at this) (hst _ hb) (by omega) hcap hlen).mono fun e w' h => h
theorem bs_toList (l : List UInt8) : (bsS l).toList = l := by rw [toList_data]; rfl
theorem ba_ext {a b : ByteArray} (h : a.data.toList = b.data.toList) : a = b := by
  obtain ⟨a⟩ := a
  obtain ⟨b⟩ := b
  simp only [ByteArray.mk.injEq]
  exact Array.toList_inj.1 h
theorem size_list (s : ByteArray) : s.size = s.data.toList.length := by simp
theorem hash_take (l : List UInt8) (h : l.length = 32) : (l.map bC8).take 32 = l.map bC8 := List.take_of_length_le (by simp [h])
end Go.Av

set_option exponentiation.threshold 1000
set_option linter.unusedVariables false
set_option linter.unusedSimpArgs false
set_option maxRecDepth 100000
set_option maxHeartbeats 4000000
namespace Go.Av
open Go Go.Proofs Go.Proofs.Ytpcnacknlgmmlaa Go.RowKit
attribute [local simp] List.getElem?_cons_zero List.getElem?_cons_succ
theorem join_two (a b : ByteArray) : joinS [a, b] ⟨#[]⟩ = a.data.toList ++ b.data.toList := by simp [joinS, Lib.join, List.intercalate]
theorem join_one' (a : ByteArray) : joinS [a] ⟨#[]⟩ = a.data.toList := by simp [joinS, Lib.join, List.intercalate]
theorem text_den (t : UInt8) (xs : List ByteArray) (n : Nat) (full : Bool) (hn : xs.length = n) (hN : n ≤ 1000000) (hl : (joinS xs ⟨#[]⟩).length ≤ 140737488355328) :
    DenV Try.prog 97 [.c (.v (.int .u8 (t.toNat : Int))), .c (.sl (xs.map fun s => .v (.string s)) n full)] (.c (.v (.string (bsS (t :: joinS xs ⟨#[]⟩))))) := by
  refine Den.frame rfl rfl ?_
  refine den_of Try.func97 rfl rfl (by simp [Try.ntmps97]) (fun X hX hO => ?_)
  rw [Try.ntmps97] at hX
  simp only [Try.results97]
  have h1 : (⟨#[t]⟩ : ByteArray) = bsS [t] := rfl
  have h2 := bs_append [t] (joinS xs ⟨#[]⟩)
  have h3 : 1 + (joinS xs ⟨#[]⟩).length ≤ 9223372036854775807 := by omega
  have h4 : UInt8.ofNat t.toNat = t := by simp
  repeat' (first 
   | (with_reducible first | refine awp_scope ?_ | refine awp_seq ?_ | refine awp_block ?_)
   | ((with_reducible first | refine awp_label ?_ | refine awp_skip ?_ | refine awp_exit ?_); try simp only [thenA, inBlockA, noGotoA, if_true, Nat.reduceEqDiff, if_false, ↓reduceIte])
   | ((with_reducible first | refine awp_reg 11 hX [0, 1, 4] ?_ | refine awp_drw 11 hX [0, 1, 4] Tab.mixed (by kernel_rfl) ?_ | refine DEv_cut _ _ _ _ _ _ _ _ _ _ _ _ (by kernel_rfl) ?_ | change postOf _ _ _ _ _); simp [-List.reduceReplicate, Nat.add_one_le_iff, -getElem?_pos, -getElem?_neg, h1, bs_append, bs_size, h3, h4])
   | ((first | (with_reducible refine awp_ret ?_; try simp only [thenA, inBlockA, noGotoA]) | ((with_reducible refine Den.at_ (f := 105) ?_); refine (join_den xs ⟨#[]⟩ n full hn hN hl _).det ?_) | ((with_reducible refine drawn_at (f := 105) ?_); refine ⟨_, _, join_den xs ⟨#[]⟩ n full hn hN hl _, fun _ => rfl, ?_⟩)); try simp [-List.reduceReplicate, Nat.add_one_le_iff, -getElem?_pos, -getElem?_neg, h1, bs_append, bs_size, h3, h4])
   | (with_reducible refine awp_if_b rfl (fun hc => ?_) (fun hc => ?_) <;> (try simp [-getElem?_pos, -getElem?_neg] at hc) <;> (try (exfalso; omega)))
   | (with_reducible refine And.intro (by omega) ?_)
   | fail)
def leafT (s : ByteArray) : List UInt8 := 0 :: s.data.toList
def headT (s : ByteArray) : List UInt8 := 3 :: s.data.toList
def nodeT (a b : List UInt8) : List UInt8 := 1 :: (a ++ b)
def rootT (n : Nat) (a : List UInt8) : List UInt8 := 2 :: (putN n 8 ++ a)
theorem headerText_den (s : ByteArray) (hs : s.size ≤ 140737488355328) : DenV Try.prog 81 [.c (.v (.string s))] (.c (.v (.string (bsS (headT s))))) := by
  refine Den.frame rfl rfl ?_
  refine den_of Try.func81 rfl rfl (by simp [Try.ntmps81]) (fun X hX hO => ?_)
  rw [Try.ntmps81] at hX
  simp only [Try.results81]
  have h := text_den 3 [s] 1 true rfl (by omega) (by rw [join_one', ← size_list]; exact hs)
  rw [join_one'] at h
  repeat' (first 
   | (with_reducible first | refine awp_scope ?_ | refine awp_seq ?_ | refine awp_block ?_)
   | ((with_reducible first | refine awp_label ?_ | refine awp_skip ?_ | refine awp_exit ?_); try simp only [thenA, inBlockA, noGotoA, if_true, Nat.reduceEqDiff, if_false, ↓reduceIte])
   | ((with_reducible first | refine awp_reg 6 hX [0, 2] ?_ | change postOf _ _ _ _ _); simp [-List.reduceReplicate, Nat.add_one_le_iff, -getElem?_pos, -getElem?_neg, headT])
   | ((first | (with_reducible refine awp_ret ?_; try simp only [thenA, inBlockA, noGotoA]) | (refine (h _).det ?_)); try simp [-List.reduceReplicate, Nat.add_one_le_iff, -getElem?_pos, -getElem?_neg, headT])
   | (with_reducible refine awp_if_b rfl (fun hc => ?_) (fun hc => ?_) <;> (try simp [-getElem?_pos, -getElem?_neg] at hc) <;> (try (exfalso; omega)))
   | (with_reducible refine And.intro (by omega) ?_)
   | fail)
theorem bs_list (l : List UInt8) : (bsS l).data.toList = l := rfl
theorem rootText_den (n : Nat) (a : List UInt8) (hn : n < 18446744073709551616) (ha : a.length = 32) : DenV Try.prog 89 [.c (u64C n), hashM a] (.c (.v (.string (bsS (rootT n a))))) := by
  refine Den.frame (by simp [ltBs, ltB, lt_hash]) rfl ?_
  refine den_of Try.func89 rfl rfl (by simp [Try.ntmps89]) (fun X hX hO => ?_)
  rw [Try.ntmps89] at hX
  simp only [Try.results89]
  have h := text_den 2 [bsS (putN n 8), bsS a] 2 true rfl (by omega) (by rw [join_two, bs_list, bs_list]; simp [ha, putN_len])
  rw [join_two, bs_list, bs_list] at h
  have h1 := bytesM_b8 a
  have t1 := hash_take a ha
  repeat' (first 
   | (with_reducible first | refine awp_scope ?_ | refine awp_seq ?_ | refine awp_block ?_)
   | ((with_reducible first | refine awp_label ?_ | refine awp_skip ?_ | refine awp_exit ?_); try simp only [thenA, inBlockA, noGotoA, if_true, Nat.reduceEqDiff, if_false, ↓reduceIte])
   | ((with_reducible first | refine awp_reg 11 hX [0, 3, 4] ?_ | refine awp_drw 11 hX [0, 3, 4] Tab.mixed (by kernel_rfl) ?_ | refine DEv_cut _ _ _ _ _ _ _ _ _ _ _ _ (by kernel_rfl) ?_ | change postOf _ _ _ _ _); simp [-List.reduceReplicate, Nat.add_one_le_iff, -getElem?_pos, -getElem?_neg, hashM, ha, h1, t1, rootT, u64C])
   | ((first | (with_reducible refine awp_ret ?_; try simp only [thenA, inBlockA, noGotoA]) | ((with_reducible refine Den.at_ (f := 44) ?_); refine (put64_den n hn _).det ?_) | ((with_reducible refine drawn_at (f := 44) ?_); refine ⟨_, _, put64_den n hn _, fun _ => rfl, ?_⟩) | (refine (h _).det ?_) | (refine ⟨_, _, h _, fun _ => rfl, ?_⟩)); try simp [-List.reduceReplicate, Nat.add_one_le_iff, -getElem?_pos, -getElem?_neg, hashM, ha, h1, t1, rootT, u64C])
   | (with_reducible refine awp_if_b rfl (fun hc => ?_) (fun hc => ?_) <;> (try simp [-getElem?_pos, -getElem?_neg] at hc) <;> (try (exfalso; omega)))
   | (with_reducible refine And.intro (by omega) ?_)
   | fail)
end Go.Av

set_option exponentiation.threshold 1000
set_option linter.unusedVariables false
set_option linter.unusedSimpArgs false
set_option maxRecDepth 100000
set_option maxHeartbeats 4000000
namespace Go.Av
open Go Go.Proofs Go.Proofs.Ytpcnacknlgmmlaa Go.RowKit
attribute [local simp] List.getElem?_cons_zero List.getElem?_cons_succ
def u32C (n : Nat) : C := .v (.int .u32 (n : Int))
theorem put32_den (x : Nat) (hx : x < 4294967296) : DenV Try.prog 43 [.c (u32C x)] (.c (.v (.string (bsS (putN x 4))))) := by
  refine Den.frame rfl rfl ?_
  refine den_of Try.func43 rfl rfl (by simp [Try.ntmps43]) (fun X hX hO => ?_)
  rw [Try.ntmps43] at hX
  simp only [Try.results43]
  have h := wrapU64 (x : Int) (by omega)
  repeat' (first 
   | (with_reducible first | refine awp_scope ?_ | refine awp_seq ?_ | refine awp_block ?_)
   | ((with_reducible first | refine awp_label ?_ | refine awp_skip ?_ | refine awp_exit ?_); try simp only [thenA, inBlockA, noGotoA, if_true, Nat.reduceEqDiff, if_false, ↓reduceIte])
   | ((with_reducible first | refine awp_reg 6 hX [0, 2] ?_ | change postOf _ _ _ _ _); simp [-List.reduceReplicate, Nat.add_one_le_iff, -getElem?_pos, -getElem?_neg, u32C, u64C, h])
   | ((first | (with_reducible refine awp_ret ?_; try simp only [thenA, inBlockA, noGotoA]) | ((with_reducible refine Den.at_ (f := 73) ?_); refine (put_den x 4 (by omega) (by omega) _).det ?_)); try simp [-List.reduceReplicate, Nat.add_one_le_iff, -getElem?_pos, -getElem?_neg, u32C, u64C, h])
   | (with_reducible refine awp_if_b rfl (fun hc => ?_) (fun hc => ?_) <;> (try simp [-getElem?_pos, -getElem?_neg] at hc) <;> (try (exfalso; omega)))
   | (with_reducible refine And.intro (by omega) ?_)
   | fail)
def byteI (b : ByteArray) (at_ : Int) (i : Nat) : Nat := if 0 ≤ at_ ∧ at_ + i < b.size then (b.data.toList.getD (at_ + i).toNat 0).toNat else 0
theorem byteI_lt (b : ByteArray) (at_ : Int) (i : Nat) : byteI b at_ i < 256 := by
  unfold byteI
  split
  · exact (b.data.toList.getD (at_ + i).toNat 0).toNat_lt
  · omega
def takeN (b : ByteArray) (at_ : Int) : Nat → Nat
  | 0 => 0
  | n + 1 => takeN b at_ n * 256 + byteI b at_ n
theorem takeN_lt (b : ByteArray) (at_ : Int) (n : Nat) : takeN b at_ n < 256 ^ n := by
  induction n with
  | zero => simp [takeN]
  | succ n ih =>
    have := byteI_lt b at_ n
    rw [takeN, Nat.pow_succ]
    omega
theorem takeN_u64 (b : ByteArray) (at_ : Int) (n : Nat) (h : n ≤ 8) : takeN b at_ n < 18446744073709551616 := by
  have h1 := takeN_lt b at_ n
  have h2 : 256 ^ n ≤ 256 ^ 8 := Nat.pow_le_pow_right (by omega) h
  have h3 : 256 ^ 8 = 18446744073709551616 := by decide
  omega
theorem take_den (b : ByteArray) (at_ : Int) (n : Nat) (hat : -9223372036854775808 ≤ at_ ∧ at_ ≤ 9223372036854775807) (hb : b.size ≤ 9223372036854775807) (hn : n ≤ 8) : DenV Try.prog 74 [.c (.v (.string b)), .c (iC at_), .c (iC n)] (.c (u64C (takeN b at_ n))) := by
  refine Den.frame rfl rfl ?_
  refine den_of Try.func74 rfl rfl (by simp [Try.ntmps74]) (fun X hX hO => ?_)
  rw [Try.ntmps74] at hX
  simp only [Try.results74]
  repeat' (first 
   | (with_reducible first | refine awp_scope ?_ | refine awp_seq ?_ | refine awp_block ?_)
   | ((with_reducible first | refine awp_label ?_ | refine awp_skip ?_ | refine awp_exit ?_ | refine hother _ _ rfl ?_); try simp only [thenA, inBlockA, noGotoA, if_true, Nat.reduceEqDiff, if_false, ↓reduceIte])
   | ((with_reducible first | refine awp_reg 41 hX [0, 1, 2, 6, 7, 8, 9, 10, 11, 30] ?_ | change postOf _ _ _ _ _); simp [-List.reduceReplicate, Nat.add_one_le_iff, -getElem?_pos, -getElem?_neg, u64C, iC])
   | ((first | (with_reducible refine awp_ret ?_; try simp only [thenA, inBlockA, noGotoA])); try simp [-List.reduceReplicate, Nat.add_one_le_iff, -getElem?_pos, -getElem?_neg, u64C, iC])
   | (with_reducible refine awp_if_b rfl (fun hc => ?_) (fun hc => ?_) <;> (try simp [-getElem?_pos, -getElem?_neg] at hc) <;> (try (exfalso; omega)))
   | ((with_reducible first | refine GuardK_b (fun hc => ?_) (fun hc => ?_)) <;> (try simp only [Bool.not_eq_true', Bool.not_eq_false', decide_eq_true_eq, decide_eq_false_iff_not] at hc) <;> (first | (exfalso; omega) | skip) <;> simp [-List.reduceReplicate, Nat.add_one_le_iff, -getElem?_pos, -getElem?_neg, u64C, iC, hc])
   | (with_reducible refine And.intro (by omega) ?_)
   | fail)
  refine awp_forU [0, 1, 7, 9, 10] (fun i (_u : Unit) => [(7, .c (u64C (takeN b at_ i))), (10, .c (iC i))]) (fun i (_u : Unit) => []) (fun i (_u : Unit) => True) (n) (()) (by first | trivial | (simp; done) | omega | (intros; simp at *; done)) (by simp [-List.reduceReplicate, keep, u64C, iC, takeN]) (by simp [-List.reduceReplicate, u64C, iC, takeN]) ?_
  rintro i _u Q1 hi hH next hother
  conv => arg 5; arg 1; simp only [List.cons_append, List.nil_append, keep, get, Nat.reduceEqDiff, if_true, if_false, ↓reduceIte]
  have hwi := wrap_in ((i : Int) + 1) (by omega)
  by_cases hlt : i < n
  · have h1 := takeN_u64 b at_ i (by omega)
    have h2 := takeN_u64 b at_ (i + 1) (by omega)
    have hbl := byteI_lt b at_ i
    have hst : takeN b at_ (i + 1) = takeN b at_ i * 256 + byteI b at_ i := rfl
    have hw : IntKind.u64.wrap (((takeN b at_ i : Nat) : Int) * 256) = ((takeN b at_ i * 256 : Nat) : Int) := (wrapU64 _ (by omega)).trans (by omega)
    have hor := orU .u64 (takeN b at_ i * 256) (byteI b at_ i) (by show _ < 2 ^ 64; omega) (by show _ < 2 ^ 64; omega) rfl
    rw [or_byte _ _ hbl, ← hst, show ((takeN b at_ i * 256 : Nat) : Int) = (takeN b at_ i : Int) * 256 by omega] at hor
    by_cases c1 : 0 ≤ at_
    · by_cases c2 : at_ < b.size
      · have w1 := wrap_in ((b.size : Int) - at_) (by omega)
        by_cases c3 : (i : Int) < (b.size : Int) - at_
        · have hby : byteI b at_ i = (b.toList.getD (at_ + i).toNat 0).toNat := by unfold byteI; rw [if_pos ⟨c1, by omega⟩, toList_data]
          have w2 := wrap_in (at_ + (i : Int)) (by omega)
          have hbi : byteAt b (at_ + i).toNat = (byteI b at_ i : Int) := by unfold byteAt; rw [hby]
          have w3 := wrapU64 ((byteI b at_ i : Nat) : Int) (by omega)
          have c4 : 0 ≤ at_ + (i : Int) := by omega
          have c5 : at_ + (i : Int) < b.size := by omega
          repeat' (first 
           | (with_reducible first | refine awp_scope ?_ | refine awp_seq ?_ | refine awp_block ?_)
           | ((with_reducible first | refine awp_label ?_ | refine awp_skip ?_ | refine awp_exit ?_ | refine hother _ _ rfl ?_); try simp only [thenA, inBlockA, noGotoA, if_true, Nat.reduceEqDiff, if_false, ↓reduceIte])
           | ((with_reducible first | refine awp_reg 41 hX [0, 1, 2, 6, 7, 8, 9, 10, 11, 30] ?_ | change postOf _ _ _ _ _); simp [-List.reduceReplicate, Nat.add_one_le_iff, -getElem?_pos, -getElem?_neg, u64C, iC, hlt, hwi, hw, c1, c2, c3, c4, c5, w1, w2, w3, hbi, hor, IntKind.bits])
           | ((first | (with_reducible refine awp_ret ?_; try simp only [thenA, inBlockA, noGotoA])); try simp [-List.reduceReplicate, Nat.add_one_le_iff, -getElem?_pos, -getElem?_neg, u64C, iC, hlt, hwi, hw, c1, c2, c3, c4, c5, w1, w2, w3, hbi, hor, IntKind.bits])
           | (with_reducible refine awp_if_b rfl (fun hc => ?_) (fun hc => ?_) <;> (try simp [-getElem?_pos, -getElem?_neg] at hc) <;> (try (exfalso; omega)))
           | ((with_reducible first | refine GuardK_b (fun hc => ?_) (fun hc => ?_)) <;> (try simp only [Bool.not_eq_true', Bool.not_eq_false', decide_eq_true_eq, decide_eq_false_iff_not] at hc) <;> (first | (exfalso; omega) | skip) <;> simp [-List.reduceReplicate, Nat.add_one_le_iff, -getElem?_pos, -getElem?_neg, u64C, iC, hlt, hwi, hw, c1, c2, c3, c4, c5, w1, w2, w3, hbi, hor, IntKind.bits, hc])
           | (with_reducible refine And.intro (by omega) ?_)
           | fail)
          refine next _ _ (()) (by omega) (by first | trivial | omega | assumption) (by simp [-List.reduceReplicate, keep, u64C, iC]) (by simp [-List.reduceReplicate, u64C, iC])
        · have hz : byteI b at_ i = 0 := by unfold byteI; rw [if_neg (by omega)]
          repeat' (first 
           | (with_reducible first | refine awp_scope ?_ | refine awp_seq ?_ | refine awp_block ?_)
           | ((with_reducible first | refine awp_label ?_ | refine awp_skip ?_ | refine awp_exit ?_ | refine hother _ _ rfl ?_); try simp only [thenA, inBlockA, noGotoA, if_true, Nat.reduceEqDiff, if_false, ↓reduceIte])
           | ((with_reducible first | refine awp_reg 41 hX [0, 1, 2, 6, 7, 8, 9, 10, 11, 30] ?_ | change postOf _ _ _ _ _); simp [-List.reduceReplicate, Nat.add_one_le_iff, -getElem?_pos, -getElem?_neg, u64C, iC, hlt, hwi, hw, c1, c2, c3, w1, IntKind.bits])
           | ((first | (with_reducible refine awp_ret ?_; try simp only [thenA, inBlockA, noGotoA])); try simp [-List.reduceReplicate, Nat.add_one_le_iff, -getElem?_pos, -getElem?_neg, u64C, iC, hlt, hwi, hw, c1, c2, c3, w1, IntKind.bits])
           | (with_reducible refine awp_if_b rfl (fun hc => ?_) (fun hc => ?_) <;> (try simp [-getElem?_pos, -getElem?_neg] at hc) <;> (try (exfalso; omega)))
           | ((with_reducible first | refine GuardK_b (fun hc => ?_) (fun hc => ?_)) <;> (try simp only [Bool.not_eq_true', Bool.not_eq_false', decide_eq_true_eq, decide_eq_false_iff_not] at hc) <;> (first | (exfalso; omega) | skip) <;> simp [-List.reduceReplicate, Nat.add_one_le_iff, -getElem?_pos, -getElem?_neg, u64C, iC, hlt, hwi, hw, c1, c2, c3, w1, IntKind.bits, hc])
           | (with_reducible refine And.intro (by omega) ?_)
           | fail)
          refine next _ _ (()) (by omega) (by first | trivial | omega | assumption) (by simp [-List.reduceReplicate, keep, u64C, iC, takeN, hz]) (by simp [-List.reduceReplicate, u64C, iC, takeN, hz])
      · have hz : byteI b at_ i = 0 := by unfold byteI; rw [if_neg (by omega)]
        repeat' (first 
         | (with_reducible first | refine awp_scope ?_ | refine awp_seq ?_ | refine awp_block ?_)
         | ((with_reducible first | refine awp_label ?_ | refine awp_skip ?_ | refine awp_exit ?_ | refine hother _ _ rfl ?_); try simp only [thenA, inBlockA, noGotoA, if_true, Nat.reduceEqDiff, if_false, ↓reduceIte])
         | ((with_reducible first | refine awp_reg 41 hX [0, 1, 2, 6, 7, 8, 9, 10, 11, 30] ?_ | change postOf _ _ _ _ _); simp [-List.reduceReplicate, Nat.add_one_le_iff, -getElem?_pos, -getElem?_neg, u64C, iC, hlt, hwi, hw, c1, c2, IntKind.bits])
         | ((first | (with_reducible refine awp_ret ?_; try simp only [thenA, inBlockA, noGotoA])); try simp [-List.reduceReplicate, Nat.add_one_le_iff, -getElem?_pos, -getElem?_neg, u64C, iC, hlt, hwi, hw, c1, c2, IntKind.bits])
         | (with_reducible refine awp_if_b rfl (fun hc => ?_) (fun hc => ?_) <;> (try simp [-getElem?_pos, -getElem?_neg] at hc) <;> (try (exfalso; omega)))
         | ((with_reducible first | refine GuardK_b (fun hc => ?_) (fun hc => ?_)) <;> (try simp only [Bool.not_eq_true', Bool.not_eq_false', decide_eq_true_eq, decide_eq_false_iff_not] at hc) <;> (first | (exfalso; omega) | skip) <;> simp [-List.reduceReplicate, Nat.add_one_le_iff, -getElem?_pos, -getElem?_neg, u64C, iC, hlt, hwi, hw, c1, c2, IntKind.bits, hc])
         | (with_reducible refine And.intro (by omega) ?_)
         | fail)
        refine next _ _ (()) (by omega) (by first | trivial | omega | assumption) (by simp [-List.reduceReplicate, keep, u64C, iC, takeN, hz]) (by simp [-List.reduceReplicate, u64C, iC, takeN, hz])
    · have hz : byteI b at_ i = 0 := by unfold byteI; rw [if_neg (by omega)]
      repeat' (first 
       | (with_reducible first | refine awp_scope ?_ | refine awp_seq ?_ | refine awp_block ?_)
       | ((with_reducible first | refine awp_label ?_ | refine awp_skip ?_ | refine awp_exit ?_ | refine hother _ _ rfl ?_); try simp only [thenA, inBlockA, noGotoA, if_true, Nat.reduceEqDiff, if_false, ↓reduceIte])
       | ((with_reducible first | refine awp_reg 41 hX [0, 1, 2, 6, 7, 8, 9, 10, 11, 30] ?_ | change postOf _ _ _ _ _); simp [-List.reduceReplicate, Nat.add_one_le_iff, -getElem?_pos, -getElem?_neg, u64C, iC, hlt, hwi, hw, c1, IntKind.bits])
       | ((first | (with_reducible refine awp_ret ?_; try simp only [thenA, inBlockA, noGotoA])); try simp [-List.reduceReplicate, Nat.add_one_le_iff, -getElem?_pos, -getElem?_neg, u64C, iC, hlt, hwi, hw, c1, IntKind.bits])
       | (with_reducible refine awp_if_b rfl (fun hc => ?_) (fun hc => ?_) <;> (try simp [-getElem?_pos, -getElem?_neg] at hc) <;> (try (exfalso; omega)))
       | ((with_reducible first | refine GuardK_b (fun hc => ?_) (fun hc => ?_)) <;> (try simp only [Bool.not_eq_true', Bool.not_eq_false', decide_eq_true_eq, decide_eq_false_iff_not] at hc) <;> (first | (exfalso; omega) | skip) <;> simp [-List.reduceReplicate, Nat.add_one_le_iff, -getElem?_pos, -getElem?_neg, u64C, iC, hlt, hwi, hw, c1, IntKind.bits, hc])
       | (with_reducible refine And.intro (by omega) ?_)
       | fail)
      refine next _ _ (()) (by omega) (by first | trivial | omega | assumption) (by simp [-List.reduceReplicate, keep, u64C, iC, takeN, hz]) (by simp [-List.reduceReplicate, u64C, iC, takeN, hz])
  · have hin : i = n := by omega
    subst hin
    repeat' (first 
     | (with_reducible first | refine awp_scope ?_ | refine awp_seq ?_ | refine awp_block ?_)
     | ((with_reducible first | refine awp_label ?_ | refine awp_skip ?_ | refine awp_exit ?_ | refine hother _ _ rfl ?_); try simp only [thenA, inBlockA, noGotoA, if_true, Nat.reduceEqDiff, if_false, ↓reduceIte])
     | ((with_reducible first | refine awp_reg 41 hX [0, 1, 2, 6, 7, 8, 9, 10, 11, 30] ?_ | change postOf _ _ _ _ _); simp [-List.reduceReplicate, Nat.add_one_le_iff, -getElem?_pos, -getElem?_neg, u64C, iC, hlt])
     | ((first | (with_reducible refine awp_ret ?_; try simp only [thenA, inBlockA, noGotoA])); try simp [-List.reduceReplicate, Nat.add_one_le_iff, -getElem?_pos, -getElem?_neg, u64C, iC, hlt])
     | (with_reducible refine awp_if_b rfl (fun hc => ?_) (fun hc => ?_) <;> (try simp [-getElem?_pos, -getElem?_neg] at hc) <;> (try (exfalso; omega)))
     | ((with_reducible first | refine GuardK_b (fun hc => ?_) (fun hc => ?_)) <;> (try simp only [Bool.not_eq_true', Bool.not_eq_false', decide_eq_true_eq, decide_eq_false_iff_not] at hc) <;> (first | (exfalso; omega) | skip) <;> simp [-List.reduceReplicate, Nat.add_one_le_iff, -getElem?_pos, -getElem?_neg, u64C, iC, hlt, hc])
     | (with_reducible refine And.intro (by omega) ?_)
     | fail)
theorem take32_den (b : ByteArray) (at_ : Int) (hat : -9223372036854775808 ≤ at_ ∧ at_ ≤ 9223372036854775807) (hb : b.size ≤ 9223372036854775807) : DenV Try.prog 48 [.c (.v (.string b)), .c (iC at_)] (.c (u32C (takeN b at_ 4))) := by
  refine Den.frame rfl rfl ?_
  refine den_of Try.func48 rfl rfl (by simp [Try.ntmps48]) (fun X hX hO => ?_)
  rw [Try.ntmps48] at hX
  simp only [Try.results48]
  have h1 := takeN_lt b at_ 4
  have h := wrapU32 (takeN b at_ 4 : Int) (by omega)
  repeat' (first 
   | (with_reducible first | refine awp_scope ?_ | refine awp_seq ?_ | refine awp_block ?_)
   | ((with_reducible first | refine awp_label ?_ | refine awp_skip ?_ | refine awp_exit ?_); try simp only [thenA, inBlockA, noGotoA, if_true, Nat.reduceEqDiff, if_false, ↓reduceIte])
   | ((with_reducible first | refine awp_reg 9 hX [0, 1, 4] ?_ | change postOf _ _ _ _ _); simp [-List.reduceReplicate, Nat.add_one_le_iff, -getElem?_pos, -getElem?_neg, u32C, u64C, iC, h])
   | ((first | (with_reducible refine awp_ret ?_; try simp only [thenA, inBlockA, noGotoA]) | ((with_reducible refine Den.at_ (f := 74) ?_); refine (take_den b at_ 4 hat hb (by omega) _).det ?_)); try simp [-List.reduceReplicate, Nat.add_one_le_iff, -getElem?_pos, -getElem?_neg, u32C, u64C, iC, h])
   | (with_reducible refine awp_if_b rfl (fun hc => ?_) (fun hc => ?_) <;> (try simp [-getElem?_pos, -getElem?_neg] at hc) <;> (try (exfalso; omega)))
   | (with_reducible refine And.intro (by omega) ?_)
   | fail)
end Go.Av

set_option exponentiation.threshold 1000
set_option linter.unusedVariables false
set_option linter.unusedSimpArgs false
set_option maxRecDepth 100000
set_option maxHeartbeats 4000000
namespace Go.Av
open Go Go.Proofs Go.Proofs.Ytpcnacknlgmmlaa Go.RowKit
attribute [local simp] List.getElem?_cons_zero List.getElem?_cons_succ
abbrev W := BitVec 32
def rotr (x : W) (n : Nat) : W := (x >>> n) ||| (x <<< (32 - n))
theorem rot_den (x : W) (n : Nat) (hn : n < 32) : DenV Try.prog 108 [.c (wC x), .c (iC n)] (.c (wC (rotr x n))) := by
  refine Den.frame rfl rfl ?_
  refine den_of Try.func108 rfl rfl (by simp [Try.ntmps108]) (fun X hX hO => ?_)
  rw [Try.ntmps108] at hX
  simp only [Try.results108]
  have h1 := wrapU64 (n : Int) (by omega)
  have h2 := andN .u64 n 31 (by show n < 2 ^ 64; omega) (by decide) (fun h => by simp [IntKind.signed] at h)
  have h3 : n &&& 31 = n := by
    have := Nat.and_two_pow_sub_one_eq_mod n 5
    simp at this
    rw [this]
    omega
  rw [h3] at h2
  have h4 : IntKind.u64.wrap (32 - (n : Int)) = ((32 - n : Nat) : Int) := (wrapU64 _ (by omega)).trans (by omega)
  have h5 : min n 32 = n := by omega
  have h6 : min (32 - n) 32 = 32 - n := by omega
  have h10 : ¬ ((32 - n : Nat) : Int) < 0 := by omega
  have h11 : ¬ (n : Int) < 0 := by omega
  have hr : rotr x n = (x >>> n) ||| (x <<< (32 - n)) := rfl
  generalize hk : 32 - n = k at *
  have h2' : andI IntKind.u64 (n : Int) 31 = (n : Int) := h2
  repeat' (first 
   | (with_reducible first | refine awp_scope ?_ | refine awp_seq ?_ | refine awp_block ?_)
   | ((with_reducible first | refine awp_label ?_ | refine awp_skip ?_ | refine awp_exit ?_); try simp only [thenA, inBlockA, noGotoA, if_true, Nat.reduceEqDiff, if_false, ↓reduceIte])
   | ((with_reducible first | refine awp_reg 17 hX [0, 1, 4, 5] ?_ | change postOf _ _ _ _ _); simp [-List.reduceReplicate, Nat.add_one_le_iff, -getElem?_pos, -getElem?_neg, wC, iC, h1, h2', h4, h5, h6, wI_shr, wI_shr', wI_shl, wI_or, h10, h11, IntKind.bits, hr])
   | ((first | (with_reducible refine awp_ret ?_; try simp only [thenA, inBlockA, noGotoA])); try simp [-List.reduceReplicate, Nat.add_one_le_iff, -getElem?_pos, -getElem?_neg, wC, iC, h1, h2', h4, h5, h6, wI_shr, wI_shr', wI_shl, wI_or, h10, h11, IntKind.bits, hr])
   | (with_reducible refine awp_if_b rfl (fun hc => ?_) (fun hc => ?_) <;> (try simp [-getElem?_pos, -getElem?_neg] at hc) <;> (try (exfalso; omega)))
   | (with_reducible refine And.intro (by omega) ?_)
   | fail)
def g0 (x : W) : W := rotr x 7 ^^^ rotr x 18 ^^^ (x >>> 3)
def g1 (x : W) : W := rotr x 17 ^^^ rotr x 19 ^^^ (x >>> 10)
def spStep (b : ByteArray) (l : List W) : W :=
  if l.length < 16 then BitVec.ofNat 32 (takeN b (4 * l.length : Nat) 4) else l.getD (l.length - 16) 0 + g0 (l.getD (l.length - 15) 0) + l.getD (l.length - 7) 0 + g1 (l.getD (l.length - 2) 0)
def spTo (b : ByteArray) : Nat → List W
  | 0 => []
  | n + 1 => spTo b n ++ [spStep b (spTo b n)]
theorem spTo_len (b : ByteArray) (n : Nat) : (spTo b n).length = n := by
  induction n with
  | zero => rfl
  | succ n ih => rw [spTo, List.length_append, ih]; rfl
def spread (b : ByteArray) : List W := spTo b 64
def spRow (b : ByteArray) (i : Nat) : List C := ((spTo b i) ++ List.replicate (64 - i) 0).map wC
theorem spRow_len (b : ByteArray) (i : Nat) (h : i ≤ 64) : (spRow b i).length = 64 := by simp [spRow, spTo_len]; omega
theorem spRow_get (b : ByteArray) (i j : Nat) (h : j < i) : (spRow b i)[j]? = some (wC ((spTo b i).getD j 0)) := by
  have hl := spTo_len b i
  unfold spRow
  rw [List.getElem?_map, List.getElem?_append_left (by omega), List.getD_eq_getElem?_getD, List.getElem?_eq_getElem (by omega)]
  rfl
theorem spRow_set (b : ByteArray) (i : Nat) (h : i < 64) : (spRow b i).set i (wC (spStep b (spTo b i))) = spRow b (i + 1) := by
  have hl := spTo_len b i
  unfold spRow
  rw [← List.map_set, show 64 - i = (64 - (i + 1)) + 1 by omega, List.replicate_succ, List.set_append_right _ _ (by omega), hl, show i - i = 0 by omega, spTo]
  simp
theorem spRow_zero (b : ByteArray) : List.replicate 64 (C.v (.int .u32 0)) = spRow b 0 := by
  unfold spRow
  rw [spTo, List.nil_append, List.map_replicate]
  rfl
theorem fd8 (x : W) : (wI x).fdiv 8 = wI (x >>> 3) := wI_shr x 3
theorem fd1024 (x : W) : (wI x).fdiv 1024 = wI (x >>> 10) := wI_shr x 10
theorem ofNat32 (n : Nat) (h : n < 4294967296) : ((BitVec.ofNat 32 n).toNat : Int) = (n : Int) := by rw [BitVec.toNat_ofNat]; omega
theorem take4_lt (b : ByteArray) (a : Int) : takeN b a 4 < 4294967296 := by have := takeN_lt b a 4; omega
theorem spread_den (b : ByteArray) (hb : b.size ≤ 9223372036854775807) : DenV Try.prog 106 [.c (.v (.string b))] (.agg (up ((spread b).map wC))) := by
  refine Den.frame rfl (by simp [ltB]) ?_
  refine den_of Try.func106 rfl rfl (by simp [Try.ntmps106]) (fun X hX hO => ?_)
  rw [Try.ntmps106] at hX
  simp only [Try.results106]
  repeat' (first 
   | (with_reducible first | refine awp_scope ?_ | refine awp_seq ?_ | refine awp_block ?_)
   | ((with_reducible first | refine awp_label ?_ | refine awp_skip ?_ | refine awp_exit ?_ | refine hother _ _ rfl ?_); try simp only [thenA, inBlockA, noGotoA, if_true, Nat.reduceEqDiff, if_false, ↓reduceIte])
   | ((with_reducible first | refine awp_reg 61 hX [0, 2, 3, 4, 5, 6, 7, 8, 9, 10, 13] ?_ | refine awp_drw 61 hX [0, 2, 3, 4, 5, 6, 7, 8, 9, 10, 13] Tab.mixed (by kernel_rfl) ?_ | refine DEv_cut _ _ _ _ _ _ _ _ _ _ _ _ (by kernel_rfl) ?_ | change postOf _ _ _ _ _); simp [-List.reduceReplicate, Nat.add_one_le_iff, -getElem?_pos, -getElem?_neg, spRow_zero b])
   | ((first | (with_reducible refine awp_ret ?_; try simp only [thenA, inBlockA, noGotoA])); try simp [-List.reduceReplicate, Nat.add_one_le_iff, -getElem?_pos, -getElem?_neg, spRow_zero b])
   | (with_reducible refine awp_if_b rfl (fun hc => ?_) (fun hc => ?_) <;> (try simp [-getElem?_pos, -getElem?_neg] at hc) <;> (try (exfalso; omega)))
   | (with_reducible refine And.intro (by omega) ?_)
   | fail)
  refine awp_forU [0, 2, 3, 9] (fun i (_u : Unit) => [(9, .c (iC i))]) (fun i (_u : Unit) => [⟨159, 1, false, 0, up (List.replicate 64 (.v (.int .u32 0))), none⟩, ⟨159, 1, false, 0, up (spRow b i), none⟩]) (fun i (_u : Unit) => True) (64) (()) (by first | trivial | (simp; done) | omega | (intros; simp at *; done)) (by simp [-List.reduceReplicate, keep, iC, spRow_zero b]) (by simp [-List.reduceReplicate, iC, spRow_zero b]) ?_
  rintro i _u Q1 hi hH next hother
  conv => arg 5; arg 1; simp only [List.cons_append, List.nil_append, keep, get, Nat.reduceEqDiff, if_true, if_false, ↓reduceIte]
  have hwi := wrap_in ((i : Int) + 1) (by omega)
  have hlen := spRow_len b i hi
  by_cases hlt : i < 64
  · have hset := spRow_set b i hlt
    have hl := spTo_len b i
    by_cases h16 : i < 16
    · have hw4 := wrap_in (4 * (i : Int)) (by omega)
      have hst : spStep b (spTo b i) = BitVec.ofNat 32 (takeN b (4 * (i : Int)) 4) := by unfold spStep; rw [hl, if_pos h16, Int.natCast_mul]; rfl
      have hx : wC (spStep b (spTo b i)) = .v (.int .u32 (takeN b (4 * (i : Int)) 4 : Int)) := by unfold wC wI; rw [hst, ofNat32 _ (take4_lt _ _)]
      rw [hx] at hset
      generalize spRow b i = r0 at *
      repeat' (first 
       | (with_reducible first | refine awp_scope ?_ | refine awp_seq ?_ | refine awp_block ?_)
       | ((with_reducible first | refine awp_label ?_ | refine awp_skip ?_ | refine awp_exit ?_ | refine hother _ _ rfl ?_); try simp only [thenA, inBlockA, noGotoA, if_true, Nat.reduceEqDiff, if_false, ↓reduceIte])
       | ((with_reducible first | refine awp_reg 61 hX [0, 2, 3, 4, 5, 6, 7, 8, 9, 10, 13] ?_ | refine awp_drw 61 hX [0, 2, 3, 4, 5, 6, 7, 8, 9, 10, 13] Tab.mixed (by kernel_rfl) ?_ | refine DEv_cut _ _ _ _ _ _ _ _ _ _ _ _ (by kernel_rfl) ?_ | change postOf _ _ _ _ _); simp [-List.reduceReplicate, Nat.add_one_le_iff, -getElem?_pos, -getElem?_neg, iC, hlt, h16, hwi, hw4, u32C, hlen])
       | ((first | (with_reducible refine awp_ret ?_; try simp only [thenA, inBlockA, noGotoA]) | ((with_reducible refine Den.at_ (f := 48) ?_); refine (take32_den b (4 * (i : Int)) (by omega) hb _).det ?_) | ((with_reducible refine drawn_at (f := 48) ?_); refine ⟨_, _, take32_den b (4 * (i : Int)) (by omega) hb _, fun _ => rfl, ?_⟩)); try simp [-List.reduceReplicate, Nat.add_one_le_iff, -getElem?_pos, -getElem?_neg, iC, hlt, h16, hwi, hw4, u32C, hlen])
       | (with_reducible refine awp_if_b rfl (fun hc => ?_) (fun hc => ?_) <;> (try simp [-getElem?_pos, -getElem?_neg] at hc) <;> (try (exfalso; omega)))
       | (with_reducible refine And.intro (by omega) ?_)
       | fail)
      refine next _ _ (()) (by omega) (by first | trivial | omega | assumption) (by simp [-List.reduceReplicate, keep, iC, ← hset]) (by simp [-List.reduceReplicate, iC, ← hset])
    · have i1 := wrap_in ((i : Int) - 15) (by omega)
      have i2 := wrap_in ((i : Int) - 2) (by omega)
      have i3 := wrap_in ((i : Int) - 16) (by omega)
      have i4 := wrap_in ((i : Int) - 7) (by omega)
      have j1 : ((i : Int) - 15).toNat = i - 15 := by omega
      have j2 : ((i : Int) - 2).toNat = i - 2 := by omega
      have j3 : ((i : Int) - 16).toNat = i - 16 := by omega
      have j4 : ((i : Int) - 7).toNat = i - 7 := by omega
      have k1 : 15 ≤ (i : Int) := by omega
      have k2 : 2 ≤ (i : Int) := by omega
      have k3 : 16 ≤ (i : Int) := by omega
      have k4 : 7 ≤ (i : Int) := by omega
      have m1 : (i : Int) - 15 < 64 := by omega
      have m2 : (i : Int) - 2 < 64 := by omega
      have m3 : (i : Int) - 16 < 64 := by omega
      have m4 : (i : Int) - 7 < 64 := by omega
      have n1 := spRow_get b i (i - 15) (by omega)
      have n2 := spRow_get b i (i - 2) (by omega)
      have n3 := spRow_get b i (i - 16) (by omega)
      have n4 := spRow_get b i (i - 7) (by omega)
      have hst : spStep b (spTo b i) = (spTo b i).getD (i - 16) 0 + g0 ((spTo b i).getD (i - 15) 0) + (spTo b i).getD (i - 7) 0 + g1 ((spTo b i).getD (i - 2) 0) := by unfold spStep; rw [hl, if_neg h16]
      rw [hst] at hset
      unfold g0 g1 at hset
      generalize (spTo b i).getD (i - 16) 0 = x16 at *
      generalize (spTo b i).getD (i - 15) 0 = x15 at *
      generalize (spTo b i).getD (i - 7) 0 = x7 at *
      generalize (spTo b i).getD (i - 2) 0 = x2 at *
      generalize spRow b i = r0 at *
      repeat' (first 
       | (with_reducible first | refine awp_scope ?_ | refine awp_seq ?_ | refine awp_block ?_)
       | ((with_reducible first | refine awp_label ?_ | refine awp_skip ?_ | refine awp_exit ?_ | refine hother _ _ rfl ?_); try simp only [thenA, inBlockA, noGotoA, if_true, Nat.reduceEqDiff, if_false, ↓reduceIte])
       | ((with_reducible first | refine awp_reg 61 hX [0, 2, 3, 4, 5, 6, 7, 8, 9, 10, 13] ?_ | refine awp_drw 61 hX [0, 2, 3, 4, 5, 6, 7, 8, 9, 10, 13] Tab.mixed (by kernel_rfl) ?_ | refine DEv_cut _ _ _ _ _ _ _ _ _ _ _ _ (by kernel_rfl) ?_ | change postOf _ _ _ _ _); simp [-List.reduceReplicate, Nat.add_one_le_iff, -getElem?_pos, -getElem?_neg, iC, hlt, h16, hwi, i1, i2, i3, i4, j1, j2, j3, j4, k1, k2, k3, k4, m1, m2, m3, m4, n1, n2, n3, n4, hlen, wC, wI_shr, wI_shr', wI_xor, wI_add, fd8, fd1024, IntKind.bits])
       | ((first | (with_reducible refine awp_ret ?_; try simp only [thenA, inBlockA, noGotoA]) | ((with_reducible refine Den.at_ (f := 108) ?_); refine (rot_den _ 7 (by omega) _).det ?_) | ((with_reducible refine drawn_at (f := 108) ?_); refine ⟨_, _, rot_den _ 7 (by omega) _, fun _ => rfl, ?_⟩) | ((with_reducible refine Den.at_ (f := 108) ?_); refine (rot_den _ 18 (by omega) _).det ?_) | ((with_reducible refine drawn_at (f := 108) ?_); refine ⟨_, _, rot_den _ 18 (by omega) _, fun _ => rfl, ?_⟩) | ((with_reducible refine Den.at_ (f := 108) ?_); refine (rot_den _ 17 (by omega) _).det ?_) | ((with_reducible refine drawn_at (f := 108) ?_); refine ⟨_, _, rot_den _ 17 (by omega) _, fun _ => rfl, ?_⟩) | ((with_reducible refine Den.at_ (f := 108) ?_); refine (rot_den _ 19 (by omega) _).det ?_) | ((with_reducible refine drawn_at (f := 108) ?_); refine ⟨_, _, rot_den _ 19 (by omega) _, fun _ => rfl, ?_⟩)); try simp [-List.reduceReplicate, Nat.add_one_le_iff, -getElem?_pos, -getElem?_neg, iC, hlt, h16, hwi, i1, i2, i3, i4, j1, j2, j3, j4, k1, k2, k3, k4, m1, m2, m3, m4, n1, n2, n3, n4, hlen, wC, wI_shr, wI_shr', wI_xor, wI_add, fd8, fd1024, IntKind.bits])
       | (with_reducible refine awp_if_b rfl (fun hc => ?_) (fun hc => ?_) <;> (try simp [-getElem?_pos, -getElem?_neg] at hc) <;> (try (exfalso; omega)))
       | (with_reducible refine And.intro (by omega) ?_)
       | fail)
      refine next _ _ (()) (by omega) (by first | trivial | omega | assumption) (by simp [-List.reduceReplicate, keep, iC, ← hset, wC]) (by simp [-List.reduceReplicate, iC, ← hset, wC])
  · have h64 : i = 64 := by omega
    subst h64
    have hfin : spRow b 64 = (spread b).map wC := by unfold spRow spread; simp
    rw [hfin] at hlen
    have htk : ((spread b).map wC).take 64 = (spread b).map wC := List.take_of_length_le (by omega)
    rw [hfin]
    repeat' (first 
     | (with_reducible first | refine awp_scope ?_ | refine awp_seq ?_ | refine awp_block ?_)
     | ((with_reducible first | refine awp_label ?_ | refine awp_skip ?_ | refine awp_exit ?_ | refine hother _ _ rfl ?_); try simp only [thenA, inBlockA, noGotoA, if_true, Nat.reduceEqDiff, if_false, ↓reduceIte])
     | ((with_reducible first | refine awp_reg 61 hX [0, 2, 3, 4, 5, 6, 7, 8, 9, 10, 13] ?_ | refine awp_drw 61 hX [0, 2, 3, 4, 5, 6, 7, 8, 9, 10, 13] Tab.mixed (by kernel_rfl) ?_ | refine DEv_cut _ _ _ _ _ _ _ _ _ _ _ _ (by kernel_rfl) ?_ | change postOf _ _ _ _ _); simp [-List.reduceReplicate, Nat.add_one_le_iff, -getElem?_pos, -getElem?_neg, iC, hlen, htk])
     | ((first | (with_reducible refine awp_ret ?_; try simp only [thenA, inBlockA, noGotoA])); try simp [-List.reduceReplicate, Nat.add_one_le_iff, -getElem?_pos, -getElem?_neg, iC, hlen, htk])
     | (with_reducible refine awp_if_b rfl (fun hc => ?_) (fun hc => ?_) <;> (try simp [-getElem?_pos, -getElem?_neg] at hc) <;> (try (exfalso; omega)))
     | (with_reducible refine And.intro (by omega) ?_)
     | fail)
end Go.Av

set_option exponentiation.threshold 1000
set_option linter.unusedVariables false
set_option linter.unusedSimpArgs false
set_option maxRecDepth 100000
set_option maxHeartbeats 4000000
namespace Go.Av
open Go Go.Proofs Go.Proofs.Ytpcnacknlgmmlaa Go.RowKit
attribute [local simp] List.getElem?_cons_zero List.getElem?_cons_succ
def kK : List W := [1116352408, 1899447441, 3049323471, 3921009573, 961987163, 1508970993, 2453635748, 2870763221, 3624381080, 310598401, 607225278, 1426881987, 1925078388, 2162078206, 2614888103, 3248222580, 3835390401, 4022224774, 264347078, 604807628, 770255983, 1249150122, 1555081692, 1996064986, 2554220882, 2821834349, 2952996808, 3210313671, 3336571891, 3584528711, 113926993, 338241895, 666307205, 773529912, 1294757372, 1396182291, 1695183700, 1986661051, 2177026350, 2456956037, 2730485921, 2820302411, 3259730800, 3345764771, 3516065817, 3600352804, 4094571909, 275423344, 430227734, 506948616, 659060556, 883997877, 958139571, 1322822218, 1537002063, 1747873779, 1955562222, 2024104815, 2227730452, 2361852424, 2428436474, 2756734187, 3204031479, 3329325298]
theorem rounds_den : DenV Try.prog 107 [] (.agg (up (kK.map wC))) := den_run 20 rfl (by simp [ltB]) (by kernel_rfl)
theorem kK_get (i : Nat) (h : i < 64) : (kK.map wC)[i]? = some (wC (kK.getD i 0)) := by
  have hl : kK.length = 64 := rfl
  rw [List.getElem?_map, List.getD_eq_getElem?_getD, List.getElem?_eq_getElem (by omega)]
  rfl
structure S8 where
  (a b c d e f g h : W)
def S8.l (s : S8) : List W := [s.a, s.b, s.c, s.d, s.e, s.f, s.g, s.h]
def S8.add (s t : S8) : S8 := ⟨s.a + t.a, s.b + t.b, s.c + t.c, s.d + t.d, s.e + t.e, s.f + t.f, s.g + t.g, s.h + t.h⟩
def S8.t1 (s : S8) (k w : W) : W := s.h + (rotr s.e 6 ^^^ rotr s.e 11 ^^^ rotr s.e 25) + ((s.e &&& s.f) ^^^ (~~~ s.e &&& s.g)) + k + w
def S8.t2 (s : S8) : W := rotr s.a 2 ^^^ rotr s.a 13 ^^^ rotr s.a 22
def S8.t3 (s : S8) : W := (s.a &&& s.b) ^^^ (s.a &&& s.c) ^^^ (s.b &&& s.c)
def S8.step (s : S8) (k w : W) : S8 := ⟨s.t1 k w + s.t2 + s.t3, s.a, s.b, s.c, s.d + s.t1 k w, s.e, s.f, s.g⟩
def mixTo (ws : List W) (s : S8) : Nat → S8
  | 0 => s
  | n + 1 => (mixTo ws s n).step (kK.getD n 0) (ws.getD n 0)
def mix (s : S8) (b : ByteArray) : S8 := s.add (mixTo (spread b) s 64)
def s8M (s : S8) : M := .agg (up (s.l.map wC))
theorem spread_len (b : ByteArray) : (spread b).length = 64 := spTo_len b 64
theorem ws_get (ws : List W) (i n : Nat) (h : i < n) (hl : ws.length = n) : (ws.map wC)[i]? = some (wC (ws.getD i 0)) := by
  rw [List.getElem?_map, List.getD_eq_getElem?_getD, List.getElem?_eq_getElem (by omega)]
  rfl
theorem set8 (z a b c d e f g h : C) : ((((((((List.replicate 8 z).set 0 a).set 1 b).set 2 c).set 3 d).set 4 e).set 5 f).set 6 g).set 7 h = [a, b, c, d, e, f, g, h] := rfl
set_option maxHeartbeats 2000000 in
theorem mix_den (s : S8) (b : ByteArray) (hb : b.size ≤ 9223372036854775807) : DenV Try.prog 103 [s8M s, .c (.v (.string b))] (s8M (mix s b)) := by
  obtain ⟨r, hr⟩ : ∃ r, r = mix s b := ⟨_, rfl⟩
  rw [← hr]
  refine Den.frame (by simp [ltBs, s8M, ltB]) (by simp [ltB, s8M]) ?_
  refine den_of Try.func103 rfl rfl (by simp [Try.ntmps103]) (fun X hX hO => ?_)
  rw [Try.ntmps103] at hX
  simp only [Try.results103]
  have hsl := spread_len b
  have hkl : kK.length = 64 := rfl
  repeat' (first 
   | (with_reducible first | refine awp_scope ?_ | refine awp_seq ?_ | refine awp_block ?_)
   | ((with_reducible first | refine awp_label ?_ | refine awp_skip ?_ | refine awp_exit ?_ | refine hother _ _ rfl ?_); try simp only [thenA, inBlockA, noGotoA, if_true, Nat.reduceEqDiff, if_false, ↓reduceIte])
   | ((with_reducible first | refine awp_reg 122 hX [1, 2, 4, 5, 6, 7, 8, 9, 10, 11, 12, 13, 18, 19, 109, 110] ?_ | refine awp_drw 122 hX [1, 2, 4, 5, 6, 7, 8, 9, 10, 11, 12, 13, 18, 19, 109, 110] Tab.mixed (by kernel_rfl) ?_ | refine DEv_cut _ _ _ _ _ _ _ _ _ _ _ _ (by kernel_rfl) ?_ | change postOf _ _ _ _ _); simp [-List.reduceReplicate, Nat.add_one_le_iff, -getElem?_pos, -getElem?_neg, s8M, S8.l, hsl, hkl])
   | ((first | (with_reducible refine awp_ret ?_; try simp only [thenA, inBlockA, noGotoA]) | ((with_reducible refine Den.at_ (f := 106) ?_); refine (spread_den b hb _).det ?_) | ((with_reducible refine drawn_at (f := 106) ?_); refine ⟨_, _, spread_den b hb _, fun _ => rfl, ?_⟩) | ((with_reducible refine Den.at_ (f := 107) ?_); refine (rounds_den _).det ?_) | ((with_reducible refine drawn_at (f := 107) ?_); refine ⟨_, _, rounds_den _, fun _ => rfl, ?_⟩)); try simp [-List.reduceReplicate, Nat.add_one_le_iff, -getElem?_pos, -getElem?_neg, s8M, S8.l, hsl, hkl])
   | (with_reducible refine awp_if_b rfl (fun hc => ?_) (fun hc => ?_) <;> (try simp [-getElem?_pos, -getElem?_neg] at hc) <;> (try (exfalso; omega)))
   | (with_reducible refine And.intro (by omega) ?_)
   | fail)
  refine awp_forU [2, 4, 5, 6, 7, 18] (fun i (_u : Unit) => [(18, .c (iC i))]) (fun i (_u : Unit) => [⟨153, 1, false, 0, up [wC s.a, wC s.b, wC s.c, wC s.d, wC s.e, wC s.f, wC s.g, wC s.h], none⟩, ⟨153, 1, false, 0, up (List.replicate 8 (C.v (Value.int IntKind.u32 0))), none⟩, ⟨159, 1, false, 0, up (List.map wC (spread b)), none⟩, ⟨159, 1, false, 0, up (List.map wC kK), none⟩, ⟨153, 1, false, 0, up ((mixTo (spread b) s i).l.map wC), none⟩]) (fun i (_u : Unit) => True) (64) (()) (by first | trivial | (simp; done) | omega | (intros; simp at *; done)) (by simp [-List.reduceReplicate, keep, iC, mixTo, S8.l]) (by simp [-List.reduceReplicate, iC, mixTo, S8.l]) ?_
  rintro i _u Q1 hi hH next hother
  conv => arg 5; arg 1; simp only [List.cons_append, List.nil_append, keep, get, Nat.reduceEqDiff, if_true, if_false, ↓reduceIte]
  have hwi := wrap_in ((i : Int) + 1) (by omega)
  by_cases hlt : i < 64
  · have hw := ws_get (spread b) i 64 hlt hsl
    have hk := kK_get i hlt
    have h64 : (i : Int) < 64 := by omega
    have hst : mixTo (spread b) s (i + 1) = (mixTo (spread b) s i).step (kK.getD i 0) ((spread b).getD i 0) := rfl
    rw [hst] at next
    generalize mixTo (spread b) s i = v at *
    generalize kK.getD i 0 = kk at *
    generalize (spread b).getD i 0 = ww at *
    clear hst
    repeat' (first 
     | (with_reducible first | refine awp_scope ?_ | refine awp_seq ?_ | refine awp_block ?_)
     | ((with_reducible first | refine awp_label ?_ | refine awp_skip ?_ | refine awp_exit ?_ | refine hother _ _ rfl ?_); try simp only [thenA, inBlockA, noGotoA, if_true, Nat.reduceEqDiff, if_false, ↓reduceIte])
     | ((with_reducible first | refine awp_reg 122 hX [1, 2, 4, 5, 6, 7, 8, 9, 10, 11, 12, 13, 18, 19, 109, 110] ?_ | refine awp_drw 122 hX [1, 2, 4, 5, 6, 7, 8, 9, 10, 11, 12, 13, 18, 19, 109, 110] Tab.mixed (by kernel_rfl) ?_ | refine DEv_cut _ _ _ _ _ _ _ _ _ _ _ _ (by kernel_rfl) ?_ | change postOf _ _ _ _ _); simp [-List.reduceReplicate, Nat.add_one_le_iff, -getElem?_pos, -getElem?_neg, S8.l, iC, hlt, h64, hwi, hw, hk, wC, wI_xor, wI_add, wI_and, wI_not, set8])
     | ((first | (with_reducible refine awp_ret ?_; try simp only [thenA, inBlockA, noGotoA]) | ((with_reducible refine Den.at_ (f := 108) ?_); refine (rot_den _ 6 (by omega) _).det ?_) | ((with_reducible refine drawn_at (f := 108) ?_); refine ⟨_, _, rot_den _ 6 (by omega) _, fun _ => rfl, ?_⟩) | ((with_reducible refine Den.at_ (f := 108) ?_); refine (rot_den _ 11 (by omega) _).det ?_) | ((with_reducible refine drawn_at (f := 108) ?_); refine ⟨_, _, rot_den _ 11 (by omega) _, fun _ => rfl, ?_⟩) | ((with_reducible refine Den.at_ (f := 108) ?_); refine (rot_den _ 25 (by omega) _).det ?_) | ((with_reducible refine drawn_at (f := 108) ?_); refine ⟨_, _, rot_den _ 25 (by omega) _, fun _ => rfl, ?_⟩) | ((with_reducible refine Den.at_ (f := 108) ?_); refine (rot_den _ 2 (by omega) _).det ?_) | ((with_reducible refine drawn_at (f := 108) ?_); refine ⟨_, _, rot_den _ 2 (by omega) _, fun _ => rfl, ?_⟩) | ((with_reducible refine Den.at_ (f := 108) ?_); refine (rot_den _ 13 (by omega) _).det ?_) | ((with_reducible refine drawn_at (f := 108) ?_); refine ⟨_, _, rot_den _ 13 (by omega) _, fun _ => rfl, ?_⟩) | ((with_reducible refine Den.at_ (f := 108) ?_); refine (rot_den _ 22 (by omega) _).det ?_) | ((with_reducible refine drawn_at (f := 108) ?_); refine ⟨_, _, rot_den _ 22 (by omega) _, fun _ => rfl, ?_⟩)); try simp [-List.reduceReplicate, Nat.add_one_le_iff, -getElem?_pos, -getElem?_neg, S8.l, iC, hlt, h64, hwi, hw, hk, wC, wI_xor, wI_add, wI_and, wI_not, set8])
     | (with_reducible refine awp_if_b rfl (fun hc => ?_) (fun hc => ?_) <;> (try simp [-getElem?_pos, -getElem?_neg] at hc) <;> (try (exfalso; omega)))
     | (with_reducible refine And.intro (by omega) ?_)
     | fail)
    refine next _ _ (()) (by omega) (by first | trivial | omega | assumption) (by simp [-List.reduceReplicate, keep, iC, wC, S8.l, S8.step, S8.t1, S8.t2, S8.t3]) (by simp [-List.reduceReplicate, iC, wC, S8.l, S8.step, S8.t1, S8.t2, S8.t3])
  · have hi64 : i = 64 := by omega
    subst hi64
    have hmix : r = s.add (mixTo (spread b) s 64) := hr
    generalize mixTo (spread b) s 64 = v at *
    clear next hwi
    subst hmix
    repeat' (first 
     | (with_reducible first | refine awp_scope ?_ | refine awp_seq ?_ | refine awp_block ?_)
     | ((with_reducible first | refine awp_label ?_ | refine awp_skip ?_ | refine awp_exit ?_ | refine hother _ _ rfl ?_); try simp only [thenA, inBlockA, noGotoA, if_true, Nat.reduceEqDiff, if_false, ↓reduceIte])
     | ((with_reducible first | refine awp_reg 122 hX [1, 2, 4, 5, 6, 7, 8, 9, 10, 11, 12, 13, 18, 19, 109, 110] ?_ | refine awp_drw 122 hX [1, 2, 4, 5, 6, 7, 8, 9, 10, 11, 12, 13, 18, 19, 109, 110] Tab.mixed (by kernel_rfl) ?_ | refine DEv_cut _ _ _ _ _ _ _ _ _ _ _ _ (by kernel_rfl) ?_ | change postOf _ _ _ _ _); simp [-List.reduceReplicate, Nat.add_one_le_iff, -getElem?_pos, -getElem?_neg, S8.l, iC])
     | ((first | (with_reducible refine awp_ret ?_; try simp only [thenA, inBlockA, noGotoA])); try simp [-List.reduceReplicate, Nat.add_one_le_iff, -getElem?_pos, -getElem?_neg, S8.l, iC])
     | (with_reducible refine awp_if_b rfl (fun hc => ?_) (fun hc => ?_) <;> (try simp [-getElem?_pos, -getElem?_neg] at hc) <;> (try (exfalso; omega)))
     | (with_reducible refine And.intro (by omega) ?_)
     | fail)
    refine awp_forU [2, 4, 7, 109] (fun i (_u : Unit) => [(109, .c (iC i))]) (fun i (_u : Unit) => [⟨153, 1, false, 0, up (((s.add v).l.take i ++ s.l.drop i).map wC), none⟩, ⟨153, 1, false, 0, up (List.replicate 8 (C.v (Value.int IntKind.u32 0))), none⟩, ⟨159, 1, false, 0, up (List.map wC (spread b)), none⟩, ⟨159, 1, false, 0, up (List.map wC kK), none⟩, ⟨153, 1, false, 0, up (v.l.map wC), none⟩]) (fun i (_u : Unit) => True) (8) (()) (by first | trivial | (simp; done) | omega | (intros; simp at *; done)) (by simp [-List.reduceReplicate, keep, iC, S8.l]) (by simp [-List.reduceReplicate, iC, S8.l]) ?_
    rintro i _u Q1 hi hH next hother
    conv => arg 5; arg 1; simp only [List.cons_append, List.nil_append, keep, get, Nat.reduceEqDiff, if_true, if_false, ↓reduceIte]
    by_cases hlt : i < 8
    · rcases (by omega : i = 0 ∨ i = 1 ∨ i = 2 ∨ i = 3 ∨ i = 4 ∨ i = 5 ∨ i = 6 ∨ i = 7) with e | e | e | e | e | e | e | e
      all_goals subst e
      all_goals
        repeat' (first 
         | (with_reducible first | refine awp_scope ?_ | refine awp_seq ?_ | refine awp_block ?_)
         | ((with_reducible first | refine awp_label ?_ | refine awp_skip ?_ | refine awp_exit ?_ | refine hother _ _ rfl ?_); try simp only [thenA, inBlockA, noGotoA, if_true, Nat.reduceEqDiff, if_false, ↓reduceIte])
         | ((with_reducible first | refine awp_reg 122 hX [1, 2, 4, 5, 6, 7, 8, 9, 10, 11, 12, 13, 18, 19, 109, 110] ?_ | refine awp_drw 122 hX [1, 2, 4, 5, 6, 7, 8, 9, 10, 11, 12, 13, 18, 19, 109, 110] Tab.mixed (by kernel_rfl) ?_ | refine DEv_cut _ _ _ _ _ _ _ _ _ _ _ _ (by kernel_rfl) ?_ | change postOf _ _ _ _ _); simp [-List.reduceReplicate, Nat.add_one_le_iff, -getElem?_pos, -getElem?_neg, S8.l, S8.add, iC, wC, wI_add])
         | ((first | (with_reducible refine awp_ret ?_; try simp only [thenA, inBlockA, noGotoA])); try simp [-List.reduceReplicate, Nat.add_one_le_iff, -getElem?_pos, -getElem?_neg, S8.l, S8.add, iC, wC, wI_add])
         | (with_reducible refine awp_if_b rfl (fun hc => ?_) (fun hc => ?_) <;> (try simp [-getElem?_pos, -getElem?_neg] at hc) <;> (try (exfalso; omega)))
         | (with_reducible refine And.intro (by omega) ?_)
         | fail)
        refine next _ _ (()) (by omega) (by first | trivial | omega | assumption) (by simp [-List.reduceReplicate, keep, iC, wC, S8.l, S8.add, IntKind.wrap, IntKind.bits, IntKind.signed]) (by simp [-List.reduceReplicate, iC, wC, S8.l, S8.add, IntKind.wrap, IntKind.bits, IntKind.signed])
    · have hi8 : i = 8 := by omega
      subst hi8
      repeat' (first 
       | (with_reducible first | refine awp_scope ?_ | refine awp_seq ?_ | refine awp_block ?_)
       | ((with_reducible first | refine awp_label ?_ | refine awp_skip ?_ | refine awp_exit ?_ | refine hother _ _ rfl ?_); try simp only [thenA, inBlockA, noGotoA, if_true, Nat.reduceEqDiff, if_false, ↓reduceIte])
       | ((with_reducible first | refine awp_reg 122 hX [1, 2, 4, 5, 6, 7, 8, 9, 10, 11, 12, 13, 18, 19, 109, 110] ?_ | refine awp_drw 122 hX [1, 2, 4, 5, 6, 7, 8, 9, 10, 11, 12, 13, 18, 19, 109, 110] Tab.mixed (by kernel_rfl) ?_ | refine DEv_cut _ _ _ _ _ _ _ _ _ _ _ _ (by kernel_rfl) ?_ | change postOf _ _ _ _ _); simp [-List.reduceReplicate, Nat.add_one_le_iff, -getElem?_pos, -getElem?_neg, S8.l, S8.add, iC])
       | ((first | (with_reducible refine awp_ret ?_; try simp only [thenA, inBlockA, noGotoA])); try simp [-List.reduceReplicate, Nat.add_one_le_iff, -getElem?_pos, -getElem?_neg, S8.l, S8.add, iC])
       | (with_reducible refine awp_if_b rfl (fun hc => ?_) (fun hc => ?_) <;> (try simp [-getElem?_pos, -getElem?_neg] at hc) <;> (try (exfalso; omega)))
       | (with_reducible refine And.intro (by omega) ?_)
       | fail)
def shl8 (l : List W) (i : Nat) : List W := l.take (8 - i) ++ (l.drop (7 - i)).take i
end Go.Av

set_option exponentiation.threshold 1000
set_option linter.unusedVariables false
set_option linter.unusedSimpArgs false
set_option maxRecDepth 100000
set_option maxHeartbeats 4000000
namespace Go.Av
open Go Go.Proofs Go.Proofs.Ytpcnacknlgmmlaa Go.RowKit
attribute [local simp] List.getElem?_cons_zero List.getElem?_cons_succ
def zerosB (n : Nat) : List UInt8 := List.replicate n 0
theorem repeat_zeros (n : Nat) : Lib.repeatL [0] n = zerosB n := by
  induction n with
  | zero => rfl
  | succ n ih => rw [Lib.repeatL, ih]; rfl
theorem repeat_den (n : Nat) (hn : n ≤ 1000000) : DenV Try.prog 109 [.c (.v (.string ⟨#[0]⟩)), .c (.v (.int .i64 (n : Int)))] (.c (.v (.string (bsS (zerosB n))))) := by
  refine Den.of_below (by kernel_rfl) rfl fun w E vals hs ha hst => ?_
  have h1 := ha 1 _ rfl
  have h0 := ha 0 _ rfl
  obtain ⟨va, vb, rfl⟩ : ∃ va vb, vals = #[va, vb] := by
    obtain ⟨l⟩ := vals
    match l, hs with
    | [a, b], _ => exact ⟨a, b, rfl⟩
  obtain rfl : va = .string ⟨#[0]⟩ := arg_v h0
  obtain rfl : vb = .int .i64 n := arg_v h1
  refine (Try.strings_Repeat ⟨#[0]⟩ n w (by omega) (by show 1 * n ≤ _; omega)).mono fun e w' ⟨he, hw⟩ => ⟨?_, hw⟩
  rw [he]
  have : Lib.repeatL (⟨#[0]⟩ : ByteArray).data.toList n = zerosB n := repeat_zeros n
  rw [this]
  rfl
def padL (n : Nat) : List UInt8 := 128 :: (zerosB ((119 - n % 64) % 64) ++ putN (8 * n % 18446744073709551616) 8)
theorem pad_den (n : Nat) (hn : n < 18446744073709551616) : DenV Try.prog 104 [.c (u64C n)] (.c (.v (.string (bsS (padL n))))) := by
  refine Den.frame rfl rfl ?_
  refine den_of Try.func104 rfl rfl (by simp [Try.ntmps104]) (fun X hX hO => ?_)
  rw [Try.ntmps104] at hX
  simp only [Try.results104]
  have h0 : ((n : Int)).tmod 64 = ((n % 64 : Nat) : Int) := rfl
  have h1 : IntKind.u64.wrap (119 - ((n % 64 : Nat) : Int)) = ((119 - n % 64 : Nat) : Int) := (wrapU64 _ (by omega)).trans (by omega)
  have h2 : (((119 - n % 64 : Nat) : Int)).tmod 64 = (((119 - n % 64) % 64 : Nat) : Int) := rfl
  have h3 := wrap_in (((119 - n % 64) % 64 : Nat) : Int) (by omega)
  have h4 : IntKind.u64.wrap (8 * (n : Int)) = ((8 * n % 18446744073709551616 : Nat) : Int) := (modU64 _).trans (by omega)
  have hm : 8 * n % 18446744073709551616 < 18446744073709551616 := Nat.mod_lt _ (by omega)
  have hg : (119 - n % 64) % 64 < 64 := Nat.mod_lt _ (by omega)
  have hp : padL n = 128 :: (zerosB ((119 - n % 64) % 64) ++ putN (8 * n % 18446744073709551616) 8) := rfl
  generalize n % 64 = a at *
  generalize 119 - a = a2 at *
  generalize a2 % 64 = gap at *
  generalize 8 * n % 18446744073709551616 = m8 at *
  have h5 : (⟨#[128]⟩ : ByteArray) = bsS [128] := rfl
  have l1 : (zerosB gap).length = gap := by simp [zerosB]
  have l2 := putN_len m8 8
  have c1 : gap < 9223372036854775806 := by omega
  have c2 : gap + 1 + 7 < 9223372036854775807 := by omega
  have c3 : 1 + gap ≤ 9223372036854775807 := by omega
  have c4 : gap + 1 + 8 ≤ 9223372036854775807 := by omega
  repeat' (first 
   | (with_reducible first | refine awp_scope ?_ | refine awp_seq ?_ | refine awp_block ?_)
   | ((with_reducible first | refine awp_label ?_ | refine awp_skip ?_ | refine awp_exit ?_); try simp only [thenA, inBlockA, noGotoA, if_true, Nat.reduceEqDiff, if_false, ↓reduceIte])
   | ((with_reducible first | refine awp_reg 16 hX [0, 2, 3] ?_ | change postOf _ _ _ _ _); simp [-List.reduceReplicate, Nat.add_one_le_iff, -getElem?_pos, -getElem?_neg, u64C, h0, h1, h2, h3, h4, h5, bs_append, bs_size, l1, l2, c1, c2, c3, c4, hp])
   | ((first | (with_reducible refine awp_ret ?_; try simp only [thenA, inBlockA, noGotoA]) | ((with_reducible refine Den.at_ (f := 109) ?_); refine (repeat_den gap (by omega) _).det ?_) | ((with_reducible refine Den.at_ (f := 44) ?_); refine (put64_den m8 hm _).det ?_)); try simp [-List.reduceReplicate, Nat.add_one_le_iff, -getElem?_pos, -getElem?_neg, u64C, h0, h1, h2, h3, h4, h5, bs_append, bs_size, l1, l2, c1, c2, c3, c4, hp])
   | (with_reducible refine awp_if_b rfl (fun hc => ?_) (fun hc => ?_) <;> (try simp [-getElem?_pos, -getElem?_neg] at hc) <;> (try (exfalso; omega)))
   | (with_reducible refine And.intro (by omega) ?_)
   | fail)
end Go.Av

set_option exponentiation.threshold 1000
set_option linter.unusedVariables false
set_option linter.unusedSimpArgs false
set_option maxRecDepth 100000
set_option maxHeartbeats 4000000
namespace Go.Av
open Go Go.Proofs Go.Proofs.Ytpcnacknlgmmlaa Go.RowKit
attribute [local simp] List.getElem?_cons_zero List.getElem?_cons_succ
def firstS : S8 := ⟨0x6a09e667, 0xbb67ae85, 0x3c6ef372, 0xa54ff53a, 0x510e527f, 0x9b05688c, 0x1f83d9ab, 0x5be0cd19⟩
theorem first_den : DenV Try.prog 102 [] (s8M firstS) := den_run 20 rfl (by simp [ltB, s8M]) (by kernel_rfl)
def blk (t : ByteArray) (i : Nat) : ByteArray := t.extract (64 * i) (64 * i + 64)
def blocksTo (s : S8) (t : ByteArray) : Nat → S8
  | 0 => s
  | i + 1 => mix (blocksTo s t i) (blk t i)
def stC (s : S8) (rest : ByteArray) (n : Nat) (on : Bool) : List C := [wC s.a, wC s.b, wC s.c, wC s.d, wC s.e, wC s.f, wC s.g, wC s.h, .v (.string rest), u64C n, bC on]
def stO (s : S8) (rest : ByteArray) (n : Nat) (on : Bool) : Ob := ⟨155, 11, false, 0, up (stC s rest n on), none⟩
def wS (s : S8) (on : Bool) : S8 := if on then s else firstS
theorem ext_size (t : ByteArray) (a b : Nat) (h : a ≤ b) (hb : b ≤ t.size) : (t.extract a b).size = b - a := by rw [ByteArray.size_extract]; omega
set_option maxHeartbeats 2000000 in
theorem write_den (pre suf : List Ob) (s : S8) (rest : ByteArray) (n : Nat) (on : Bool) (b : ByteArray) (hr : rest.size ≤ 1000000) (hb : b.size ≤ 1000000) (hn : n < 18446744073709551616) :
    Den Try.prog 95 [.mp pre.length 0 0, .c (.v (.string b))] (pre ++ stO s rest n on :: suf) (fun r ob' => r = .tup [] ∧
      ob' = pre ++ stO (blocksTo (wS s on) (rest ++ b) ((rest ++ b).size / 64)) ((rest ++ b).extract (64 * ((rest ++ b).size / 64)) (rest ++ b).size) ((n + b.size) % 18446744073709551616) true :: suf) := by
  refine den_of Try.func95 rfl rfl (by simp [Try.ntmps95]) (fun X hX hO => ?_)
  rw [Try.ntmps95] at hX
  simp only [Try.results95]
  have h1 := wrapU64 (b.size : Int) (by omega)
  have h2 : IntKind.u64.wrap ((n : Int) + (b.size : Int)) = (((n + b.size) % 18446744073709551616 : Nat) : Int) := (modU64 _).trans (by omega)
  have h3 : rest.size + b.size ≤ 9223372036854775807 := by omega
  have hts : (rest ++ b).size = rest.size + b.size := ByteArray.size_append
  have htl : (rest ++ b).size ≤ 2000000 := by omega
  obtain ⟨v0, hv0⟩ : ∃ v0, v0 = wS s on := ⟨_, rfl⟩
  rw [← hv0]
  generalize ht : rest ++ b = t at *
  generalize hn' : (n + b.size) % 18446744073709551616 = n' at *
  generalize hk : t.size / 64 = k at *
  rcases (Bool.eq_false_or_eq_true on) with hon | hon
  all_goals
    have hv1 := hv0
    unfold wS at hv1
    simp only [hon, if_true, Bool.false_eq_true, if_false] at hv1
    repeat' (first 
     | (with_reducible first | refine awp_scope ?_ | refine awp_seq ?_ | refine awp_block ?_)
     | ((with_reducible first | refine awp_label ?_ | refine awp_skip ?_ | refine awp_exit ?_ | refine hother _ _ rfl ?_); try simp only [thenA, inBlockA, noGotoA, if_true, Nat.reduceEqDiff, if_false, ↓reduceIte])
     | ((with_reducible first | refine awp_reg 72 hX [0, 1, 4, 6, 11, 44] ?_ | refine awp_drw 72 hX [0, 1, 4, 6, 11, 44] Tab.mixed (by kernel_rfl) ?_ | refine DEv_cut _ _ _ _ _ _ _ _ _ _ _ _ (by kernel_rfl) ?_ | change postOf _ _ _ _ _); simp [-List.reduceReplicate, Nat.add_one_le_iff, -getElem?_pos, -getElem?_neg, stO, stC, u64C, bC, h1, h2, h3, S8.l, s8M, hon, ht])
     | ((first | (with_reducible refine awp_ret ?_; try simp only [thenA, inBlockA, noGotoA]) | ((with_reducible refine Den.at_ (f := 102) ?_); refine (first_den _).det ?_) | ((with_reducible refine drawn_at (f := 102) ?_); refine ⟨_, _, first_den _, fun _ => rfl, ?_⟩)); try simp [-List.reduceReplicate, Nat.add_one_le_iff, -getElem?_pos, -getElem?_neg, stO, stC, u64C, bC, h1, h2, h3, S8.l, s8M, hon, ht])
     | (with_reducible refine awp_if_b rfl (fun hc => ?_) (fun hc => ?_) <;> (try simp [-getElem?_pos, -getElem?_neg] at hc) <;> (try (exfalso; omega)))
     | (with_reducible refine And.intro (by omega) ?_)
     | fail)
    refine awp_forU [0, 4] (fun i (_u : Unit) => [(4, .c (iC (64 * i : Nat)))]) (fun i (_u : Unit) => pre ++ stO (blocksTo v0 t i) t n' true :: suf) (fun i (_u : Unit) => True) (k) (()) (by first | trivial | (simp; done) | omega | (intros; simp at *; done)) (by simp [-List.reduceReplicate, keep, iC, stO, stC, blocksTo, u64C, bC, hv1, firstS]) (by simp [-List.reduceReplicate, iC, stO, stC, blocksTo, u64C, bC, hv1, firstS]) ?_
    rintro i _u Q1 hi hH next hother
    conv => arg 5; arg 1; simp only [List.cons_append, List.nil_append, keep, get, Nat.reduceEqDiff, if_true, if_false, ↓reduceIte]
    have hwi : IntKind.i64.wrap (64 * (i : Int) + 64) = 64 * (i : Int) + 64 := wrap_in _ (by omega)
    have hw2 : IntKind.i64.wrap ((t.size : Int) - 64 * (i : Int)) = (t.size : Int) - 64 * (i : Int) := wrap_in _ (by omega)
    have hst : blocksTo v0 t (i + 1) = mix (blocksTo v0 t i) (blk t i) := rfl
    by_cases hlt : i < k
    · have c1 : 64 ≤ (t.size : Int) - 64 * (i : Int) := by omega
      have c2 : 64 * (i : Int) + 64 ≤ t.size := by omega
      have t1 : (64 * (i : Int)).toNat = 64 * i := by omega
      have t2 : (64 * (i : Int) + 64).toNat = 64 * i + 64 := by omega
      have hbs : (blk t i).size ≤ 9223372036854775807 := by unfold blk; rw [ext_size _ _ _ (by omega) (by omega)]; omega
      have hbl : t.extract (64 * i) (64 * i + 64) = blk t i := rfl
      rw [hst] at next
      generalize blocksTo v0 t i = v at *
      repeat' (first 
       | (with_reducible first | refine awp_scope ?_ | refine awp_seq ?_ | refine awp_block ?_)
       | ((with_reducible first | refine awp_label ?_ | refine awp_skip ?_ | refine awp_exit ?_ | refine hother _ _ rfl ?_); try simp only [thenA, inBlockA, noGotoA, if_true, Nat.reduceEqDiff, if_false, ↓reduceIte])
       | ((with_reducible first | refine awp_reg 72 hX [0, 1, 4, 6, 11, 44] ?_ | refine awp_drw 72 hX [0, 1, 4, 6, 11, 44] Tab.mixed (by kernel_rfl) ?_ | refine DEv_cut _ _ _ _ _ _ _ _ _ _ _ _ (by kernel_rfl) ?_ | change postOf _ _ _ _ _); simp [-List.reduceReplicate, Nat.add_one_le_iff, -getElem?_pos, -getElem?_neg, stO, stC, S8.l, s8M, iC, u64C, bC, hwi, hw2, c1, c2, t1, t2, hbl])
       | ((first | (with_reducible refine awp_ret ?_; try simp only [thenA, inBlockA, noGotoA]) | ((with_reducible refine Den.at_ (f := 103) ?_); refine (mix_den v (blk t i) hbs _).det ?_) | ((with_reducible refine drawn_at (f := 103) ?_); refine ⟨_, _, mix_den v (blk t i) hbs _, fun _ => rfl, ?_⟩)); try simp [-List.reduceReplicate, Nat.add_one_le_iff, -getElem?_pos, -getElem?_neg, stO, stC, S8.l, s8M, iC, u64C, bC, hwi, hw2, c1, c2, t1, t2, hbl])
       | (with_reducible refine awp_if_b rfl (fun hc => ?_) (fun hc => ?_) <;> (try simp [-getElem?_pos, -getElem?_neg] at hc) <;> (try (exfalso; omega)))
       | (with_reducible refine And.intro (by omega) ?_)
       | fail)
      have hx : 64 * (i : Int) + 64 = 64 * ((i : Int) + 1) := by omega
      refine next _ _ (()) (by omega) (by first | trivial | omega | assumption) (by simp [-List.reduceReplicate, keep, iC, stO, stC, u64C, bC, hx]) (by simp [-List.reduceReplicate, iC, stO, stC, u64C, bC, hx])
    · obtain rfl : i = k := by omega
      have c1 : ¬ 64 ≤ (t.size : Int) - 64 * (i : Int) := by omega
      have c2 : 64 * (i : Int) ≤ t.size := by omega
      have t1 : (64 * (i : Int)).toNat = 64 * i := by omega
      generalize blocksTo v0 t i = v at *
      have c3 : 0 ≤ 64 * (i : Int) := by omega
      repeat' (first 
       | (with_reducible first | refine awp_scope ?_ | refine awp_seq ?_ | refine awp_block ?_)
       | ((with_reducible first | refine awp_label ?_ | refine awp_skip ?_ | refine awp_exit ?_ | refine hother _ _ rfl ?_); try simp only [thenA, inBlockA, noGotoA, if_true, Nat.reduceEqDiff, if_false, ↓reduceIte])
       | ((with_reducible first | refine awp_reg 72 hX [0, 1, 4, 6, 11, 44] ?_ | refine awp_drw 72 hX [0, 1, 4, 6, 11, 44] Tab.mixed (by kernel_rfl) ?_ | refine DEv_cut _ _ _ _ _ _ _ _ _ _ _ _ (by kernel_rfl) ?_ | change postOf _ _ _ _ _); simp [-List.reduceReplicate, Nat.add_one_le_iff, -getElem?_pos, -getElem?_neg, stO, stC, S8.l, s8M, iC, u64C, bC, hw2, c1, c2, c3, t1])
       | ((first | (with_reducible refine awp_ret ?_; try simp only [thenA, inBlockA, noGotoA])); try simp [-List.reduceReplicate, Nat.add_one_le_iff, -getElem?_pos, -getElem?_neg, stO, stC, S8.l, s8M, iC, u64C, bC, hw2, c1, c2, c3, t1])
       | (with_reducible refine awp_if_b rfl (fun hc => ?_) (fun hc => ?_) <;> (try simp [-getElem?_pos, -getElem?_neg] at hc) <;> (try (exfalso; omega)))
       | (with_reducible refine And.intro (by omega) ?_)
       | fail)
theorem stateNew_den (ob : List Ob) : Den Try.prog 94 [] ob (fun r ob' => r = .mp ob.length 0 0 ∧ ob' = ob ++ [stO ⟨0, 0, 0, 0, 0, 0, 0, 0⟩ ⟨#[]⟩ 0 false]) := by
  refine den_of Try.func94 rfl rfl (by simp [Try.ntmps94]) (fun X hX hO => ?_)
  rw [Try.ntmps94] at hX
  simp only [Try.results94]
  repeat' (first 
   | (with_reducible first | refine awp_scope ?_ | refine awp_seq ?_ | refine awp_block ?_)
   | ((with_reducible first | refine awp_label ?_ | refine awp_skip ?_ | refine awp_exit ?_); try simp only [thenA, inBlockA, noGotoA, if_true, Nat.reduceEqDiff, if_false, ↓reduceIte])
   | ((with_reducible first | refine awp_reg 3 hX [0] ?_ | change postOf _ _ _ _ _); simp [-List.reduceReplicate, Nat.add_one_le_iff, -getElem?_pos, -getElem?_neg, stO, stC, u64C, bC])
   | ((first | (with_reducible refine awp_ret ?_; try simp only [thenA, inBlockA, noGotoA])); try simp [-List.reduceReplicate, Nat.add_one_le_iff, -getElem?_pos, -getElem?_neg, stO, stC, u64C, bC])
   | (with_reducible refine awp_if_b rfl (fun hc => ?_) (fun hc => ?_) <;> (try simp [-getElem?_pos, -getElem?_neg] at hc) <;> (try (exfalso; omega)))
   | (with_reducible refine And.intro (by omega) ?_)
   | fail)
  rfl
def wBytes (l : List W) : List UInt8 := l.flatMap fun x => putN x.toNat 4
def sumS (s : S8) (rest : ByteArray) (n : Nat) (on : Bool) : List UInt8 := wBytes (blocksTo (wS s on) (rest ++ bsS (padL n)) ((rest ++ bsS (padL n)).size / 64)).l
theorem wBytes_len (l : List W) : (wBytes l).length = 4 * l.length := by
  induction l with
  | nil => rfl
  | cons x r ih => simp only [wBytes, List.flatMap_cons, List.length_append, putN_len, List.length_cons] at *; omega
theorem wBytes_app (a b : List W) : wBytes (a ++ b) = wBytes a ++ wBytes b := by simp [wBytes]
def outTo (l : List W) (i : Nat) : List C := (wBytes (l.take i)).map bC8 ++ List.replicate (32 - 4 * i) (bC8 0)
theorem outTo_len (l : List W) (i : Nat) (h : i ≤ 8) (hl : l.length = 8) : (outTo l i).length = 32 := by
  simp [outTo, wBytes_len, hl]; omega
theorem outTo_lay (l : List W) (i : Nat) (h : i < 8) (hl : l.length = 8) : lay (up (outTo l i)) (4 * i) (up ((putN (l.getD i 0).toNat 4).map bC8)) = up (outTo l (i + 1)) := by
  have h4 := putN_len (l.getD i 0).toNat 4
  have hw : (wBytes (l.take i)).length = 4 * i := by rw [wBytes_len, List.length_take]; omega
  have ht : l.take (i + 1) = l.take i ++ [l.getD i 0] := by
    rw [List.take_add_one, List.getElem?_eq_getElem (by omega), List.getD_eq_getElem?_getD, List.getElem?_eq_getElem (by omega)]
    rfl
  have e : wBytes (l.take (i + 1)) = wBytes (l.take i) ++ putN (l.getD i 0).toNat 4 := by rw [ht, wBytes_app]; simp [wBytes]
  rw [lay_app _ _ _ (by simp only [up, List.length_map, outTo_len l i (by omega) hl, h4]; omega)]
  unfold outTo
  rw [e]
  generalize putN (l.getD i 0).toNat 4 = p at *
  generalize wBytes (l.take i) = q at *
  have e1 : (q.map bC8).length = 4 * i := by rw [List.length_map, hw]
  simp only [up, ← List.map_take, ← List.map_drop, ← List.map_append, List.length_map, h4]
  congr 1
  rw [List.take_append_of_le_length (by omega), List.take_of_length_le (by omega), List.drop_append, e1, List.drop_of_length_le (by omega), List.nil_append, List.drop_replicate, List.map_append]
  simp only [List.append_assoc]
  congr 3
  omega
set_option maxHeartbeats 2000000 in
theorem stateSum_den (ob : List Ob) (p : Nat) (s : S8) (rest : ByteArray) (n : Nat) (on : Bool) (hget : ob[p]? = some (stO s rest n on)) (hr : rest.size ≤ 900000) (hn : n < 18446744073709551616) :
    Den Try.prog 96 [.mp p 0 0] ob (fun r ob' => r = hashM (sumS s rest n on) ∧ ob' = ob) := by
  refine Den.dropM (lt_hash _ _) ?_
  have hlt : p < ob.length := (List.getElem?_eq_some_iff.1 hget).1
  have hget2 : ∀ l, (ob ++ l)[p]? = some (stO s rest n on) := fun l => by rw [List.getElem?_append_left hlt, hget]
  obtain ⟨out, hout⟩ : ∃ out, out = sumS s rest n on := ⟨_, rfl⟩
  rw [← hout]
  refine den_of Try.func96 rfl rfl (by simp [Try.ntmps96]) (fun X hX hO => ?_)
  rw [Try.ntmps96] at hX
  simp only [Try.results96]
  have hW := write_den (ob ++ [⟨45, 1, false, 0, up (List.replicate 32 (C.v (Value.int IntKind.u8 0))), none⟩]) [] s rest n on (bsS (padL n)) (by omega) (by rw [bs_size]; simp [padL, zerosB, putN_len]; omega) hn
  unfold sumS at hout
  generalize blocksTo (wS s on) (rest ++ bsS (padL n)) ((rest ++ bsS (padL n)).size / 64) = v at *
  generalize (rest ++ bsS (padL n)).extract (64 * ((rest ++ bsS (padL n)).size / 64)) (rest ++ bsS (padL n)).size = r2 at *
  generalize (n + (bsS (padL n)).size) % 18446744073709551616 = n2 at *
  simp only [stO, stC] at hget hget2 hW
  simp [-List.reduceReplicate] at hW
  repeat' (first 
   | (with_reducible first | refine awp_scope ?_ | refine awp_seq ?_ | refine awp_block ?_)
   | ((with_reducible first | refine awp_label ?_ | refine awp_skip ?_ | refine awp_exit ?_ | refine hother _ _ rfl ?_); try simp only [thenA, inBlockA, noGotoA, if_true, Nat.reduceEqDiff, if_false, ↓reduceIte])
   | ((with_reducible first | refine awp_reg 37 hX [0, 2, 3, 4, 5, 6, 9, 18, 19, 20] ?_ | refine awp_drw 37 hX [0, 2, 3, 4, 5, 6, 9, 18, 19, 20] Tab.mixed (by kernel_rfl) ?_ | refine DEv_cut _ _ _ _ _ _ _ _ _ _ _ _ (by kernel_rfl) ?_ | change postOf _ _ _ _ _); simp [-List.reduceReplicate, Nat.add_one_le_iff, -getElem?_pos, -getElem?_neg, u64C, bC, hget, hget2, hlt])
   | ((first | (with_reducible refine awp_ret ?_; try simp only [thenA, inBlockA, noGotoA]) | ((with_reducible refine Den.at_ (f := 104) ?_); refine (pad_den n hn _).det ?_) | ((with_reducible refine drawn_at (f := 104) ?_); refine ⟨_, _, pad_den n hn _, fun _ => rfl, ?_⟩) | (refine (hW).det ?_) | (refine ⟨_, _, hW, fun _ => rfl, ?_⟩)); try simp [-List.reduceReplicate, Nat.add_one_le_iff, -getElem?_pos, -getElem?_neg, u64C, bC, hget, hget2, hlt])
   | (with_reducible refine awp_if_b rfl (fun hc => ?_) (fun hc => ?_) <;> (try simp [-getElem?_pos, -getElem?_neg] at hc) <;> (try (exfalso; omega)))
   | (with_reducible refine And.intro (by omega) ?_)
   | fail)
  refine awp_forU [2, 4, 18, 19] (fun i (_u : Unit) => [(19, .c (iC i))]) (fun i (_u : Unit) => ob ++ [⟨45, 1, false, 0, up (List.replicate 32 (C.v (Value.int IntKind.u8 0))), none⟩, ⟨155, 11, false, 0, up [wC v.a, wC v.b, wC v.c, wC v.d, wC v.e, wC v.f, wC v.g, wC v.h, C.v (Value.string r2), C.v (Value.int IntKind.u64 n2), C.v (Value.bool true)], none⟩, ⟨45, 1, false, 0, up (outTo v.l i), none⟩]) (fun i (_u : Unit) => True) (8) (()) (by first | trivial | (simp; done) | omega | (intros; simp at *; done)) (by simp [-List.reduceReplicate, keep, iC, outTo, wBytes, bC8]) (by simp [-List.reduceReplicate, iC, outTo, wBytes, bC8]) ?_
  rintro i _u Q1 hi hH next hother
  conv => arg 5; arg 1; simp only [List.cons_append, List.nil_append, keep, get, Nat.reduceEqDiff, if_true, if_false, ↓reduceIte]
  have hwi := wrap_in ((i : Int) + 1) (by omega)
  have hol := outTo_len v.l i (by show i ≤ 8; omega) rfl
  by_cases hlt : i < 8
  · have hlay := outTo_lay v.l i hlt rfl
    have hv : [wC v.a, wC v.b, wC v.c, wC v.d, wC v.e, wC v.f, wC v.g, wC v.h][i]? = some (wC (v.l.getD i 0)) := ws_get v.l i 8 hlt rfl
    have hw1 : IntKind.i64.wrap (4 * (i : Int)) = 4 * (i : Int) := wrap_in _ (by omega)
    have hw2 : IntKind.i64.wrap (4 * (i : Int) + 4) = 4 * (i : Int) + 4 := wrap_in _ (by omega)
    have h8 : (i : Int) < 8 := by omega
    have c1 : 0 ≤ 4 * (i : Int) := by omega
    have c2 : 4 * (i : Int) < 4 * (i : Int) + 4 := by omega
    have c3 : 4 * (i : Int) + 4 ≤ 32 := by omega
    have c4 : 4 * (i : Int) + 4 - 4 * (i : Int) = 4 := by omega
    have c5 : (4 * (i : Int)).toNat = 4 * i := by omega
    have c6 : 4 * i + 4 ≤ 32 := by omega
    have hpl := putN_len (v.l.getD i 0).toNat 4
    have hxl := (v.l.getD i 0).isLt
    have hbt := bs_toList (putN (v.l.getD i 0).toNat 4)
    have hbz := bs_size (putN (v.l.getD i 0).toNat 4)
    generalize v.l.getD i 0 = x at *
    have htk : ∀ f : UInt8 → C, ((putN x.toNat 4).map f).take 4 = (putN x.toNat 4).map f := fun f => List.take_of_length_le (by simp [hpl])
    have hfn : (fun b : UInt8 => C.v (.int .u8 (b.toNat : Int))) = bC8 := rfl
    repeat' (first 
     | (with_reducible first | refine awp_scope ?_ | refine awp_seq ?_ | refine awp_block ?_)
     | ((with_reducible first | refine awp_label ?_ | refine awp_skip ?_ | refine awp_exit ?_ | refine hother _ _ rfl ?_); try simp only [thenA, inBlockA, noGotoA, if_true, Nat.reduceEqDiff, if_false, ↓reduceIte])
     | ((with_reducible first | refine awp_reg 37 hX [0, 2, 3, 4, 5, 6, 9, 18, 19, 20] ?_ | refine awp_drw 37 hX [0, 2, 3, 4, 5, 6, 9, 18, 19, 20] Tab.mixed (by kernel_rfl) ?_ | refine DEv_cut _ _ _ _ _ _ _ _ _ _ _ _ (by kernel_rfl) ?_ | change postOf _ _ _ _ _); simp [-List.reduceReplicate, Nat.add_one_le_iff, -getElem?_pos, -getElem?_neg, iC, hlt, h8, hwi, hv, hw1, hw2, c1, c2, c3, c4, c5, c6, hol, hpl, hbt, hbz, htk, hfn])
     | ((first | (with_reducible refine awp_ret ?_; try simp only [thenA, inBlockA, noGotoA]) | ((with_reducible refine Den.at_ (f := 43) ?_); refine (put32_den x.toNat hxl _).det ?_) | ((with_reducible refine drawn_at (f := 43) ?_); refine ⟨_, _, put32_den x.toNat hxl _, fun _ => rfl, ?_⟩)); try simp [-List.reduceReplicate, Nat.add_one_le_iff, -getElem?_pos, -getElem?_neg, iC, hlt, h8, hwi, hv, hw1, hw2, c1, c2, c3, c4, c5, c6, hol, hpl, hbt, hbz, htk, hfn])
     | (with_reducible refine awp_if_b rfl (fun hc => ?_) (fun hc => ?_) <;> (try simp [-getElem?_pos, -getElem?_neg] at hc) <;> (try (exfalso; omega)))
     | (with_reducible refine And.intro (by omega) ?_)
     | fail)
    refine next _ _ (()) (by omega) (by first | trivial | omega | assumption) (by simp [-List.reduceReplicate, keep, iC, hlay]) (by simp [-List.reduceReplicate, iC, hlay])
  · obtain rfl : i = 8 := by omega
    have hfin : outTo v.l 8 = (wBytes v.l).map bC8 := by
      unfold outTo
      rw [List.take_of_length_le (by show 8 ≤ 8; omega)]
      simp
    have hl32 : (wBytes v.l).length = 32 := wBytes_len v.l
    have htk : ((wBytes v.l).map bC8).take 32 = (wBytes v.l).map bC8 := List.take_of_length_le (by simp [hl32])
    rw [hfin]
    repeat' (first 
     | (with_reducible first | refine awp_scope ?_ | refine awp_seq ?_ | refine awp_block ?_)
     | ((with_reducible first | refine awp_label ?_ | refine awp_skip ?_ | refine awp_exit ?_ | refine hother _ _ rfl ?_); try simp only [thenA, inBlockA, noGotoA, if_true, Nat.reduceEqDiff, if_false, ↓reduceIte])
     | ((with_reducible first | refine awp_reg 37 hX [0, 2, 3, 4, 5, 6, 9, 18, 19, 20] ?_ | refine awp_drw 37 hX [0, 2, 3, 4, 5, 6, 9, 18, 19, 20] Tab.mixed (by kernel_rfl) ?_ | refine DEv_cut _ _ _ _ _ _ _ _ _ _ _ _ (by kernel_rfl) ?_ | change postOf _ _ _ _ _); simp [-List.reduceReplicate, Nat.add_one_le_iff, -getElem?_pos, -getElem?_neg, iC, hl32, htk])
     | ((first | (with_reducible refine awp_ret ?_; try simp only [thenA, inBlockA, noGotoA])); try simp [-List.reduceReplicate, Nat.add_one_le_iff, -getElem?_pos, -getElem?_neg, iC, hl32, htk])
     | (with_reducible refine awp_if_b rfl (fun hc => ?_) (fun hc => ?_) <;> (try simp [-getElem?_pos, -getElem?_neg] at hc) <;> (try (exfalso; omega)))
     | (with_reducible refine And.intro (by omega) ?_)
     | fail)
    rw [hout]
    rfl
end Go.Av

set_option exponentiation.threshold 1000
set_option linter.unusedVariables false
set_option linter.unusedSimpArgs false
set_option maxRecDepth 100000
set_option maxHeartbeats 4000000
namespace Go.Av
open Go Go.Proofs Go.Proofs.Ytpcnacknlgmmlaa Go.RowKit
attribute [local simp] List.getElem?_cons_zero List.getElem?_cons_succ
theorem ext_list (t : ByteArray) (a b : Nat) : (t.extract a b).data.toList = (t.data.toList.drop a).take (b - a) := by
  rw [ByteArray.data_extract, Array.toList_extract]
theorem app_list (a b : ByteArray) : (a ++ b).data.toList = a.data.toList ++ b.data.toList := by simp
theorem blk_list (t : ByteArray) (i : Nat) : (blk t i).data.toList = (t.data.toList.drop (64 * i)).take 64 := by
  unfold blk
  rw [ext_list, show 64 * i + 64 - 64 * i = 64 by omega]
def restOf (t : ByteArray) : ByteArray := t.extract (64 * (t.size / 64)) t.size
theorem rest_list (t : ByteArray) : (restOf t).data.toList = t.data.toList.drop (64 * (t.size / 64)) := by
  unfold restOf
  rw [ext_list]
  exact List.take_of_length_le (by rw [List.length_drop, ← size_list]; omega)
theorem rest_size (t : ByteArray) : (restOf t).size = t.size % 64 := by rw [size_list, rest_list, List.length_drop, ← size_list]; omega
theorem blk_rest (t b : ByteArray) (i : Nat) : blk (t ++ b) (t.size / 64 + i) = blk (restOf t ++ b) i := by
  apply ba_ext
  rw [blk_list, blk_list, app_list, app_list, rest_list, Nat.mul_add, ← List.drop_drop, List.drop_append_of_le_length (by rw [← size_list]; omega)]
theorem blocks_congr (s : S8) (t t' : ByteArray) (n : Nat) (h : ∀ i, i < n → blk t i = blk t' i) : blocksTo s t n = blocksTo s t' n := by
  induction n with
  | zero => rfl
  | succ n ih => simp only [blocksTo]; rw [ih fun i hi => h i (by omega), h n (by omega)]
theorem blk_left (t b : ByteArray) (i : Nat) (h : i < t.size / 64) : blk (t ++ b) i = blk t i := by
  apply ba_ext
  rw [blk_list, blk_list, app_list, List.drop_append_of_le_length (by rw [← size_list]; omega), List.take_append_of_le_length (by rw [List.length_drop, ← size_list]; omega)]
theorem blocks_app (s : S8) (t b : ByteArray) (j : Nat) : blocksTo (blocksTo s t (t.size / 64)) (restOf t ++ b) j = blocksTo s (t ++ b) (t.size / 64 + j) := by
  induction j with
  | zero => exact (blocks_congr s _ _ _ fun i hi => blk_left t b i hi).symm
  | succ j ih => simp only [blocksTo]; rw [ih, ← blk_rest]; rfl
theorem count_app (t b : ByteArray) : (t ++ b).size / 64 = t.size / 64 + (restOf t ++ b).size / 64 := by
  rw [ByteArray.size_append, ByteArray.size_append, rest_size]; omega
def stT (t : ByteArray) : Ob := stO (blocksTo firstS t (t.size / 64)) (restOf t) t.size true
def st0 : Ob := stO ⟨0, 0, 0, 0, 0, 0, 0, 0⟩ ⟨#[]⟩ 0 false
def shaL (t : ByteArray) : List UInt8 := wBytes (blocksTo firstS (t ++ bsS (padL t.size)) ((t ++ bsS (padL t.size)).size / 64)).l
theorem empty_app (b : ByteArray) : (⟨#[]⟩ : ByteArray) ++ b = b := by apply ba_ext; simp
theorem write0_den (pre suf : List Ob) (b : ByteArray) (hb : b.size ≤ 1000000) :
    Den Try.prog 95 [.mp pre.length 0 0, .c (.v (.string b))] (pre ++ st0 :: suf) (fun r ob' => r = .tup [] ∧ ob' = pre ++ stT b :: suf) := by
  have h := write_den pre suf ⟨0, 0, 0, 0, 0, 0, 0, 0⟩ ⟨#[]⟩ 0 false b (by decide) hb (by omega)
  have hw : wS ⟨0, 0, 0, 0, 0, 0, 0, 0⟩ false = firstS := rfl
  have e2 : (0 + b.size) % 18446744073709551616 = b.size := by omega
  rw [hw, empty_app, e2] at h
  exact h
theorem sumT_den (ob : List Ob) (p : Nat) (t : ByteArray) (hget : ob[p]? = some (stT t)) (ht : t.size ≤ 800000) :
    Den Try.prog 96 [.mp p 0 0] ob (fun r ob' => r = hashM (shaL t) ∧ ob' = ob) := by
  have h := stateSum_den ob p _ _ _ _ hget (by rw [rest_size]; omega) (by omega)
  have e : sumS (blocksTo firstS t (t.size / 64)) (restOf t) t.size true = shaL t := by
    unfold sumS shaL
    have hw : wS (blocksTo firstS t (t.size / 64)) true = blocksTo firstS t (t.size / 64) := rfl
    rw [hw, blocks_app, ← count_app]
  rw [e] at h
  exact h
theorem sha_den (b : ByteArray) (hb : b.size ≤ 800000) : DenV Try.prog 80 [.c (.v (.string b))] (hashM (shaL b)) := by
  refine Den.frame rfl (lt_hash _ _) ?_
  obtain ⟨out, hout⟩ : ∃ out, out = shaL b := ⟨_, rfl⟩
  rw [← hout]
  refine den_of Try.func80 rfl rfl (by simp [Try.ntmps80]) (fun X hX hO => ?_)
  rw [Try.ntmps80] at hX
  simp only [Try.results80]
  have h1 := stateNew_den [⟨45, 1, false, 0, up (List.replicate 32 (C.v (Value.int IntKind.u8 0))), none⟩]
  have h2 := write0_den [⟨45, 1, false, 0, up (List.replicate 32 (C.v (Value.int IntKind.u8 0))), none⟩] [] b (by omega)
  have h3 := sumT_den [⟨45, 1, false, 0, up (List.replicate 32 (C.v (Value.int IntKind.u8 0))), none⟩, stT b] 1 b rfl hb
  rw [← hout] at h3
  have hl : out.length = 32 := by rw [hout]; exact wBytes_len _
  have htk : (out.map bC8).take 32 = out.map bC8 := List.take_of_length_le (by simp [hl])
  change Den Try.prog _ _ _ (fun r ob' => r = _ ∧ ob' = _ ++ [st0]) at h1
  simp [-List.reduceReplicate] at h1 h2
  repeat' (first 
   | (with_reducible first | refine awp_scope ?_ | refine awp_seq ?_ | refine awp_block ?_)
   | ((with_reducible first | refine awp_label ?_ | refine awp_skip ?_ | refine awp_exit ?_); try simp only [thenA, inBlockA, noGotoA, if_true, Nat.reduceEqDiff, if_false, ↓reduceIte])
   | ((with_reducible first | refine awp_reg 10 hX [0, 2, 3] ?_ | change postOf _ _ _ _ _); simp [-List.reduceReplicate, Nat.add_one_le_iff, -getElem?_pos, -getElem?_neg, hashM, hl, htk])
   | ((first | (with_reducible refine awp_ret ?_; try simp only [thenA, inBlockA, noGotoA]) | (refine (h1).det ?_) | (refine (h2).det ?_) | (refine (h3).det ?_)); try simp [-List.reduceReplicate, Nat.add_one_le_iff, -getElem?_pos, -getElem?_neg, hashM, hl, htk])
   | (with_reducible refine awp_if_b rfl (fun hc => ?_) (fun hc => ?_) <;> (try simp [-getElem?_pos, -getElem?_neg] at hc) <;> (try (exfalso; omega)))
   | (with_reducible refine And.intro (by omega) ?_)
   | fail)
end Go.Av

set_option exponentiation.threshold 1000
set_option linter.unusedVariables false
set_option linter.unusedSimpArgs false
set_option maxRecDepth 100000
set_option maxHeartbeats 4000000
namespace Go.Av
open Go Go.Proofs Go.Proofs.Ytpcnacknlgmmlaa Go.RowKit
attribute [local simp] List.getElem?_cons_zero List.getElem?_cons_succ
def outTo2 (l : List W) (j : Nat) (p : List UInt8) (q : Nat) : List C := (wBytes (l.take j) ++ p.take q).map bC8 ++ List.replicate (32 - 4 * j - q) (bC8 0)
end Go.Av

set_option exponentiation.threshold 1000
set_option linter.unusedVariables false
set_option linter.unusedSimpArgs false
set_option maxRecDepth 100000
set_option maxHeartbeats 4000000
namespace Go.Av
open Go Go.Proofs Go.Proofs.Ytpcnacknlgmmlaa Go.RowKit
attribute [local simp] List.getElem?_cons_zero List.getElem?_cons_succ
theorem shaL_len (t : ByteArray) : (shaL t).length = 32 := wBytes_len _
def primes8 : List Nat := [2, 3, 5, 7, 11, 13, 17, 19]
end Go.Av

set_option exponentiation.threshold 1000
set_option linter.unusedVariables false
set_option linter.unusedSimpArgs false
set_option maxRecDepth 100000
set_option maxHeartbeats 4000000
namespace Go.Av
open Go Go.Proofs Go.Proofs.Ytpcnacknlgmmlaa Go.RowKit
attribute [local simp] List.getElem?_cons_zero List.getElem?_cons_succ
def OpensW (P : Program) (t : TypeId) {A : Type} (enc : A → List C) (Hyp : A → Prop) : Prop :=
  ∀ (H : Type) (e0 : TypeId × Value → H) (W : World) (fuel : Nat) (cs : List Value) (x : DataW H × List MemPlace), (x.1.weights P t).all (· ≤ reachBytes) = true → DataW.trod e0 P W 0 (fun _ => true) true fuel t cs = some x → ∃ a, Hyp a ∧ Reads W (enc a) cs
theorem OpensW.conv {P : Program} {t : TypeId} {A B : Type} {enc : A → List C} {Hyp : A → Prop} {enc' : B → List C} {Hyp' : B → Prop} (h : OpensW P t enc Hyp) (hc : ∀ a, Hyp a → ∃ b, Hyp' b ∧ enc' b = enc a) : OpensW P t enc' Hyp' := fun H e0 W fuel cs x hw hx => by
  obtain ⟨a, ha, hr⟩ := h H e0 W fuel cs x hw hx
  obtain ⟨b, hb, he⟩ := hc a ha
  exact ⟨b, hb, by rw [he]; exact hr⟩
abbrev H32 := {l : List UInt8 // l.length = 32}
theorem opens_hash {P : Program} {t e : TypeId} (ht : P.underlying t = some (.array 32 e)) (he : P.underlying e = some (.int .u8)) (hc : P.cellsOf e = 1) (hct : P.cellsOf t = 32) :
    Opens P t (fun h : H32 => h.1.map bC8) (fun _ => True) :=
  (opens_array ht (by rw [hct, hc]) (by simp [hc]) (opens_int he)).conv fun l ⟨hl, hw⟩ => by
    refine ⟨⟨l.map fun n => UInt8.ofNat n.toNat, by simp [hl]⟩, trivial, ?_⟩
    have key : ∀ l' : List Int, (∀ n ∈ l', (Lit.int .u8 n).wf = true) → (l'.map fun n => UInt8.ofNat n.toNat).map bC8 = l'.flatMap fun n => [C.v (.int .u8 n)] := fun l' => by
      induction l' with
      | nil => intro _; rfl
      | cons n r ih =>
        intro hw
        have h : 0 ≤ n ∧ n ≤ 255 := by simpa [Lit.wf, IntKind.min, IntKind.max, IntKind.signed, IntKind.bits] using hw n (by simp)
        simp only [List.map_cons, List.flatMap_cons]
        rw [ih fun x hx => hw x (by simp [hx])]
        simp only [List.singleton_append, bC8, UInt8.toNat_ofNat']
        congr 4
        omega
    exact key l hw
end Go.Av

set_option exponentiation.threshold 1000
set_option linter.unusedVariables false
set_option linter.unusedSimpArgs false
set_option maxRecDepth 100000
set_option maxHeartbeats 4000000
namespace Go.Av
open Go Go.Proofs Go.Proofs.Ytpcnacknlgmmlaa Go.RowKit
attribute [local simp] List.getElem?_cons_zero List.getElem?_cons_succ
end Go.Av

set_option exponentiation.threshold 1000
set_option linter.unusedVariables false
set_option linter.unusedSimpArgs false
set_option maxRecDepth 100000
set_option maxHeartbeats 4000000
namespace Go.Av
open Go Go.Proofs Go.Proofs.Ytpcnacknlgmmlaa Go.RowKit
attribute [local simp] List.getElem?_cons_zero List.getElem?_cons_succ
theorem headerSum_den (s : ByteArray) (hs : s.size ≤ 2000) : DenV Try.prog 59 [.c (.v (.string s))] (hashM (shaL (bsS (headT s)))) := by
  have h1 : (bsS (headT s)).size = s.size + 1 := by rw [bs_size]; simp [headT]
  have h := sha_den (bsS (headT s)) (by omega)
  have ht := headerText_den s (by omega)
  have hl := shaL_len (bsS (headT s))
  generalize shaL (bsS (headT s)) = x at *
  generalize bsS (headT s) = y at *
  refine Den.frame rfl (lt_hash _ _) ?_
  refine den_of Try.func59 rfl rfl (by simp [Try.ntmps59]) (fun X hX hO => ?_)
  rw [Try.ntmps59] at hX
  simp only [Try.results59]
  have t1 := hash_take x hl
  repeat' (first 
   | (with_reducible first | refine awp_scope ?_ | refine awp_seq ?_ | refine awp_block ?_)
   | ((with_reducible first | refine awp_label ?_ | refine awp_skip ?_ | refine awp_exit ?_); try simp only [thenA, inBlockA, noGotoA, if_true, Nat.reduceEqDiff, if_false, ↓reduceIte])
   | ((with_reducible first | refine awp_reg 6 hX [0, 2] ?_ | change postOf _ _ _ _ _); simp [-List.reduceReplicate, Nat.add_one_le_iff, -getElem?_pos, -getElem?_neg, hashM, hl, t1])
   | ((first | (with_reducible refine awp_ret ?_; try simp only [thenA, inBlockA, noGotoA]) | (refine (ht _).det ?_) | (refine (h _).det ?_)); try simp [-List.reduceReplicate, Nat.add_one_le_iff, -getElem?_pos, -getElem?_neg, hashM, hl, t1])
   | (with_reducible refine awp_if_b rfl (fun hc => ?_) (fun hc => ?_) <;> (try simp [-getElem?_pos, -getElem?_neg] at hc) <;> (try (exfalso; omega)))
   | (with_reducible refine And.intro (by omega) ?_)
   | fail)
theorem rootSum_den (n : Nat) (a : List UInt8) (hn : n < 18446744073709551616) (ha : a.length = 32) : DenV Try.prog 76 [.c (u64C n), hashM a] (hashM (shaL (bsS (rootT n a)))) := by
  have h1 : (bsS (rootT n a)).size = 41 := by rw [bs_size]; simp [rootT, ha, putN_len]
  have h := sha_den (bsS (rootT n a)) (by omega)
  have ht := rootText_den n a hn ha
  have hl := shaL_len (bsS (rootT n a))
  generalize shaL (bsS (rootT n a)) = x at *
  generalize bsS (rootT n a) = y at *
  refine Den.frame (by simp [ltBs, ltB, lt_hash]) (lt_hash _ _) ?_
  refine den_of Try.func76 rfl rfl (by simp [Try.ntmps76]) (fun X hX hO => ?_)
  rw [Try.ntmps76] at hX
  simp only [Try.results76]
  have t1 := hash_take x hl
  have t2 := hash_take a ha
  repeat' (first 
   | (with_reducible first | refine awp_scope ?_ | refine awp_seq ?_ | refine awp_block ?_)
   | ((with_reducible first | refine awp_label ?_ | refine awp_skip ?_ | refine awp_exit ?_); try simp only [thenA, inBlockA, noGotoA, if_true, Nat.reduceEqDiff, if_false, ↓reduceIte])
   | ((with_reducible first | refine awp_reg 9 hX [0, 3, 4] ?_ | change postOf _ _ _ _ _); simp [-List.reduceReplicate, Nat.add_one_le_iff, -getElem?_pos, -getElem?_neg, hashM, hl, ha, t1, t2, u64C])
   | ((first | (with_reducible refine awp_ret ?_; try simp only [thenA, inBlockA, noGotoA]) | (refine (ht _).det ?_) | (refine (h _).det ?_)); try simp [-List.reduceReplicate, Nat.add_one_le_iff, -getElem?_pos, -getElem?_neg, hashM, hl, ha, t1, t2, u64C])
   | (with_reducible refine awp_if_b rfl (fun hc => ?_) (fun hc => ?_) <;> (try simp [-getElem?_pos, -getElem?_neg] at hc) <;> (try (exfalso; omega)))
   | (with_reducible refine And.intro (by omega) ?_)
   | fail)
end Go.Av

set_option exponentiation.threshold 1000
set_option linter.unusedVariables false
set_option linter.unusedSimpArgs false
set_option maxRecDepth 100000
set_option maxHeartbeats 4000000
namespace Go.Av
open Go Go.Proofs Go.Proofs.Ytpcnacknlgmmlaa Go.RowKit
attribute [local simp] List.getElem?_cons_zero List.getElem?_cons_succ
theorem data_inj (a b : ByteArray) : a.data.toList = b.data.toList ↔ a = b := ⟨ba_ext, fun h => by rw [h]⟩
def textAt (s : ByteArray) (a b : List UInt8) (n : Nat) : List (List UInt8) := [leafT s, nodeT a b, rootT n a, headT s]
def sameAt (s t : ByteArray) (a b c d : List UInt8) (n m : Nat) : List Bool := [decide (s = t), decide (a = c) && decide (b = d), decide (n = m) && decide (a = c), decide (s = t)]
theorem toList_inj (x y : ByteArray) : x.toList = y.toList ↔ x = y := by rw [toList_data, toList_data]; exact data_inj x y
end Go.Av

set_option exponentiation.threshold 1000
set_option linter.unusedVariables false
set_option linter.unusedSimpArgs false
set_option maxRecDepth 100000
set_option maxHeartbeats 4000000
namespace Go.Av
open Go Go.Proofs Go.Proofs.Ytpcnacknlgmmlaa Go.RowKit
attribute [local simp] List.getElem?_cons_zero List.getElem?_cons_succ
structure HD where
  v : Nat
  a : H32
  b : H32
  n : Nat
def u32v (n : Nat) : C := .v (.int .u32 (n : Int))
def hdC (h : HD) : List C := u32v h.v :: (h.a.1.map bC8 ++ (h.b.1.map bC8 ++ [u64C h.n]))
def HDok (h : HD) : Prop := h.v < 4294967296 ∧ h.n < 18446744073709551616
def hdL (h : HD) : List UInt8 := putN h.v 4 ++ (h.a.1 ++ (h.b.1 ++ putN h.n 8))
def hdM (h : HD) : M := .agg (up (hdC h))
theorem hdC_len (h : HD) : (hdC h).length = 66 := by simp [hdC, h.a.2, h.b.2]
theorem hdL_len (h : HD) : (hdL h).length = 76 := by simp [hdL, h.a.2, h.b.2, putN_len]
theorem hdC_0 (h : HD) : (hdC h)[0]? = some (u32v h.v) := rfl
theorem hdC_1 (h : HD) : ((hdC h).drop 1).take 32 = h.a.1.map bC8 := by
  simp only [hdC, List.drop_succ_cons, List.drop_zero]
  rw [List.take_append_of_le_length (by simp [h.a.2]), List.take_of_length_le (by simp [h.a.2])]
theorem hdC_33 (h : HD) : ((hdC h).drop 33).take 32 = h.b.1.map bC8 := by
  simp only [hdC, List.drop_succ_cons, List.drop_zero]
  rw [List.drop_append_of_le_length (by simp [h.a.2]), List.drop_of_length_le (by simp [h.a.2]), List.nil_append, List.take_append_of_le_length (by simp [h.b.2]), List.take_of_length_le (by simp [h.b.2])]
theorem hdC_65 (h : HD) : (hdC h)[65]? = some (u64C h.n) := by
  simp only [hdC, List.getElem?_cons_succ]
  rw [List.getElem?_append_right (by simp [h.a.2]), List.getElem?_append_right (by simp [h.a.2, h.b.2])]
  simp [h.a.2, h.b.2]
theorem hdC_66 (h : HD) : (hdC h).take 66 = hdC h := List.take_of_length_le (by rw [hdC_len]; exact Nat.le_refl _)
theorem hdC_up1 (h : HD) : List.take 32 (up (hdC h)).tail = up (h.a.1.map bC8) := by
  have := hdC_1 h
  simp only [List.drop_one] at this
  simp only [up, ← List.map_tail, ← List.map_take]
  rw [this]
theorem headBytes_den (h : HD) (hok : HDok h) : DenV Try.prog 25 [hdM h] (.c (.v (.string (bsS (hdL h))))) := by
  refine Den.frame (by simp [ltBs, ltB, hdM, ltBs_up]) rfl ?_
  have c0 := hdC_0 h
  have c1 := hdC_1 h
  have c1' := hdC_up1 h
  have c2 := hdC_33 h
  have c3 := hdC_65 h
  have c4 := hdC_len h
  have c5 := hdC_66 h
  have l4 := putN_len h.v 4
  have l8 := putN_len h.n 8
  have b1 := bytesM_b8 h.a.1
  have b2 := bytesM_b8 h.b.1
  have la := h.a.2
  have lb := h.b.2
  have p1 := put32_den h.v hok.1
  have p2 := put64_den h.n hok.2
  unfold hdM hdL
  generalize hdC h = hd at *
  refine den_of Try.func25 rfl rfl (by simp [Try.ntmps25]) (fun X hX hO => ?_)
  rw [Try.ntmps25] at hX
  simp only [Try.results25]
  repeat' (first 
   | (with_reducible first | refine awp_scope ?_ | refine awp_seq ?_ | refine awp_block ?_)
   | ((with_reducible first | refine awp_label ?_ | refine awp_skip ?_ | refine awp_exit ?_); try simp only [thenA, inBlockA, noGotoA, if_true, Nat.reduceEqDiff, if_false, ↓reduceIte])
   | ((with_reducible first | refine awp_reg 18 hX [1, 2] ?_ | refine awp_drw 18 hX [1, 2] Tab.mixed (by kernel_rfl) ?_ | refine DEv_cut _ _ _ _ _ _ _ _ _ _ _ _ (by kernel_rfl) ?_ | change postOf _ _ _ _ _); simp [-List.reduceReplicate, Nat.add_one_le_iff, -getElem?_pos, -getElem?_neg, c0, c1, c1', c2, c3, c4, c5, u32v, u64C, b1, b2, la, lb, l4, l8, bs_append, bs_size, of_list])
   | ((first | (with_reducible refine awp_ret ?_; try simp only [thenA, inBlockA, noGotoA]) | (refine (p1 _).det ?_) | (refine ⟨_, _, p1 _, fun _ => rfl, ?_⟩) | (refine (p2 _).det ?_) | (refine ⟨_, _, p2 _, fun _ => rfl, ?_⟩)); try simp [-List.reduceReplicate, Nat.add_one_le_iff, -getElem?_pos, -getElem?_neg, c0, c1, c1', c2, c3, c4, c5, u32v, u64C, b1, b2, la, lb, l4, l8, bs_append, bs_size, of_list])
   | (with_reducible refine awp_if_b rfl (fun hc => ?_) (fun hc => ?_) <;> (try simp [-getElem?_pos, -getElem?_neg] at hc) <;> (try (exfalso; omega)))
   | (with_reducible refine And.intro (by omega) ?_)
   | fail)
end Go.Av

set_option linter.unusedVariables false
set_option linter.unusedSimpArgs false
namespace Go.Av
open Go Go.Proofs
attribute [local simp] List.getElem?_cons_zero List.getElem?_cons_succ
def row (v : List (List Int)) (i : Int) : List Int := (v[i.toNat]?).getD []
def beats (v : List (List Int)) (i k : Int) : Bool := decide (0 ≤ i) && decide (i < v.length) && decide (0 ≤ k) && decide (k < (row v i).length) && decide (0 < ((row v i)[k.toNat]?).getD 0)
end Go.Av

set_option linter.unusedVariables false
set_option linter.unusedSimpArgs false
namespace Go.Av
open Go Go.Proofs
attribute [local simp] List.getElem?_cons_zero List.getElem?_cons_succ
def isTop (v : List (List Int)) (i : Nat) : Bool := (List.range v.length).all fun k => decide (k = i) || beats v i k
def topsTo (v : List (List Int)) (m : Nat) : List Int := ((List.range m).filter (isTop v)).map Int.ofNat
def tops (v : List (List Int)) : List Int := topsTo v v.length
end Go.Av

set_option linter.unusedVariables false
set_option linter.unusedSimpArgs false
namespace Go.Av
open Go Go.Proofs Go.Proofs.Ytpcnacknlgmmlaa
attribute [local simp] List.getElem?_cons_zero List.getElem?_cons_succ
def winsTo (v : List (List Int)) (i : Int) (m : Nat) : Nat := ((List.range m).filter fun (k : Nat) => !decide ((k : Int) = i) && beats v i k).length
end Go.Av

set_option linter.unusedVariables false
set_option linter.unusedSimpArgs false
namespace Go.Av
open Go Go.Proofs Go.Proofs.Ytpcnacknlgmmlaa
attribute [local simp] List.getElem?_cons_zero List.getElem?_cons_succ
def foldTo (v : List (List Int)) (o : List Int) : Nat → Int
  | 0 => -1
  | m + 1 => if m = 0 ∨ beats v ((o[m]?).getD 0) (foldTo v o m) = true then (o[m]?).getD 0 else foldTo v o m
def great (v : List (List Int)) : Bool := ((v.take 30).any fun r => decide (30 < r.length)) || decide (20 < v.length)
end Go.Av

set_option linter.unusedVariables false
set_option linter.unusedSimpArgs false
namespace Go.Av
open Go Go.Proofs Go.Proofs.Ytpcnacknlgmmlaa
attribute [local simp] List.getElem?_cons_zero List.getElem?_cons_succ
def foldTopsWant (v : List (List Int)) (m : Nat) : List Int := ((List.range m).filter fun (i : Nat) => decide ((winsTo v i v.length : Int) = v.length - 1)).map Int.ofNat
end Go.Av

set_option linter.unusedVariables false
set_option linter.unusedSimpArgs false
namespace Go.Av
open Go Go.Proofs Go.Proofs.Ytpcnacknlgmmlaa
attribute [local simp] List.getElem?_cons_zero List.getElem?_cons_succ
end Go.Av

set_option linter.unusedVariables false
set_option linter.unusedSimpArgs false
namespace Go.Av
open Go Go.Proofs Go.Proofs.Ytpcnacknlgmmlaa
attribute [local simp] List.getElem?_cons_zero List.getElem?_cons_succ
def rowN (v : List (List Int)) (i : Nat) : List Int := (v[i]?).getD []
def cellN (v : List (List Int)) (i k : Nat) : Int := ((rowN v i)[k]?).getD 0
def duelAt (v : List (List Int)) (i k : Nat) : Bool :=
  decide ((rowN v k).length = v.length) && (decide (cellN v i k = IntKind.i64.wrap (-cellN v k i)) && (decide (-1 ≤ cellN v i k) && decide (cellN v i k ≤ 1)))
def duelTo (v : List (List Int)) (i : Nat) (m : Nat) : Bool := (List.range m).all (duelAt v i)
def duelRow (v : List (List Int)) (i : Nat) : Bool := (decide ((rowN v i).length = v.length) && decide (cellN v i i = 0)) && duelTo v i (rowN v i).length
def duelB (v : List (List Int)) : Bool := (List.range v.length).all (duelRow v)
end Go.Av

set_option linter.unusedVariables false
set_option linter.unusedSimpArgs false
namespace Go.Av
open Go Go.Proofs Go.Proofs.Ytpcnacknlgmmlaa
attribute [local simp] List.getElem?_cons_zero List.getElem?_cons_succ
def sC (s : ByteArray) : C := .v (.string s)
def strsC (l : List ByteArray) : C := .sl (l.map sC) l.length false
def less (a b : ByteArray) : Bool := Op.bytesLess a.toList b.toList
def winsAll (v : List (List Int)) (m : Nat) : List Int := (List.range m).map fun (i : Nat) => (winsTo v i v.length : Int)
def keyN (keys : List ByteArray) (i : Nat) : ByteArray := (keys[i]?).getD ByteArray.empty
def worse (keys : List ByteArray) (v : List (List Int)) (at_ i : Nat) : Bool :=
  decide (winsTo v at_ v.length < winsTo v i v.length) || (decide (winsTo v i v.length = winsTo v at_ v.length) && less (keyN keys i) (keyN keys at_))
def awins (keys : List ByteArray) (v : List (List Int)) (a : Int) : Bool :=
  (((decide (0 ≤ a) && decide (a < keys.length)) && decide (v.length = keys.length)) && (List.range v.length).all fun i => !worse keys v a.toNat i) && (tops v).all fun t => decide (t = a)
end Go.Av

set_option exponentiation.threshold 1000
set_option linter.unusedVariables false
set_option linter.unusedSimpArgs false
set_option maxRecDepth 100000
set_option maxHeartbeats 4000000
namespace Go.Av
open Go Go.Proofs Go.Proofs.Ytpcnacknlgmmlaa Go.RowKit
attribute [local simp] List.getElem?_cons_zero List.getElem?_cons_succ
attribute [local simp] Try.underlying9 Try.underlying3 Try.underlying4 Try.underlying27
structure Cu where
  b : ByteArray
  e : Int
def e0 : ByteArray := ⟨#[]⟩
def cuC (c : Cu) : List C := [.v (.string c.b), iC c.e]
def cuM (c : Cu) : M := .agg (up (cuC c))
def failC (c : Cu) (e : Int) : Cu := if c.e = 0 ∧ e ≠ 0 then ⟨e0, e⟩ else c
def doneC (c : Cu) : Int := if c.e = 0 ∧ c.b.size ≠ 0 then 2 else c.e
theorem size0_eq (b : ByteArray) : b.size = 0 ↔ b = ByteArray.empty := by
  constructor
  · intro h
    cases b with
    | mk d => simp [ByteArray.size] at h; subst h; rfl
  · rintro rfl; rfl
theorem toList_ne {b : ByteArray} (h : ¬ b = ByteArray.empty) : ¬ b.toList = [] := by
  rw [toList_data]
  intro h2
  refine h ((size0_eq b).1 ?_)
  have := congrArg List.length h2
  rw [Array.length_toList] at this
  exact this
def cutC (c : Cu) (n : Nat) : ByteArray × Cu := if c.e ≠ 0 then (e0, c) else if c.b.size < n then (e0, ⟨e0, 1⟩) else (c.b.extract 0 n, ⟨c.b.extract n c.b.size, 0⟩)
def rawC (c : Cu) (n : Int) : ByteArray × Cu := if n < 0 then (e0, failC c 3) else cutC c n.toNat
def numC (c : Cu) (most : Nat) : Nat × Cu :=
  if c.e ≠ 0 then (0, c) else if (takeV c.b).2.2 ≠ 0 then (0, ⟨e0, (takeV c.b).2.2⟩) else if most < (takeV c.b).1 then (0, ⟨e0, 3⟩) else ((takeV c.b).1, ⟨c.b.extract (takeV c.b).2.1 c.b.size, 0⟩)
theorem takeV_ok (b : ByteArray) : (takeV b).2.1 ≤ b.size ∧ (takeV b).1 < 18446744073709551616 ∧ (takeV b).2.2 ≤ 3 ∧ (takeV b).2.1 ≤ 10 ∧ ((takeV b).2.2 = 0 → 0 < (takeV b).2.1) := by
  have htv : takeV b = if leadV 10 b.data.toList = 10 then (0, 0, 2) else if leadV 10 b.data.toList = b.data.toList.length then (0, 0, 1) else if 0 < leadV 10 b.data.toList ∧ (b.data.toList.getD (leadV 10 b.data.toList) 0).toNat = 0 then (0, 0, 2) else if leadV 10 b.data.toList = 9 ∧ 1 < (b.data.toList.getD (leadV 10 b.data.toList) 0).toNat then (0, 0, 3) else (valV b.data.toList (leadV 10 b.data.toList + 1), leadV 10 b.data.toList + 1, 0) := rfl
  obtain ⟨s1, s2, s3, s4⟩ := leadV_spec 10 b.data.toList
  have hlen : b.data.toList.length = b.size := by rw [Array.length_toList]; rfl
  have hvu := valV_u64 b.data.toList (leadV 10 b.data.toList)
  rw [htv]
  split
  · simp
  · split
    · simp
    · split
      · simp
      · split
        · simp
        · rename_i h1 h2 h3 h4
          refine ⟨by simp only; omega, by simp only; exact hvu (by omega) (by omega), by simp, by simp only; omega, by simp⟩
end Go.Av

set_option exponentiation.threshold 1000
set_option linter.unusedVariables false
set_option linter.unusedSimpArgs false
set_option maxRecDepth 100000
set_option maxHeartbeats 4000000
namespace Go.Av
open Go Go.Proofs Go.Proofs.Ytpcnacknlgmmlaa Go.RowKit
attribute [local simp] List.getElem?_cons_zero List.getElem?_cons_succ
attribute [local simp] Try.underlying9 Try.underlying3 Try.underlying4 Try.underlying27
def curO (c : Cu) : Ob := ⟨99, 2, false, 0, up (cuC c), none⟩
theorem set_same {α : Type} (l : List α) (i : Nat) (x : α) (h : l[i]? = some x) : l.set i x = l := by
  apply List.ext_getElem?
  intro j
  rw [List.getElem?_set]
  split
  · rename_i hij
    subst hij
    obtain ⟨h1, h2⟩ := List.getElem?_eq_some_iff.1 h
    rw [if_pos h1, h]
  · rfl
theorem get_set {α : Type} (l : List α) (i : Nat) (x : α) (h : l[i]? = some x) (y : α) : (l.set i y)[i]? = some y := by
  have := (List.getElem?_eq_some_iff.1 h).1
  simp [this]
theorem read_den (s : ByteArray) (ob : List Ob) : Den Try.prog 30 [.c (sC s)] ob (fun r ob' => r = .mp ob.length 0 0 ∧ ob' = ob ++ [curO ⟨s, 0⟩]) := by
  refine den_of Try.func30 rfl rfl (by simp [Try.ntmps30]) (fun X hX hO => ?_)
  rw [Try.ntmps30] at hX
  simp only [Try.results30]
  repeat' (first 
   | (with_reducible first | refine awp_scope ?_ | refine awp_seq ?_ | refine awp_block ?_)
   | ((with_reducible first | refine awp_label ?_ | refine awp_skip ?_ | refine awp_exit ?_); try simp only [thenA, inBlockA, noGotoA, if_true, Nat.reduceEqDiff, if_false, ↓reduceIte])
   | ((with_reducible first | refine awp_reg 7 hX [0, 2] ?_ | change postOf _ _ _ _ _); simp [-List.reduceReplicate, Nat.add_one_le_iff, -getElem?_pos, -getElem?_neg, sC, curO, cuC, iC])
   | ((first | (with_reducible refine awp_ret ?_; try simp only [thenA, inBlockA, noGotoA])); try simp [-List.reduceReplicate, Nat.add_one_le_iff, -getElem?_pos, -getElem?_neg, sC, curO, cuC, iC])
   | (with_reducible refine awp_if_b rfl (fun hc => ?_) (fun hc => ?_) <;> (try simp [-getElem?_pos, -getElem?_neg] at hc) <;> (try (exfalso; omega)))
   | (with_reducible refine And.intro (by omega) ?_)
   | fail)
  all_goals rfl
theorem sfail_den (i : Nat) (c : Cu) (e : Int) (ob : List Ob) (h : ob[i]? = some (curO c)) : Den Try.prog 75 [.mp i 0 0, .c (iC e)] ob (fun r ob' => r = .tup [] ∧ ob' = ob.set i (curO (failC c e))) := by
  have hs := set_same ob i _ h
  have hg := get_set ob i _ h
  obtain ⟨b, f⟩ := c
  unfold failC
  refine den_of Try.func75 rfl rfl (by simp [Try.ntmps75]) (fun X hX hO => ?_)
  rw [Try.ntmps75] at hX
  simp only [Try.results75]
  by_cases h1 : f = 0
  · subst h1
    by_cases h2 : e = 0
    · subst h2
      simp only [curO, cuC, iC] at h hs
      repeat' (first 
       | (with_reducible first | refine awp_scope ?_ | refine awp_seq ?_ | refine awp_block ?_)
       | ((with_reducible first | refine awp_label ?_ | refine awp_skip ?_ | refine awp_exit ?_); try simp only [thenA, inBlockA, noGotoA, if_true, Nat.reduceEqDiff, if_false, ↓reduceIte])
       | ((with_reducible first | refine awp_reg 20 hX [0, 1, 12] ?_ | change postOf _ _ _ _ _); simp [-List.reduceReplicate, Nat.add_one_le_iff, -getElem?_pos, -getElem?_neg, curO, cuC, iC, e0, h, hs])
       | ((first | (with_reducible refine awp_ret ?_; try simp only [thenA, inBlockA, noGotoA])); try simp [-List.reduceReplicate, Nat.add_one_le_iff, -getElem?_pos, -getElem?_neg, curO, cuC, iC, e0, h, hs])
       | (with_reducible refine awp_if_b rfl (fun hc => ?_) (fun hc => ?_) <;> (try simp [-getElem?_pos, -getElem?_neg] at hc) <;> (try (exfalso; omega)))
       | ((with_reducible first | refine GuardK_b (fun hc => ?_) (fun hc => ?_)) <;> (try simp only [Bool.not_eq_true', Bool.not_eq_false', decide_eq_true_eq, decide_eq_false_iff_not] at hc) <;> (first | (exfalso; omega) | skip) <;> simp [-List.reduceReplicate, Nat.add_one_le_iff, -getElem?_pos, -getElem?_neg, curO, cuC, iC, e0, h, hs, hc])
       | (with_reducible refine And.intro (by omega) ?_)
       | fail)
    · repeat' (first 
       | (with_reducible first | refine awp_scope ?_ | refine awp_seq ?_ | refine awp_block ?_)
       | ((with_reducible first | refine awp_label ?_ | refine awp_skip ?_ | refine awp_exit ?_); try simp only [thenA, inBlockA, noGotoA, if_true, Nat.reduceEqDiff, if_false, ↓reduceIte])
       | ((with_reducible first | refine awp_reg 20 hX [0, 1, 12] ?_ | change postOf _ _ _ _ _); simp [-List.reduceReplicate, Nat.add_one_le_iff, -getElem?_pos, -getElem?_neg, curO, cuC, iC, e0, h2, h, hg])
       | ((first | (with_reducible refine awp_ret ?_; try simp only [thenA, inBlockA, noGotoA])); try simp [-List.reduceReplicate, Nat.add_one_le_iff, -getElem?_pos, -getElem?_neg, curO, cuC, iC, e0, h2, h, hg])
       | (with_reducible refine awp_if_b rfl (fun hc => ?_) (fun hc => ?_) <;> (try simp [-getElem?_pos, -getElem?_neg] at hc) <;> (try (exfalso; omega)))
       | ((with_reducible first | refine GuardK_b (fun hc => ?_) (fun hc => ?_)) <;> (try simp only [Bool.not_eq_true', Bool.not_eq_false', decide_eq_true_eq, decide_eq_false_iff_not] at hc) <;> (first | (exfalso; omega) | skip) <;> simp [-List.reduceReplicate, Nat.add_one_le_iff, -getElem?_pos, -getElem?_neg, curO, cuC, iC, e0, h2, h, hg, hc])
       | (with_reducible refine And.intro (by omega) ?_)
       | fail)
      all_goals trace_state
  · simp only [curO, cuC, iC] at h hs
    repeat' (first 
     | (with_reducible first | refine awp_scope ?_ | refine awp_seq ?_ | refine awp_block ?_)
     | ((with_reducible first | refine awp_label ?_ | refine awp_skip ?_ | refine awp_exit ?_); try simp only [thenA, inBlockA, noGotoA, if_true, Nat.reduceEqDiff, if_false, ↓reduceIte])
     | ((with_reducible first | refine awp_reg 20 hX [0, 1, 12] ?_ | change postOf _ _ _ _ _); simp [-List.reduceReplicate, Nat.add_one_le_iff, -getElem?_pos, -getElem?_neg, curO, cuC, iC, e0, h1, h, hs])
     | ((first | (with_reducible refine awp_ret ?_; try simp only [thenA, inBlockA, noGotoA])); try simp [-List.reduceReplicate, Nat.add_one_le_iff, -getElem?_pos, -getElem?_neg, curO, cuC, iC, e0, h1, h, hs])
     | (with_reducible refine awp_if_b rfl (fun hc => ?_) (fun hc => ?_) <;> (try simp [-getElem?_pos, -getElem?_neg] at hc) <;> (try (exfalso; omega)))
     | ((with_reducible first | refine GuardK_b (fun hc => ?_) (fun hc => ?_)) <;> (try simp only [Bool.not_eq_true', Bool.not_eq_false', decide_eq_true_eq, decide_eq_false_iff_not] at hc) <;> (first | (exfalso; omega) | skip) <;> simp [-List.reduceReplicate, Nat.add_one_le_iff, -getElem?_pos, -getElem?_neg, curO, cuC, iC, e0, h1, h, hs, hc])
     | (with_reducible refine And.intro (by omega) ?_)
     | fail)
theorem Fail_den (i : Nat) (c : Cu) (e : Int) (ob : List Ob) (h : ob[i]? = some (curO c)) : Den Try.prog 51 [.mp i 0 0, .c (iC e)] ob (fun r ob' => r = .tup [] ∧ ob' = ob.set i (curO (failC c e))) := by
  have hf := sfail_den i c e ob h
  generalize failC c e = d at *
  simp only [curO] at h
  refine den_of Try.func51 rfl rfl (by simp [Try.ntmps51]) (fun X hX hO => ?_)
  rw [Try.ntmps51] at hX
  simp only [Try.results51]
  repeat' (first 
   | (with_reducible first | refine awp_scope ?_ | refine awp_seq ?_ | refine awp_block ?_)
   | ((with_reducible first | refine awp_label ?_ | refine awp_skip ?_ | refine awp_exit ?_); try simp only [thenA, inBlockA, noGotoA, if_true, Nat.reduceEqDiff, if_false, ↓reduceIte])
   | ((with_reducible first | refine awp_reg 11 hX [0, 1, 5] ?_ | change postOf _ _ _ _ _); simp [-List.reduceReplicate, Nat.add_one_le_iff, -getElem?_pos, -getElem?_neg, iC, h])
   | ((first | (with_reducible refine awp_ret ?_; try simp only [thenA, inBlockA, noGotoA]) | (refine (hf).det ?_)); try simp [-List.reduceReplicate, Nat.add_one_le_iff, -getElem?_pos, -getElem?_neg, iC, h])
   | (with_reducible refine awp_if_b rfl (fun hc => ?_) (fun hc => ?_) <;> (try simp [-getElem?_pos, -getElem?_neg] at hc) <;> (try (exfalso; omega)))
   | (with_reducible refine And.intro (by omega) ?_)
   | fail)
theorem cut_den (i : Nat) (c : Cu) (n : Nat) (ob : List Ob) (h : ob[i]? = some (curO c)) : Den Try.prog 52 [.mp i 0 0, .c (iC n)] ob (fun r ob' => r = .c (sC (cutC c n).1) ∧ ob' = ob.set i (curO (cutC c n).2)) := by
  have hs := set_same ob i _ h
  have hg := get_set ob i _ h
  have hf := sfail_den i c 1 ob h
  unfold cutC
  obtain ⟨b, f⟩ := c
  refine den_of Try.func52 rfl rfl (by simp [Try.ntmps52]) (fun X hX hO => ?_)
  rw [Try.ntmps52] at hX
  simp only [Try.results52]
  by_cases h1 : f = 0
  · subst h1
    rw [show failC ⟨b, 0⟩ 1 = ⟨e0, 1⟩ by simp [failC]] at hf
    by_cases h2 : b.size < n
    · have h3 : (b.size : Int) < (n : Int) := by omega
      simp only [curO, cuC, iC] at h hs hf
      repeat' (first 
       | (with_reducible first | refine awp_scope ?_ | refine awp_seq ?_ | refine awp_block ?_)
       | ((with_reducible first | refine awp_label ?_ | refine awp_skip ?_ | refine awp_exit ?_); try simp only [thenA, inBlockA, noGotoA, if_true, Nat.reduceEqDiff, if_false, ↓reduceIte])
       | ((with_reducible first | refine awp_reg 43 hX [0, 1, 4, 5, 19, 26] ?_ | change postOf _ _ _ _ _); simp [-List.reduceReplicate, Nat.add_one_le_iff, -getElem?_pos, -getElem?_neg, curO, cuC, iC, e0, h, hs, hg, h2, h3, sC])
       | ((first | (with_reducible refine awp_ret ?_; try simp only [thenA, inBlockA, noGotoA]) | (refine (hf).det ?_)); try simp [-List.reduceReplicate, Nat.add_one_le_iff, -getElem?_pos, -getElem?_neg, curO, cuC, iC, e0, h, hs, hg, h2, h3, sC])
       | (with_reducible refine awp_if_b rfl (fun hc => ?_) (fun hc => ?_) <;> (try simp [-getElem?_pos, -getElem?_neg] at hc) <;> (try (exfalso; omega)))
       | ((with_reducible first | refine GuardK_b (fun hc => ?_) (fun hc => ?_)) <;> (try simp only [Bool.not_eq_true', Bool.not_eq_false', decide_eq_true_eq, decide_eq_false_iff_not] at hc) <;> (first | (exfalso; omega) | skip) <;> simp [-List.reduceReplicate, Nat.add_one_le_iff, -getElem?_pos, -getElem?_neg, curO, cuC, iC, e0, h, hs, hg, h2, h3, sC, hc])
       | (with_reducible refine And.intro (by omega) ?_)
       | fail)
    · have h3 : ¬ (b.size : Int) < (n : Int) := by omega
      have h4 : (n : Int) ≤ (b.size : Int) := by omega
      have h5 : n ≤ b.size := by omega
      simp only [curO, cuC, iC] at h hs
      repeat' (first 
       | (with_reducible first | refine awp_scope ?_ | refine awp_seq ?_ | refine awp_block ?_)
       | ((with_reducible first | refine awp_label ?_ | refine awp_skip ?_ | refine awp_exit ?_); try simp only [thenA, inBlockA, noGotoA, if_true, Nat.reduceEqDiff, if_false, ↓reduceIte])
       | ((with_reducible first | refine awp_reg 43 hX [0, 1, 4, 5, 19, 26] ?_ | change postOf _ _ _ _ _); simp [-List.reduceReplicate, Nat.add_one_le_iff, -getElem?_pos, -getElem?_neg, curO, cuC, iC, e0, h, hs, hg, h2, h3, h4, h5, sC])
       | ((first | (with_reducible refine awp_ret ?_; try simp only [thenA, inBlockA, noGotoA])); try simp [-List.reduceReplicate, Nat.add_one_le_iff, -getElem?_pos, -getElem?_neg, curO, cuC, iC, e0, h, hs, hg, h2, h3, h4, h5, sC])
       | (with_reducible refine awp_if_b rfl (fun hc => ?_) (fun hc => ?_) <;> (try simp [-getElem?_pos, -getElem?_neg] at hc) <;> (try (exfalso; omega)))
       | ((with_reducible first | refine GuardK_b (fun hc => ?_) (fun hc => ?_)) <;> (try simp only [Bool.not_eq_true', Bool.not_eq_false', decide_eq_true_eq, decide_eq_false_iff_not] at hc) <;> (first | (exfalso; omega) | skip) <;> simp [-List.reduceReplicate, Nat.add_one_le_iff, -getElem?_pos, -getElem?_neg, curO, cuC, iC, e0, h, hs, hg, h2, h3, h4, h5, sC, hc])
       | (with_reducible refine And.intro (by omega) ?_)
       | fail)
      all_goals trace_state
  · simp only [curO, cuC, iC] at h hs
    repeat' (first 
     | (with_reducible first | refine awp_scope ?_ | refine awp_seq ?_ | refine awp_block ?_)
     | ((with_reducible first | refine awp_label ?_ | refine awp_skip ?_ | refine awp_exit ?_); try simp only [thenA, inBlockA, noGotoA, if_true, Nat.reduceEqDiff, if_false, ↓reduceIte])
     | ((with_reducible first | refine awp_reg 43 hX [0, 1, 4, 5, 19, 26] ?_ | change postOf _ _ _ _ _); simp [-List.reduceReplicate, Nat.add_one_le_iff, -getElem?_pos, -getElem?_neg, curO, cuC, iC, e0, h1, h, hs, sC])
     | ((first | (with_reducible refine awp_ret ?_; try simp only [thenA, inBlockA, noGotoA])); try simp [-List.reduceReplicate, Nat.add_one_le_iff, -getElem?_pos, -getElem?_neg, curO, cuC, iC, e0, h1, h, hs, sC])
     | (with_reducible refine awp_if_b rfl (fun hc => ?_) (fun hc => ?_) <;> (try simp [-getElem?_pos, -getElem?_neg] at hc) <;> (try (exfalso; omega)))
     | ((with_reducible first | refine GuardK_b (fun hc => ?_) (fun hc => ?_)) <;> (try simp only [Bool.not_eq_true', Bool.not_eq_false', decide_eq_true_eq, decide_eq_false_iff_not] at hc) <;> (first | (exfalso; omega) | skip) <;> simp [-List.reduceReplicate, Nat.add_one_le_iff, -getElem?_pos, -getElem?_neg, curO, cuC, iC, e0, h1, h, hs, sC, hc])
     | (with_reducible refine And.intro (by omega) ?_)
     | fail)
end Go.Av

set_option exponentiation.threshold 1000
set_option linter.unusedVariables false
set_option linter.unusedSimpArgs false
set_option maxRecDepth 100000
set_option maxHeartbeats 4000000
namespace Go.Av
open Go Go.Proofs Go.Proofs.Ytpcnacknlgmmlaa Go.RowKit
attribute [local simp] List.getElem?_cons_zero List.getElem?_cons_succ
attribute [local simp] Try.underlying9 Try.underlying3 Try.underlying4 Try.underlying27 Try.underlying45
theorem Raw_den (i : Nat) (c : Cu) (n : Int) (ob : List Ob) (h : ob[i]? = some (curO c)) : Den Try.prog 47 [.mp i 0 0, .c (iC n)] ob (fun r ob' => r = .c (sC (rawC c n).1) ∧ ob' = ob.set i (curO (rawC c n).2)) := by
  unfold rawC
  by_cases hn : n < 0
  · have hf := Fail_den i c 3 ob h
    generalize failC c 3 = d at *
    simp only [curO] at h
    refine den_of Try.func47 rfl rfl (by simp [Try.ntmps47]) (fun X hX hO => ?_)
    rw [Try.ntmps47] at hX
    simp only [Try.results47]
    repeat' (first 
     | (with_reducible first | refine awp_scope ?_ | refine awp_seq ?_ | refine awp_block ?_)
     | ((with_reducible first | refine awp_label ?_ | refine awp_skip ?_ | refine awp_exit ?_); try simp only [thenA, inBlockA, noGotoA, if_true, Nat.reduceEqDiff, if_false, ↓reduceIte])
     | ((with_reducible first | refine awp_reg 20 hX [0, 1, 4, 10, 12] ?_ | change postOf _ _ _ _ _); simp [-List.reduceReplicate, Nat.add_one_le_iff, -getElem?_pos, -getElem?_neg, iC, h, hn, sC, e0])
     | ((first | (with_reducible refine awp_ret ?_; try simp only [thenA, inBlockA, noGotoA]) | (refine (hf).det ?_)); try simp [-List.reduceReplicate, Nat.add_one_le_iff, -getElem?_pos, -getElem?_neg, iC, h, hn, sC, e0])
     | (with_reducible refine awp_if_b rfl (fun hc => ?_) (fun hc => ?_) <;> (try simp [-getElem?_pos, -getElem?_neg] at hc) <;> (try (exfalso; omega)))
     | ((with_reducible first | refine GuardK_b (fun hc => ?_) (fun hc => ?_)) <;> (try simp only [Bool.not_eq_true', Bool.not_eq_false', decide_eq_true_eq, decide_eq_false_iff_not] at hc) <;> (first | (exfalso; omega) | skip) <;> simp [-List.reduceReplicate, Nat.add_one_le_iff, -getElem?_pos, -getElem?_neg, iC, h, hn, sC, e0, hc])
     | (with_reducible refine And.intro (by omega) ?_)
     | fail)
  · obtain ⟨k, rfl⟩ := Int.eq_ofNat_of_zero_le (by omega : 0 ≤ n)
    have hf := cut_den i c k ob h
    simp only [hn, if_false, Int.toNat_natCast]
    generalize cutC c k = p at *
    obtain ⟨s, d⟩ := p
    simp only [curO] at h
    refine den_of Try.func47 rfl rfl (by simp [Try.ntmps47]) (fun X hX hO => ?_)
    rw [Try.ntmps47] at hX
    simp only [Try.results47]
    repeat' (first 
     | (with_reducible first | refine awp_scope ?_ | refine awp_seq ?_ | refine awp_block ?_)
     | ((with_reducible first | refine awp_label ?_ | refine awp_skip ?_ | refine awp_exit ?_); try simp only [thenA, inBlockA, noGotoA, if_true, Nat.reduceEqDiff, if_false, ↓reduceIte])
     | ((with_reducible first | refine awp_reg 20 hX [0, 1, 4, 10, 12] ?_ | change postOf _ _ _ _ _); simp [-List.reduceReplicate, Nat.add_one_le_iff, -getElem?_pos, -getElem?_neg, iC, h, hn, sC])
     | ((first | (with_reducible refine awp_ret ?_; try simp only [thenA, inBlockA, noGotoA]) | (refine (hf).det ?_)); try simp [-List.reduceReplicate, Nat.add_one_le_iff, -getElem?_pos, -getElem?_neg, iC, h, hn, sC])
     | (with_reducible refine awp_if_b rfl (fun hc => ?_) (fun hc => ?_) <;> (try simp [-getElem?_pos, -getElem?_neg] at hc) <;> (try (exfalso; omega)))
     | ((with_reducible first | refine GuardK_b (fun hc => ?_) (fun hc => ?_)) <;> (try simp only [Bool.not_eq_true', Bool.not_eq_false', decide_eq_true_eq, decide_eq_false_iff_not] at hc) <;> (first | (exfalso; omega) | skip) <;> simp [-List.reduceReplicate, Nat.add_one_le_iff, -getElem?_pos, -getElem?_neg, iC, h, hn, sC, hc])
     | (with_reducible refine And.intro (by omega) ?_)
     | fail)
theorem Err_den (i : Nat) (c : Cu) (ob : List Ob) (h : ob[i]? = some (curO c)) : Den Try.prog 53 [.mp i 0 0] ob (fun r ob' => r = .c (iC c.e) ∧ ob' = ob) := by
  obtain ⟨b, f⟩ := c
  simp only [curO, cuC, iC] at h
  refine den_of Try.func53 rfl rfl (by simp [Try.ntmps53]) (fun X hX hO => ?_)
  rw [Try.ntmps53] at hX
  simp only [Try.results53]
  repeat' (first 
   | (with_reducible first | refine awp_scope ?_ | refine awp_seq ?_ | refine awp_block ?_)
   | ((with_reducible first | refine awp_label ?_ | refine awp_skip ?_ | refine awp_exit ?_); try simp only [thenA, inBlockA, noGotoA, if_true, Nat.reduceEqDiff, if_false, ↓reduceIte])
   | ((with_reducible first | refine awp_reg 10 hX [0, 2, 4] ?_ | change postOf _ _ _ _ _); simp [-List.reduceReplicate, Nat.add_one_le_iff, -getElem?_pos, -getElem?_neg, iC, h])
   | ((first | (with_reducible refine awp_ret ?_; try simp only [thenA, inBlockA, noGotoA])); try simp [-List.reduceReplicate, Nat.add_one_le_iff, -getElem?_pos, -getElem?_neg, iC, h])
   | (with_reducible refine awp_if_b rfl (fun hc => ?_) (fun hc => ?_) <;> (try simp [-getElem?_pos, -getElem?_neg] at hc) <;> (try (exfalso; omega)))
   | (with_reducible refine And.intro (by omega) ?_)
   | fail)
theorem Left_den (i : Nat) (c : Cu) (ob : List Ob) (h : ob[i]? = some (curO c)) : Den Try.prog 54 [.mp i 0 0] ob (fun r ob' => r = .c (iC c.b.size) ∧ ob' = ob) := by
  obtain ⟨b, f⟩ := c
  simp only [curO, cuC, iC] at h
  refine den_of Try.func54 rfl rfl (by simp [Try.ntmps54]) (fun X hX hO => ?_)
  rw [Try.ntmps54] at hX
  simp only [Try.results54]
  repeat' (first 
   | (with_reducible first | refine awp_scope ?_ | refine awp_seq ?_ | refine awp_block ?_)
   | ((with_reducible first | refine awp_label ?_ | refine awp_skip ?_ | refine awp_exit ?_); try simp only [thenA, inBlockA, noGotoA, if_true, Nat.reduceEqDiff, if_false, ↓reduceIte])
   | ((with_reducible first | refine awp_reg 11 hX [0, 2, 4] ?_ | change postOf _ _ _ _ _); simp [-List.reduceReplicate, Nat.add_one_le_iff, -getElem?_pos, -getElem?_neg, iC, h])
   | ((first | (with_reducible refine awp_ret ?_; try simp only [thenA, inBlockA, noGotoA])); try simp [-List.reduceReplicate, Nat.add_one_le_iff, -getElem?_pos, -getElem?_neg, iC, h])
   | (with_reducible refine awp_if_b rfl (fun hc => ?_) (fun hc => ?_) <;> (try simp [-getElem?_pos, -getElem?_neg] at hc) <;> (try (exfalso; omega)))
   | (with_reducible refine And.intro (by omega) ?_)
   | fail)
theorem Done_den (i : Nat) (c : Cu) (ob : List Ob) (h : ob[i]? = some (curO c)) : Den Try.prog 34 [.mp i 0 0] ob (fun r ob' => r = .c (iC (doneC c)) ∧ ob' = ob) := by
  have c1 := Err_den i c ob h
  have c2 := Left_den i c ob h
  unfold doneC
  obtain ⟨b, f⟩ := c
  simp only at c1 c2 ⊢
  refine den_of Try.func34 rfl rfl (by simp [Try.ntmps34]) (fun X hX hO => ?_)
  rw [Try.ntmps34] at hX
  simp only [Try.results34]
  by_cases h1 : f = 0
  · subst h1
    by_cases h2 : b.size = 0
    · repeat' (first 
       | (with_reducible first | refine awp_scope ?_ | refine awp_seq ?_ | refine awp_block ?_)
       | ((with_reducible first | refine awp_label ?_ | refine awp_skip ?_ | refine awp_exit ?_); try simp only [thenA, inBlockA, noGotoA, if_true, Nat.reduceEqDiff, if_false, ↓reduceIte])
       | ((with_reducible first | refine awp_reg 13 hX [0, 2, 10] ?_ | change postOf _ _ _ _ _); simp [-List.reduceReplicate, Nat.add_one_le_iff, -getElem?_pos, -getElem?_neg, iC, h2])
       | ((first | (with_reducible refine awp_ret ?_; try simp only [thenA, inBlockA, noGotoA]) | (refine (c1).det ?_) | (refine (c2).det ?_)); try simp [-List.reduceReplicate, Nat.add_one_le_iff, -getElem?_pos, -getElem?_neg, iC, h2])
       | (with_reducible refine awp_if_b rfl (fun hc => ?_) (fun hc => ?_) <;> (try simp [-getElem?_pos, -getElem?_neg] at hc) <;> (try (exfalso; omega)))
       | ((with_reducible first | refine GuardK_b (fun hc => ?_) (fun hc => ?_)) <;> (try simp only [Bool.not_eq_true', Bool.not_eq_false', decide_eq_true_eq, decide_eq_false_iff_not] at hc) <;> (first | (exfalso; omega) | skip) <;> simp [-List.reduceReplicate, Nat.add_one_le_iff, -getElem?_pos, -getElem?_neg, iC, h2, hc])
       | (with_reducible refine And.intro (by omega) ?_)
       | fail)
    · have h3 : (0 : Int) < (b.size : Int) := by omega
      have h4 : 0 < b.size := by omega
      repeat' (first 
       | (with_reducible first | refine awp_scope ?_ | refine awp_seq ?_ | refine awp_block ?_)
       | ((with_reducible first | refine awp_label ?_ | refine awp_skip ?_ | refine awp_exit ?_); try simp only [thenA, inBlockA, noGotoA, if_true, Nat.reduceEqDiff, if_false, ↓reduceIte])
       | ((with_reducible first | refine awp_reg 13 hX [0, 2, 10] ?_ | change postOf _ _ _ _ _); simp [-List.reduceReplicate, Nat.add_one_le_iff, -getElem?_pos, -getElem?_neg, iC, h2, h3, h4])
       | ((first | (with_reducible refine awp_ret ?_; try simp only [thenA, inBlockA, noGotoA]) | (refine (c1).det ?_) | (refine (c2).det ?_)); try simp [-List.reduceReplicate, Nat.add_one_le_iff, -getElem?_pos, -getElem?_neg, iC, h2, h3, h4])
       | (with_reducible refine awp_if_b rfl (fun hc => ?_) (fun hc => ?_) <;> (try simp [-getElem?_pos, -getElem?_neg] at hc) <;> (try (exfalso; omega)))
       | ((with_reducible first | refine GuardK_b (fun hc => ?_) (fun hc => ?_)) <;> (try simp only [Bool.not_eq_true', Bool.not_eq_false', decide_eq_true_eq, decide_eq_false_iff_not] at hc) <;> (first | (exfalso; omega) | skip) <;> simp [-List.reduceReplicate, Nat.add_one_le_iff, -getElem?_pos, -getElem?_neg, iC, h2, h3, h4, hc])
       | (with_reducible refine And.intro (by omega) ?_)
       | fail)
  · repeat' (first 
     | (with_reducible first | refine awp_scope ?_ | refine awp_seq ?_ | refine awp_block ?_)
     | ((with_reducible first | refine awp_label ?_ | refine awp_skip ?_ | refine awp_exit ?_); try simp only [thenA, inBlockA, noGotoA, if_true, Nat.reduceEqDiff, if_false, ↓reduceIte])
     | ((with_reducible first | refine awp_reg 13 hX [0, 2, 10] ?_ | change postOf _ _ _ _ _); simp [-List.reduceReplicate, Nat.add_one_le_iff, -getElem?_pos, -getElem?_neg, iC, h1])
     | ((first | (with_reducible refine awp_ret ?_; try simp only [thenA, inBlockA, noGotoA]) | (refine (c1).det ?_) | (refine (c2).det ?_)); try simp [-List.reduceReplicate, Nat.add_one_le_iff, -getElem?_pos, -getElem?_neg, iC, h1])
     | (with_reducible refine awp_if_b rfl (fun hc => ?_) (fun hc => ?_) <;> (try simp [-getElem?_pos, -getElem?_neg] at hc) <;> (try (exfalso; omega)))
     | ((with_reducible first | refine GuardK_b (fun hc => ?_) (fun hc => ?_)) <;> (try simp only [Bool.not_eq_true', Bool.not_eq_false', decide_eq_true_eq, decide_eq_false_iff_not] at hc) <;> (first | (exfalso; omega) | skip) <;> simp [-List.reduceReplicate, Nat.add_one_le_iff, -getElem?_pos, -getElem?_neg, iC, h1, hc])
     | (with_reducible refine And.intro (by omega) ?_)
     | fail)
theorem Num_den (i : Nat) (c : Cu) (most : Nat) (hb : c.b.size ≤ 9223372036854775807) (ob : List Ob) (h : ob[i]? = some (curO c)) : Den Try.prog 33 [.mp i 0 0, .c (u64C most)] ob (fun r ob' => r = .c (u64C (numC c most).1) ∧ ob' = ob.set i (curO (numC c most).2)) := by
  have hs := set_same ob i _ h
  have ht := num_take_den c.b hb
  have hF := fun e => Fail_den i c e ob h
  have hC := fun n => cut_den i c n ob h
  obtain ⟨t1, t2, t3, t4, t5⟩ := takeV_ok c.b
  unfold numC
  generalize takeV c.b = p at *
  obtain ⟨x, n, e⟩ := p
  unfold takeM at ht
  obtain ⟨b, f⟩ := c
  simp only at *
  by_cases h1 : f = 0
  · subst h1
    by_cases h2 : e = 0
    · subst h2
      by_cases h3 : most < x
      · have h4 : (most : Int) < (x : Int) := by omega
        have f2 := hF 3
        rw [show failC ⟨b, 0⟩ 3 = ⟨e0, 3⟩ by simp [failC]] at f2
        clear hF hC
        simp only [curO, cuC, iC] at h hs f2
        refine den_of Try.func33 rfl rfl (by simp [Try.ntmps33]) (fun X hX hO => ?_)
        rw [Try.ntmps33] at hX
        simp only [Try.results33]
        repeat' (first 
         | (with_reducible first | refine awp_scope ?_ | refine awp_seq ?_ | refine awp_block ?_)
         | ((with_reducible first | refine awp_label ?_ | refine awp_skip ?_ | refine awp_exit ?_); try simp only [thenA, inBlockA, noGotoA, if_true, Nat.reduceEqDiff, if_false, ↓reduceIte])
         | ((with_reducible first | refine awp_reg 46 hX [0, 1, 4, 5, 6, 7, 17, 28, 34] ?_ | change postOf _ _ _ _ _); simp [-List.reduceReplicate, Nat.add_one_le_iff, -getElem?_pos, -getElem?_neg, curO, cuC, iC, u64C, e0, h3, h4, h])
         | ((first | (with_reducible refine awp_ret ?_; try simp only [thenA, inBlockA, noGotoA]) | (refine (ht _).det ?_) | (refine (f2).det ?_)); try simp [-List.reduceReplicate, Nat.add_one_le_iff, -getElem?_pos, -getElem?_neg, curO, cuC, iC, u64C, e0, h3, h4, h])
         | (with_reducible refine awp_if_b rfl (fun hc => ?_) (fun hc => ?_) <;> (try simp [-getElem?_pos, -getElem?_neg] at hc) <;> (try (exfalso; omega)))
         | ((with_reducible first | refine GuardK_b (fun hc => ?_) (fun hc => ?_)) <;> (try simp only [Bool.not_eq_true', Bool.not_eq_false', decide_eq_true_eq, decide_eq_false_iff_not] at hc) <;> (first | (exfalso; omega) | skip) <;> simp [-List.reduceReplicate, Nat.add_one_le_iff, -getElem?_pos, -getElem?_neg, curO, cuC, iC, u64C, e0, h3, h4, h, hc])
         | (with_reducible refine And.intro (by omega) ?_)
         | fail)
      · have h4 : ¬ (most : Int) < (x : Int) := by omega
        have f2 := hC n
        rw [show cutC ⟨b, 0⟩ n = (b.extract 0 n, ⟨b.extract n b.size, 0⟩) by simp [cutC]; omega] at f2
        clear hF hC
        simp only [curO, cuC, iC] at h hs f2
        refine den_of Try.func33 rfl rfl (by simp [Try.ntmps33]) (fun X hX hO => ?_)
        rw [Try.ntmps33] at hX
        simp only [Try.results33]
        repeat' (first 
         | (with_reducible first | refine awp_scope ?_ | refine awp_seq ?_ | refine awp_block ?_)
         | ((with_reducible first | refine awp_label ?_ | refine awp_skip ?_ | refine awp_exit ?_); try simp only [thenA, inBlockA, noGotoA, if_true, Nat.reduceEqDiff, if_false, ↓reduceIte])
         | ((with_reducible first | refine awp_reg 46 hX [0, 1, 4, 5, 6, 7, 17, 28, 34] ?_ | change postOf _ _ _ _ _); simp [-List.reduceReplicate, Nat.add_one_le_iff, -getElem?_pos, -getElem?_neg, curO, cuC, iC, u64C, e0, h3, h4, h])
         | ((first | (with_reducible refine awp_ret ?_; try simp only [thenA, inBlockA, noGotoA]) | (refine (ht _).det ?_) | (refine (f2).det ?_)); try simp [-List.reduceReplicate, Nat.add_one_le_iff, -getElem?_pos, -getElem?_neg, curO, cuC, iC, u64C, e0, h3, h4, h])
         | (with_reducible refine awp_if_b rfl (fun hc => ?_) (fun hc => ?_) <;> (try simp [-getElem?_pos, -getElem?_neg] at hc) <;> (try (exfalso; omega)))
         | ((with_reducible first | refine GuardK_b (fun hc => ?_) (fun hc => ?_)) <;> (try simp only [Bool.not_eq_true', Bool.not_eq_false', decide_eq_true_eq, decide_eq_false_iff_not] at hc) <;> (first | (exfalso; omega) | skip) <;> simp [-List.reduceReplicate, Nat.add_one_le_iff, -getElem?_pos, -getElem?_neg, curO, cuC, iC, u64C, e0, h3, h4, h, hc])
         | (with_reducible refine And.intro (by omega) ?_)
         | fail)
    · have h3 : ¬ (e : Int) = 0 := by omega
      have f2 := hF e
      rw [show failC ⟨b, 0⟩ (e : Int) = ⟨e0, e⟩ by simp [failC, h2]] at f2
      clear hF hC
      simp only [curO, cuC, iC] at h hs f2
      refine den_of Try.func33 rfl rfl (by simp [Try.ntmps33]) (fun X hX hO => ?_)
      rw [Try.ntmps33] at hX
      simp only [Try.results33]
      repeat' (first 
       | (with_reducible first | refine awp_scope ?_ | refine awp_seq ?_ | refine awp_block ?_)
       | ((with_reducible first | refine awp_label ?_ | refine awp_skip ?_ | refine awp_exit ?_); try simp only [thenA, inBlockA, noGotoA, if_true, Nat.reduceEqDiff, if_false, ↓reduceIte])
       | ((with_reducible first | refine awp_reg 46 hX [0, 1, 4, 5, 6, 7, 17, 28, 34] ?_ | change postOf _ _ _ _ _); simp [-List.reduceReplicate, Nat.add_one_le_iff, -getElem?_pos, -getElem?_neg, curO, cuC, iC, u64C, e0, h2, h3, h])
       | ((first | (with_reducible refine awp_ret ?_; try simp only [thenA, inBlockA, noGotoA]) | (refine (ht _).det ?_) | (refine (f2).det ?_)); try simp [-List.reduceReplicate, Nat.add_one_le_iff, -getElem?_pos, -getElem?_neg, curO, cuC, iC, u64C, e0, h2, h3, h])
       | (with_reducible refine awp_if_b rfl (fun hc => ?_) (fun hc => ?_) <;> (try simp [-getElem?_pos, -getElem?_neg] at hc) <;> (try (exfalso; omega)))
       | ((with_reducible first | refine GuardK_b (fun hc => ?_) (fun hc => ?_)) <;> (try simp only [Bool.not_eq_true', Bool.not_eq_false', decide_eq_true_eq, decide_eq_false_iff_not] at hc) <;> (first | (exfalso; omega) | skip) <;> simp [-List.reduceReplicate, Nat.add_one_le_iff, -getElem?_pos, -getElem?_neg, curO, cuC, iC, u64C, e0, h2, h3, h, hc])
       | (with_reducible refine And.intro (by omega) ?_)
       | fail)
  · clear hF hC
    simp only [curO, cuC, iC] at h hs
    refine den_of Try.func33 rfl rfl (by simp [Try.ntmps33]) (fun X hX hO => ?_)
    rw [Try.ntmps33] at hX
    simp only [Try.results33]
    repeat' (first 
     | (with_reducible first | refine awp_scope ?_ | refine awp_seq ?_ | refine awp_block ?_)
     | ((with_reducible first | refine awp_label ?_ | refine awp_skip ?_ | refine awp_exit ?_); try simp only [thenA, inBlockA, noGotoA, if_true, Nat.reduceEqDiff, if_false, ↓reduceIte])
     | ((with_reducible first | refine awp_reg 46 hX [0, 1, 4, 5, 6, 7, 17, 28, 34] ?_ | change postOf _ _ _ _ _); simp [-List.reduceReplicate, Nat.add_one_le_iff, -getElem?_pos, -getElem?_neg, curO, cuC, iC, u64C, e0, h1, h, hs])
     | ((first | (with_reducible refine awp_ret ?_; try simp only [thenA, inBlockA, noGotoA])); try simp [-List.reduceReplicate, Nat.add_one_le_iff, -getElem?_pos, -getElem?_neg, curO, cuC, iC, u64C, e0, h1, h, hs])
     | (with_reducible refine awp_if_b rfl (fun hc => ?_) (fun hc => ?_) <;> (try simp [-getElem?_pos, -getElem?_neg] at hc) <;> (try (exfalso; omega)))
     | ((with_reducible first | refine GuardK_b (fun hc => ?_) (fun hc => ?_)) <;> (try simp only [Bool.not_eq_true', Bool.not_eq_false', decide_eq_true_eq, decide_eq_false_iff_not] at hc) <;> (first | (exfalso; omega) | skip) <;> simp [-List.reduceReplicate, Nat.add_one_le_iff, -getElem?_pos, -getElem?_neg, curO, cuC, iC, u64C, e0, h1, h, hs, hc])
     | (with_reducible refine And.intro (by omega) ?_)
     | fail)
end Go.Av

set_option exponentiation.threshold 1000
set_option linter.unusedVariables false
set_option linter.unusedSimpArgs false
set_option maxRecDepth 100000
set_option maxHeartbeats 4000000
namespace Go.Av
open Go Go.Proofs Go.Proofs.Ytpcnacknlgmmlaa Go.RowKit
attribute [local simp] List.getElem?_cons_zero List.getElem?_cons_succ
attribute [local simp] Try.underlying9 Try.underlying3 Try.underlying4 Try.underlying27 Try.underlying45
def okCu (ob : List Ob) : Prop := ob.all (fun q => q.cs.all (ltB ob.length)) = true
def h32 (s : ByteArray) (off : Nat) : H32 := ⟨(s.data.toList.drop off ++ List.replicate 32 0).take 32, by simp⟩
def hashC (c : Cu) : H32 × Cu := (h32 (rawC c 32).1 0, (rawC c 32).2)
theorem rawC_size (c : Cu) (n : Nat) : (rawC c n).1.size = 0 ∨ (rawC c n).1.size = n := by
  unfold rawC cutC
  rw [if_neg (by omega)]
  split
  · exact .inl rfl
  · split
    · exact .inl rfl
    · right
      rename_i h
      simp only [Int.toNat_natCast] at h ⊢
      rw [ByteArray.size_extract]
      omega
theorem h32_full (s : ByteArray) (h : s.size = 32) : (h32 s 0).1 = s.data.toList := by
  have hl : s.data.toList.length = 32 := by rw [Array.length_toList]; exact h
  simp only [h32, List.drop_zero]
  rw [List.take_append_of_le_length (by omega), List.take_of_length_le (by omega)]
def zH : Ob := ⟨45, 1, false, 0, up (List.replicate 32 (C.v (Value.int .u8 0))), none⟩
theorem copy32 (s : ByteArray) (h : s.size ≤ 32) : lay (up (List.replicate 32 (C.v (Value.int .u8 0)))) 0 (up ((s.toList.map fun b => C.v (Value.int .u8 (b.toNat : Int))).take s.size)) = up ((h32 s 0).1.map bC8) := by
  have hv : (h32 s 0).1 = (s.data.toList.drop 0 ++ List.replicate 32 0).take 32 := rfl
  rw [toList_data, hv]
  have hl : s.data.toList.length = s.size := by rw [Array.length_toList]; rfl
  generalize s.data.toList = l at *
  rw [← hl] at h ⊢
  rw [show l.length = (l.map fun b => C.v (Value.int .u8 (b.toNat : Int))).length by simp, List.take_length, lay_app _ _ _ (by simp only [up, List.length_map, List.length_replicate]; omega)]
  have e1 : (l.drop 0 ++ List.replicate 32 (0 : UInt8)).take 32 = l ++ List.replicate (32 - l.length) 0 := by
    rw [List.drop_zero, List.take_append, List.take_of_length_le h, List.take_replicate, Nat.min_eq_left (by omega)]
  rw [e1]
  simp only [up, List.map_replicate, List.map_append, List.map_map, List.length_map, Nat.zero_add, List.take_zero, List.nil_append, List.drop_replicate]
  rfl
theorem okCu_set (ob : List Ob) (i : Nat) (d : Cu) (h : okCu ob) : okCu (ob.set i (curO d)) := by
  unfold okCu at *
  rw [List.length_set, List.all_eq_true] at *
  intro q hq
  rcases List.mem_or_eq_of_mem_set hq with h1 | h1
  · exact h q h1
  · subst h1
    simp [curO, cuC, up, ltB, iC]
theorem chash_den (i : Nat) (c : Cu) (ob : List Ob) (h : ob[i]? = some (curO c)) (hok : okCu ob) : Den Try.prog 32 [.mp i 0 0] ob (fun r ob' => r = hashM (hashC c).1.1 ∧ ob' = ob.set i (curO (hashC c).2)) := by
  have hil := (List.getElem?_eq_some_iff.1 h).1
  have hR := Raw_den i c 32 (ob ++ [zH, zH]) (by rw [List.getElem?_append_left hil, h])
  rw [List.set_append_left _ _ hil] at hR
  unfold hashC
  have hsz := rawC_size c 32
  refine Den.forget ?_ ?_ ?_ ?_
  · simp
  · simp [hashM, ltB]
  · exact okCu_set ob i _ hok
  generalize (rawC c 32) = pr at *
  obtain ⟨s, d⟩ := pr
  simp only at *
  have hll : (ob.set i (curO d)).length = ob.length := by simp
  generalize ob.set i (curO d) = ob2 at *
  simp only [zH] at hR
  have hs32 : s.size ≤ 32 := by omega
  have hs := copy32 s hs32
  have hmin : min s.size 32 = s.size := by omega
  have hsl : s.toList.length = s.size := by rw [toList_data, Array.length_toList]; rfl
  have hFl : ((h32 s 0).1.map bC8).length = 32 := by simp [h32]
  unfold hashM
  generalize (h32 s 0).1.map bC8 = F at *
  have g1 : ∀ x y, (ob2 ++ [x, y])[ob.length + 1]? = some y := fun x y => by rw [← hll]; simp
  have g0 : ∀ x y, (ob2 ++ [x, y])[ob.length]? = some x := fun x y => by rw [← hll]; simp
  have g2 : ∀ x y z, (ob2 ++ [x, y]).set (ob.length + 1) z = ob2 ++ [x, z] := fun x y z => by rw [← hll, List.set_append_right _ _ (by omega)]; simp
  refine den_of Try.func32 rfl rfl (by simp [Try.ntmps32]) (fun X hX hO => ?_)
  rw [Try.ntmps32] at hX
  simp only [Try.results32]
  repeat' (first 
   | (with_reducible first | refine awp_scope ?_ | refine awp_seq ?_ | refine awp_block ?_)
   | ((with_reducible first | refine awp_label ?_ | refine awp_skip ?_ | refine awp_exit ?_); try simp only [thenA, inBlockA, noGotoA, if_true, Nat.reduceEqDiff, if_false, ↓reduceIte])
   | ((with_reducible first | refine awp_reg 9 hX [0, 2, 3] ?_ | refine DEv_cut _ _ _ _ _ _ _ _ _ _ _ _ (by kernel_rfl) ?_ | change postOf _ _ _ _ _); simp [-List.reduceReplicate, Nat.add_one_le_iff, -getElem?_pos, -getElem?_neg, hashM])
   | ((first | (with_reducible refine awp_ret ?_; try simp only [thenA, inBlockA, noGotoA])); try simp [-List.reduceReplicate, Nat.add_one_le_iff, -getElem?_pos, -getElem?_neg, hashM])
   | (with_reducible refine awp_if_b rfl (fun hc => ?_) (fun hc => ?_) <;> (try simp [-getElem?_pos, -getElem?_neg] at hc) <;> (try (exfalso; omega)))
   | (with_reducible refine And.intro (by omega) ?_)
   | fail)
  refine awp_drawS (id := 2) 9 hX [0, 2, 3] Tab.mixed (by kernel_rfl) [.ms (ob.length + 1) 0 0 32, .mp i 0 0, .c (sC s), .c (iC s.size)] (fun p => if p 3 then ob2 ++ [zH, ⟨45, 1, false, 0, up F, none⟩] else if p 2 then ob2 ++ [zH, zH] else ob ++ [zH, zH]) (by simp [-List.reduceReplicate, hashM, zH, g1, g0, g2, sC, iC, hmin, hs, hs32, hsl]) (fun p q hpq => ?_) ?_ ?_
  · simp only [hpq 2 (by decide), hpq 3 (by decide)]
  · intro i o p hl hp hcl hno
    match i, hl with
    | 0, hl =>
      obtain rfl := Option.some.inj hl
      have c3 : p 3 = false := by cases h : p 3 with | false => rfl | true => exact absurd (List.contains_iff_mem.1 (by kernel_rfl)) (hno 3 _ rfl h)
      all_goals rcases Bool.eq_false_or_eq_true (p 2) with c2 | c2
      all_goals refine ⟨_, rfl, ?_⟩
      all_goals simp [StepS, frP, -exists_and_left, hp, c3, c2, -List.reduceReplicate, hashM, zH, g1, g0, g2, sC, iC, hmin, hs, hs32, hsl]
    | 1, hl =>
      obtain rfl := Option.some.inj hl
      have c2 : p 2 = false := by cases h : p 2 with | false => rfl | true => exact absurd (List.contains_iff_mem.1 (by kernel_rfl)) (hno 2 _ rfl h)
      have c3 : p 3 = false := by cases h : p 3 with | false => rfl | true => exact absurd (List.contains_iff_mem.1 (by kernel_rfl)) (hno 3 _ rfl h)
      all_goals refine ⟨_, rfl, ?_⟩
      all_goals simp [StepS, frP, -exists_and_left, hp, c2, c3, -List.reduceReplicate, hashM, zH, g1, g0, g2, sC, iC, hmin, hs, hs32, hsl]
    | 2, hl =>
      obtain rfl := Option.some.inj hl
      have c3 : p 3 = false := by cases h : p 3 with | false => rfl | true => exact absurd (List.contains_iff_mem.1 (by kernel_rfl)) (hno 3 _ rfl h)
      all_goals refine ⟨_, rfl, ?_⟩
      all_goals simp [StepS, frP, -exists_and_left, hp, c3, -List.reduceReplicate, hashM, zH, g1, g0, g2, sC, iC, hmin, hs, hs32, hsl]
      all_goals first | exact ⟨_, _, ⟨rfl, rfl⟩, hR⟩
    | 3, hl =>
      obtain rfl := Option.some.inj hl
      have c2 : p 2 = true := hcl 2 (List.contains_iff_mem.1 (by kernel_rfl))
      all_goals refine ⟨_, rfl, ?_⟩
      all_goals simp [StepS, frP, -exists_and_left, hp, c2, -List.reduceReplicate, hashM, zH, g1, g0, g2, sC, iC, hmin, hs, hs32, hsl]
    | n + 4, hl => simp at hl
  simp [frP, -List.reduceReplicate, hashM, zH, g1, g0, g2, sC, iC, hmin, hs, hs32, hsl]
  have g3 : ∀ x y z, (ob2 ++ [x, y]).set ob.length z = ob2 ++ [z, y] := fun x y z => by rw [← hll, List.set_append_right _ _ (by omega)]; simp
  have ht32 : F.take 32 = F := List.take_of_length_le (by omega)
  repeat' (first 
   | (with_reducible first | refine awp_scope ?_ | refine awp_seq ?_ | refine awp_block ?_)
   | ((with_reducible first | refine awp_label ?_ | refine awp_skip ?_ | refine awp_exit ?_); try simp only [thenA, inBlockA, noGotoA, if_true, Nat.reduceEqDiff, if_false, ↓reduceIte])
   | ((with_reducible first | refine awp_reg 9 hX [0, 2, 3] ?_ | refine DEv_cut _ _ _ _ _ _ _ _ _ _ _ _ (by kernel_rfl) ?_ | change postOf _ _ _ _ _); simp [-List.reduceReplicate, Nat.add_one_le_iff, -getElem?_pos, -getElem?_neg, hashM, g1, g0, g2, g3, hFl, ht32])
   | ((first | (with_reducible refine awp_ret ?_; try simp only [thenA, inBlockA, noGotoA])); try simp [-List.reduceReplicate, Nat.add_one_le_iff, -getElem?_pos, -getElem?_neg, hashM, g1, g0, g2, g3, hFl, ht32])
   | (with_reducible refine awp_if_b rfl (fun hc => ?_) (fun hc => ?_) <;> (try simp [-getElem?_pos, -getElem?_neg] at hc) <;> (try (exfalso; omega)))
   | (with_reducible refine And.intro (by omega) ?_)
   | fail)
  all_goals trace_state
theorem mk_e0 : (⟨⟨[]⟩⟩ : ByteArray) = e0 := rfl
theorem mk_e1 : (⟨#[]⟩ : ByteArray) = e0 := rfl
end Go.Av

set_option exponentiation.threshold 1000
set_option linter.unusedVariables false
set_option linter.unusedSimpArgs false
set_option maxRecDepth 100000
set_option maxHeartbeats 4000000
namespace Go.Av
open Go Go.Proofs Go.Proofs.Ytpcnacknlgmmlaa Go.RowKit
attribute [local simp] List.getElem?_cons_zero List.getElem?_cons_succ
def idL (h : HD) : List UInt8 := shaL (bsS (3 :: hdL h))
theorem head_bs (h : HD) : headT (bsS (hdL h)) = 3 :: hdL h := rfl
theorem identId_den (h : HD) (hok : HDok h) : DenV Try.prog 37 [hdM h] (hashM (idL h)) := by
  refine Den.frame (by simp [ltBs, ltB, hdM, ltBs_up]) (lt_hash _ _) ?_
  have c4 := hdC_len h
  have c5 := hdC_66 h
  have p1 := headBytes_den h hok
  have p2 := headerSum_den (bsS (hdL h)) (by rw [bs_size, hdL_len]; omega)
  rw [head_bs] at p2
  have hl : (idL h).length = 32 := shaL_len _
  have t1 := hash_take _ hl
  unfold idL at *
  unfold hdM at *
  generalize shaL (bsS (3 :: hdL h)) = y at *
  generalize hdC h = hd at *
  generalize bsS (hdL h) = x at *
  refine den_of Try.func37 rfl rfl (by simp [Try.ntmps37]) (fun X hX hO => ?_)
  rw [Try.ntmps37] at hX
  simp only [Try.results37]
  repeat' (first 
   | (with_reducible first | refine awp_scope ?_ | refine awp_seq ?_ | refine awp_block ?_)
   | ((with_reducible first | refine awp_label ?_ | refine awp_skip ?_ | refine awp_exit ?_); try simp only [thenA, inBlockA, noGotoA, if_true, Nat.reduceEqDiff, if_false, ↓reduceIte])
   | ((with_reducible first | refine awp_reg 6 hX [1, 2] ?_ | change postOf _ _ _ _ _); simp [-List.reduceReplicate, Nat.add_one_le_iff, -getElem?_pos, -getElem?_neg, c4, c5, hashM, hl, t1])
   | ((first | (with_reducible refine awp_ret ?_; try simp only [thenA, inBlockA, noGotoA]) | (refine (p1 _).det ?_) | (refine (p2 _).det ?_)); try simp [-List.reduceReplicate, Nat.add_one_le_iff, -getElem?_pos, -getElem?_neg, c4, c5, hashM, hl, t1])
   | (with_reducible refine awp_if_b rfl (fun hc => ?_) (fun hc => ?_) <;> (try simp [-getElem?_pos, -getElem?_neg] at hc) <;> (try (exfalso; omega)))
   | (with_reducible refine And.intro (by omega) ?_)
   | fail)
def hsC (l : List H32) : List C := l.flatMap fun h => h.1.map bC8
theorem hsC_len (l : List H32) : (hsC l).length = 32 * l.length := by
  have := flat_len (f := fun h : H32 => h.1.map bC8) (sz := 32) (fun h => by simp [h.2]) l
  unfold hsC
  omega
theorem flat_take {A B : Type} {f : A → List B} {sz : Nat} (hf : ∀ a, (f a).length = sz) (l : List A) : ∀ (i : Nat) (a : A), l[i]? = some a → ((l.flatMap f).drop (i * sz)).take sz = f a := by
  induction l with
  | nil => intro i a h; simp at h
  | cons x l ih =>
    intro i a h
    simp only [List.flatMap_cons]
    cases i with
    | zero =>
      simp at h
      subst h
      rw [Nat.zero_mul, List.drop_zero, List.take_append_of_le_length (by rw [hf]; exact Nat.le_refl _), List.take_of_length_le (by rw [hf]; exact Nat.le_refl _)]
    | succ i =>
      have hx := hf x
      rw [Nat.add_mul, Nat.one_mul, Nat.add_comm (i * sz) sz, ← List.drop_drop, List.drop_left' hx]
      exact ih i a (by simpa using h)
theorem hsC_at (l : List H32) (i : Nat) (h : H32) (hi : l[i]? = some h) : ((hsC l).drop (i * 32)).take 32 = h.1.map bC8 := flat_take (fun h => by simp [h.2]) l i h hi
def fstI : List H32 → List UInt8 → Nat → Int
  | [], _, _ => -1
  | x :: r, id, k => if x.1 = id then (k : Int) else fstI r id (k + 1)
end Go.Av

set_option exponentiation.threshold 1000
set_option linter.unusedVariables false
set_option linter.unusedSimpArgs false
set_option maxRecDepth 100000
set_option maxHeartbeats 4000000
namespace Go.Av
open Go Go.Proofs Go.Proofs.Ytpcnacknlgmmlaa Go.RowKit
attribute [local simp] List.getElem?_cons_zero List.getElem?_cons_succ
def hdsC (l : List HD) : List C := l.flatMap hdC
def idH (h : HD) : H32 := ⟨idL h, shaL_len _⟩
def idsTo (l : List HD) (i : Nat) : List C := hsC ((l.take i).map idH)
end Go.Av

set_option exponentiation.threshold 1000
set_option linter.unusedVariables false
set_option linter.unusedSimpArgs false
set_option maxRecDepth 100000
set_option maxHeartbeats 4000000
namespace Go.Av
open Go Go.Proofs Go.Proofs.Ytpcnacknlgmmlaa Go.RowKit
attribute [local simp] List.getElem?_cons_zero List.getElem?_cons_succ
def Z32 : H32 := ⟨List.replicate 32 0, by simp⟩
def H0 : HD := ⟨0, Z32, Z32, 0⟩
def H1 : HD := ⟨0, Z32, Z32, 1⟩
end Go.Av

set_option exponentiation.threshold 1000
set_option linter.unusedVariables false
set_option linter.unusedSimpArgs false
set_option maxRecDepth 100000
set_option maxHeartbeats 4000000
namespace Go.Av
open Go Go.Proofs Go.Proofs.Ytpcnacknlgmmlaa Go.RowKit
attribute [local simp] List.getElem?_cons_zero List.getElem?_cons_succ
def B64 : Nat := 18446744073709551616
def lim (x i : Nat) : Nat := x / 2 ^ (64 * i) % 18446744073709551616
def limC (k x : Nat) : List C := (List.range k).map fun i => u64C (lim x i)
theorem limC_len (k x : Nat) : (limC k x).length = k := by simp [limC]
theorem limC_get (k x i : Nat) (h : i < k) : (limC k x)[i]? = some (u64C (lim x i)) := by simp [limC, h]
theorem lim_split (x i : Nat) : x / 2 ^ (64 * i) = 18446744073709551616 * (x / 2 ^ (64 * (i + 1))) + lim x i := by
  have h1 : x / 2 ^ (64 * (i + 1)) = x / 2 ^ (64 * i) / 18446744073709551616 := by
    rw [Nat.div_div_eq_div_mul, show 64 * (i + 1) = 64 * i + 64 by omega, Nat.pow_add]
  rw [h1]
  exact (Nat.div_add_mod _ _).symm
theorem lim_lt_of {x y i : Nat} (h : x / 2 ^ (64 * (i + 1)) = y / 2 ^ (64 * (i + 1))) (hl : lim x i < lim y i) : x < y := by
  have h1 := lim_split x i
  have h2 := lim_split y i
  rw [h] at h1
  rcases Nat.lt_or_ge x y with c | c
  · exact c
  · have := Nat.div_le_div_right (c := 2 ^ (64 * i)) c
    omega
theorem lim_eq_of {x y i : Nat} (h : x / 2 ^ (64 * (i + 1)) = y / 2 ^ (64 * (i + 1))) (hl : lim x i = lim y i) : x / 2 ^ (64 * i) = y / 2 ^ (64 * i) := by
  rw [lim_split x i, lim_split y i, h, hl]
def cmpN (x y : Nat) : Int := if x < y then -1 else if y < x then 1 else 0
theorem cmpN_lt {x y : Nat} (h : x < y) : cmpN x y = -1 := by simp [cmpN, h]
theorem cmpN_gt {x y : Nat} (h : y < x) : cmpN x y = 1 := by
  have : ¬ x < y := by omega
  simp [cmpN, h, this]
theorem cmpN_eq (x : Nat) : cmpN x x = 0 := by simp [cmpN]
def bl (x : Nat) : Nat := if x = 0 then 0 else Nat.log2 x + 1
end Go.Av

set_option exponentiation.threshold 1000
set_option linter.unusedVariables false
set_option linter.unusedSimpArgs false
set_option maxRecDepth 100000
set_option maxHeartbeats 4000000
namespace Go.Av
open Go Go.Proofs Go.Proofs.Ytpcnacknlgmmlaa Go.RowKit
attribute [local simp] List.getElem?_cons_zero List.getElem?_cons_succ
def hv (l : List UInt8) : Nat := l.foldl (fun a b => a * 256 + b.toNat) 0
theorem hv_app (a : List UInt8) (x : UInt8) : hv (a ++ [x]) = hv a * 256 + x.toNat := by simp [hv]
theorem hv_lt : ∀ (n : Nat) (l : List UInt8), l.length = n → hv l < 256 ^ n
  | 0, l, h => by
    obtain rfl := List.length_eq_zero_iff.1 h
    simp [hv]
  | n + 1, l, h => by
    have hd : l = l.dropLast ++ [l.getLast (by intro e; subst e; simp at h)] := (List.dropLast_concat_getLast _).symm
    rw [hd, hv_app]
    have := hv_lt n l.dropLast (by simp; omega)
    have h2 := (l.getLast (by intro e; subst e; simp at h)).toNat_lt
    rw [Nat.pow_succ]
    omega
theorem hv_take : ∀ (k m : Nat) (l : List UInt8), l.length = m + k → hv (l.take m) = hv l / 256 ^ k
  | 0, m, l, h => by rw [List.take_of_length_le (by omega)]; simp
  | k + 1, m, l, h => by
    have hd : l = l.dropLast ++ [l.getLast (by intro e; subst e; simp at h)] := (List.dropLast_concat_getLast _).symm
    have ih := hv_take k m l.dropLast (by simp; omega)
    have e1 : l.take m = l.dropLast.take m := by
      conv => lhs; rw [hd]
      rw [List.take_append_of_le_length (by simp; omega)]
    have e2 : hv l = hv l.dropLast * 256 + (l.getLast (by intro e; subst e; simp at h)).toNat := by
      conv => lhs; rw [hd]
      exact hv_app _ _
    have h2 := (l.getLast (by intro e; subst e; simp at h)).toNat_lt
    rw [e1, ih, Nat.pow_succ, Nat.mul_comm (256 ^ k), ← Nat.div_div_eq_div_mul, e2]
    congr 1
    omega
theorem takeN_hv (l : List UInt8) (at_ n : Nat) (h : at_ + n ≤ l.length) : hv (l.take (at_ + n)) = hv (l.take at_) * 256 ^ n + takeN ⟨l.toArray⟩ at_ n := by
  induction n with
  | zero => simp [takeN]
  | succ n ih =>
    have ih := ih (by omega)
    obtain ⟨x, hx⟩ : ∃ x, l[at_ + n]? = some x := ⟨_, List.getElem?_eq_getElem (by omega)⟩
    have e1 : l.take (at_ + (n + 1)) = l.take (at_ + n) ++ [x] := by
      rw [show at_ + (n + 1) = at_ + n + 1 by omega, List.take_add_one, hx]; rfl
    have e2 : byteI ⟨l.toArray⟩ at_ n = x.toNat := by
      unfold byteI
      have hs : (ByteArray.mk l.toArray).size = l.length := by simp [ByteArray.size]
      rw [if_pos ⟨by omega, by rw [hs]; omega⟩]
      have e3 : ((at_ : Int) + (n : Int)).toNat = at_ + n := by omega
      rw [e3]
      simp only [List.getD, hx, Option.getD_some]
    rw [e1, hv_app, ih, takeN, e2, Nat.pow_succ]
    rw [Nat.add_mul, Nat.mul_assoc, Nat.add_assoc]
theorem take_lim (l : List UInt8) (hl : l.length = 32) (i : Nat) (hi : i < 4) : takeN ⟨l.toArray⟩ ((8 * i : Nat) : Int) 8 = lim (hv l) (3 - i) := by
  have h1 := takeN_hv l (8 * i) 8 (by omega)
  have h2 := takeN_lt ⟨l.toArray⟩ ((8 * i : Nat) : Int) 8
  rw [hv_take (24 - 8 * i) (8 * i + 8) l (by omega)] at h1
  unfold lim
  have e : (2 : Nat) ^ (64 * (3 - i)) = 256 ^ (24 - 8 * i) := by
    rw [show (256 : Nat) = 2 ^ 8 by rfl, ← Nat.pow_mul]; congr 1; omega
  rw [e, h1]
  have e2 : (256 : Nat) ^ 8 = 18446744073709551616 := by decide
  rw [e2] at *
  rw [Nat.mul_add_mod_self_right, Nat.mod_eq_of_lt h2]
def bitsL (x : Nat) : List Bool := (List.range 256).map fun j => x.testBit j
def lvF (x t : Nat) : Nat → Nat → Nat
  | 0, k => k
  | f + 1, k => if x ≤ t / 2 ^ k then lvF x t f (k + 1) else k
def lvN (x t : Nat) : Nat := lvF x t 256 0
end Go.Av

set_option exponentiation.threshold 1000
set_option linter.unusedVariables false
set_option linter.unusedSimpArgs false
set_option maxRecDepth 100000
set_option maxHeartbeats 4000000
namespace Go.Av
open Go Go.Proofs Go.Proofs.Ytpcnacknlgmmlaa Go.RowKit
attribute [local simp] List.getElem?_cons_zero List.getElem?_cons_succ
def largeM (x : Nat) : M := .agg (up (limC 5 x))
def shlF (y i : Nat) : List C := (List.range 5).map fun t => u64C (if t < i then lim y t else 0)
end Go.Av

set_option exponentiation.threshold 1000
set_option linter.unusedVariables false
set_option linter.unusedSimpArgs false
set_option maxRecDepth 100000
set_option maxHeartbeats 4000000
namespace Go.Av
open Go Go.Proofs Go.Proofs.Ytpcnacknlgmmlaa Go.RowKit
attribute [local simp] List.getElem?_cons_zero List.getElem?_cons_succ
def wideM (x : Nat) : M := .agg (up (limC 4 x))
theorem take64_den (b : ByteArray) (at_ : Int) (hat : -9223372036854775808 ≤ at_ ∧ at_ ≤ 9223372036854775807) (hb : b.size ≤ 9223372036854775807) : DenV Try.prog 49 [.c (.v (.string b)), .c (iC at_)] (.c (u64C (takeN b at_ 8))) := by
  refine Den.frame rfl rfl ?_
  have p := take_den b at_ 8 hat hb (by omega)
  generalize takeN b at_ 8 = r at *
  refine den_of Try.func49 rfl rfl (by simp [Try.ntmps49]) (fun X hX hO => ?_)
  rw [Try.ntmps49] at hX
  simp only [Try.results49]
  repeat' (first 
   | (with_reducible first | refine awp_scope ?_ | refine awp_seq ?_ | refine awp_block ?_)
   | ((with_reducible first | refine awp_label ?_ | refine awp_skip ?_ | refine awp_exit ?_); try simp only [thenA, inBlockA, noGotoA, if_true, Nat.reduceEqDiff, if_false, ↓reduceIte])
   | ((with_reducible first | refine awp_reg 8 hX [0, 1, 4] ?_ | change postOf _ _ _ _ _); simp [-List.reduceReplicate, Nat.add_one_le_iff, -getElem?_pos, -getElem?_neg, u64C, iC])
   | ((first | (with_reducible refine awp_ret ?_; try simp only [thenA, inBlockA, noGotoA]) | (refine (p _).det ?_)); try simp [-List.reduceReplicate, Nat.add_one_le_iff, -getElem?_pos, -getElem?_neg, u64C, iC])
   | (with_reducible refine awp_if_b rfl (fun hc => ?_) (fun hc => ?_) <;> (try simp [-getElem?_pos, -getElem?_neg] at hc) <;> (try (exfalso; omega)))
   | (with_reducible refine And.intro (by omega) ?_)
   | fail)
set_option maxHeartbeats 4000000 in
theorem wcmp_den (x y : Nat) (hx : x < 2 ^ (64 * 4)) (hy : y < 2 ^ (64 * 4)) : DenV Try.prog 57 [wideM x, wideM y] (.c (iC (cmpN x y))) := by
  refine Den.frame (by simp [wideM, ltBs, ltB]) rfl ?_
  have gx := limC_get 4 x
  have gy := limC_get 4 y
  have lx := limC_len 4 x
  have ly := limC_len 4 y
  have hs := fun i => @lim_lt_of x y i
  have hs2 := fun i => @lim_lt_of y x i
  have he := fun i => @lim_eq_of x y i
  have h0 : x / 2 ^ (64 * (4 - 0)) = y / 2 ^ (64 * (4 - 0)) := by rw [Nat.div_eq_of_lt hx, Nat.div_eq_of_lt hy]
  have hend : x / 2 ^ (64 * 0) = y / 2 ^ (64 * 0) → x = y := fun h => by simpa using h
  unfold wideM
  generalize limC 4 x = cx at *
  generalize limC 4 y = cy at *
  generalize lim x = fx at *
  generalize lim y = fy at *
  obtain ⟨Ef, hE⟩ : ∃ Ef : Nat → Prop, Ef = fun j => x / 2 ^ (64 * j) = y / 2 ^ (64 * j) := ⟨_, rfl⟩
  have hs' : ∀ i, Ef (i + 1) → fx i < fy i → x < y := by rw [hE]; exact hs
  have hs2' : ∀ i, Ef (i + 1) → fy i < fx i → y < x := by rw [hE]; exact fun i h => hs2 i h.symm
  have he' : ∀ i, Ef (i + 1) → fx i = fy i → Ef i := by rw [hE]; exact he
  have h0' : Ef (4 - 0) := by rw [hE]; exact h0
  have hend' : Ef 0 → x = y := by rw [hE]; exact hend
  clear hs hs2 he h0 hend hE hx hy
  refine den_of Try.func57 rfl rfl (by simp [Try.ntmps57]) (fun X hX hO => ?_)
  rw [Try.ntmps57] at hX
  simp only [Try.results57]
  repeat' (first 
   | (with_reducible first | refine awp_scope ?_ | refine awp_seq ?_ | refine awp_block ?_)
   | ((with_reducible first | refine awp_label ?_ | refine awp_skip ?_ | refine awp_exit ?_ | refine hother _ _ rfl ?_); try simp only [thenA, inBlockA, noGotoA, if_true, Nat.reduceEqDiff, if_false, ↓reduceIte])
   | ((with_reducible first | refine awp_reg 28 hX [2, 3, 4, 5, 6, 7, 8, 9, 19, 23] ?_ | refine awp_drw 28 hX [2, 3, 4, 5, 6, 7, 8, 9, 19, 23] Tab.mixed (by kernel_rfl) ?_ | refine DEv_cut _ _ _ _ _ _ _ _ _ _ _ _ (by kernel_rfl) ?_ | change postOf _ _ _ _ _); simp [-List.reduceReplicate, Nat.add_one_le_iff, -getElem?_pos, -getElem?_neg, iC, lx, ly])
   | ((first | (with_reducible refine awp_ret ?_; try simp only [thenA, inBlockA, noGotoA])); try simp [-List.reduceReplicate, Nat.add_one_le_iff, -getElem?_pos, -getElem?_neg, iC, lx, ly])
   | (with_reducible refine awp_if_b rfl (fun hc => ?_) (fun hc => ?_) <;> (try simp [-getElem?_pos, -getElem?_neg] at hc) <;> (try (exfalso; omega)))
   | (with_reducible refine And.intro (by omega) ?_)
   | fail)
  refine awp_forU [2, 3, 8] (fun i (_u : Unit) => [(8, .c (iC i))]) (fun i (_u : Unit) => [⟨110, 1, false, 0, up cx, none⟩, ⟨110, 1, false, 0, up cy, none⟩]) (fun i (_u : Unit) => Ef (4 - i)) (4) (()) (h0') (by simp [-List.reduceReplicate, keep, iC]) (by simp [-List.reduceReplicate, iC]) ?_
  rintro i _u Q1 hi hH next hother
  conv => arg 5; arg 1; simp only [List.cons_append, List.nil_append, keep, get, Nat.reduceEqDiff, if_true, if_false, ↓reduceIte]
  have hwi := wrap_in ((i : Int) + 1) (by omega)
  by_cases hlt : i < 4
  · obtain ⟨j, hj⟩ : ∃ j, 3 - i = j := ⟨_, rfl⟩
    have hij : (3 - (i : Int)) = (j : Int) := by omega
    have e1 : 4 - i = j + 1 := by omega
    have e2 : 4 - (i + 1) = j := by omega
    have wj := wrap_in (j : Int) (by omega)
    have hj4 : j < 4 := by omega
    have hi2 : (i : Int) < 4 := by omega
    rw [e1] at hH
    rw [e2] at next
    have g1 := gx j hj4
    have g2 := gy j hj4
    by_cases c : fx j < fy j
    · have hcm := (cmpN_lt (hs' j hH c)).symm
      repeat' (first 
       | (with_reducible first | refine awp_scope ?_ | refine awp_seq ?_ | refine awp_block ?_)
       | ((with_reducible first | refine awp_label ?_ | refine awp_skip ?_ | refine awp_exit ?_ | refine hother _ _ rfl ?_); try simp only [thenA, inBlockA, noGotoA, if_true, Nat.reduceEqDiff, if_false, ↓reduceIte])
       | ((with_reducible first | refine awp_reg 28 hX [2, 3, 4, 5, 6, 7, 8, 9, 19, 23] ?_ | refine awp_drw 28 hX [2, 3, 4, 5, 6, 7, 8, 9, 19, 23] Tab.mixed (by kernel_rfl) ?_ | refine DEv_cut _ _ _ _ _ _ _ _ _ _ _ _ (by kernel_rfl) ?_ | change postOf _ _ _ _ _); simp [-List.reduceReplicate, Nat.add_one_le_iff, -getElem?_pos, -getElem?_neg, iC, bC, u64C, hi2, hij, wj, hj4, g1, g2, lx, ly, c])
       | ((first | (with_reducible refine awp_ret ?_; try simp only [thenA, inBlockA, noGotoA])); try simp [-List.reduceReplicate, Nat.add_one_le_iff, -getElem?_pos, -getElem?_neg, iC, bC, u64C, hi2, hij, wj, hj4, g1, g2, lx, ly, c])
       | (with_reducible refine awp_if_b rfl (fun hc => ?_) (fun hc => ?_) <;> (try simp [-getElem?_pos, -getElem?_neg] at hc) <;> (try (exfalso; omega)))
       | (with_reducible refine And.intro (by omega) ?_)
       | fail)
      exact hcm
    · by_cases c2 : fy j < fx j
      · have hcm := (cmpN_gt (hs2' j hH c2)).symm
        repeat' (first 
         | (with_reducible first | refine awp_scope ?_ | refine awp_seq ?_ | refine awp_block ?_)
         | ((with_reducible first | refine awp_label ?_ | refine awp_skip ?_ | refine awp_exit ?_ | refine hother _ _ rfl ?_); try simp only [thenA, inBlockA, noGotoA, if_true, Nat.reduceEqDiff, if_false, ↓reduceIte])
         | ((with_reducible first | refine awp_reg 28 hX [2, 3, 4, 5, 6, 7, 8, 9, 19, 23] ?_ | refine awp_drw 28 hX [2, 3, 4, 5, 6, 7, 8, 9, 19, 23] Tab.mixed (by kernel_rfl) ?_ | refine DEv_cut _ _ _ _ _ _ _ _ _ _ _ _ (by kernel_rfl) ?_ | change postOf _ _ _ _ _); simp [-List.reduceReplicate, Nat.add_one_le_iff, -getElem?_pos, -getElem?_neg, iC, bC, u64C, hi2, hij, wj, hj4, g1, g2, lx, ly, c, c2])
         | ((first | (with_reducible refine awp_ret ?_; try simp only [thenA, inBlockA, noGotoA])); try simp [-List.reduceReplicate, Nat.add_one_le_iff, -getElem?_pos, -getElem?_neg, iC, bC, u64C, hi2, hij, wj, hj4, g1, g2, lx, ly, c, c2])
         | (with_reducible refine awp_if_b rfl (fun hc => ?_) (fun hc => ?_) <;> (try simp [-getElem?_pos, -getElem?_neg] at hc) <;> (try (exfalso; omega)))
         | (with_reducible refine And.intro (by omega) ?_)
         | fail)
        exact hcm
      · have nx := he' j hH (by omega)
        repeat' (first 
         | (with_reducible first | refine awp_scope ?_ | refine awp_seq ?_ | refine awp_block ?_)
         | ((with_reducible first | refine awp_label ?_ | refine awp_skip ?_ | refine awp_exit ?_ | refine hother _ _ rfl ?_); try simp only [thenA, inBlockA, noGotoA, if_true, Nat.reduceEqDiff, if_false, ↓reduceIte])
         | ((with_reducible first | refine awp_reg 28 hX [2, 3, 4, 5, 6, 7, 8, 9, 19, 23] ?_ | refine awp_drw 28 hX [2, 3, 4, 5, 6, 7, 8, 9, 19, 23] Tab.mixed (by kernel_rfl) ?_ | refine DEv_cut _ _ _ _ _ _ _ _ _ _ _ _ (by kernel_rfl) ?_ | change postOf _ _ _ _ _); simp [-List.reduceReplicate, Nat.add_one_le_iff, -getElem?_pos, -getElem?_neg, iC, bC, u64C, hi2, hij, wj, hj4, g1, g2, lx, ly, hwi, c, c2])
         | ((first | (with_reducible refine awp_ret ?_; try simp only [thenA, inBlockA, noGotoA])); try simp [-List.reduceReplicate, Nat.add_one_le_iff, -getElem?_pos, -getElem?_neg, iC, bC, u64C, hi2, hij, wj, hj4, g1, g2, lx, ly, hwi, c, c2])
         | (with_reducible refine awp_if_b rfl (fun hc => ?_) (fun hc => ?_) <;> (try simp [-getElem?_pos, -getElem?_neg] at hc) <;> (try (exfalso; omega)))
         | (with_reducible refine And.intro (by omega) ?_)
         | fail)
        refine next _ _ (()) (by omega) (by first | trivial | omega | assumption) (by simp [-List.reduceReplicate, keep, iC]) (by simp [-List.reduceReplicate, iC])
  · have hi3 : i = 4 := by omega
    subst hi3
    have hxy := hend' hH
    subst hxy
    have hcm := (cmpN_eq x).symm
    repeat' (first 
     | (with_reducible first | refine awp_scope ?_ | refine awp_seq ?_ | refine awp_block ?_)
     | ((with_reducible first | refine awp_label ?_ | refine awp_skip ?_ | refine awp_exit ?_ | refine hother _ _ rfl ?_); try simp only [thenA, inBlockA, noGotoA, if_true, Nat.reduceEqDiff, if_false, ↓reduceIte])
     | ((with_reducible first | refine awp_reg 28 hX [2, 3, 4, 5, 6, 7, 8, 9, 19, 23] ?_ | refine awp_drw 28 hX [2, 3, 4, 5, 6, 7, 8, 9, 19, 23] Tab.mixed (by kernel_rfl) ?_ | refine DEv_cut _ _ _ _ _ _ _ _ _ _ _ _ (by kernel_rfl) ?_ | change postOf _ _ _ _ _); simp [-List.reduceReplicate, Nat.add_one_le_iff, -getElem?_pos, -getElem?_neg, iC])
     | ((first | (with_reducible refine awp_ret ?_; try simp only [thenA, inBlockA, noGotoA])); try simp [-List.reduceReplicate, Nat.add_one_le_iff, -getElem?_pos, -getElem?_neg, iC])
     | (with_reducible refine awp_if_b rfl (fun hc => ?_) (fun hc => ?_) <;> (try simp [-getElem?_pos, -getElem?_neg] at hc) <;> (try (exfalso; omega)))
     | (with_reducible refine And.intro (by omega) ?_)
     | fail)
    exact hcm
def revF (y i : Nat) : List C := (List.range 4).map fun t => u64C (if 4 - i ≤ t then lim y t else 0)
theorem revF_facts (y : Nat) : revF y 0 = [C.v (.int .u64 0), C.v (.int .u64 0), C.v (.int .u64 0), C.v (.int .u64 0)] ∧ revF y 4 = limC 4 y ∧ (∀ i, (revF y i).length = 4) ∧ ∀ i, i < 4 → (revF y i).set (3 - i) (u64C (lim y (3 - i))) = revF y (i + 1) := by
  refine ⟨by simp [revF, List.range_succ, u64C], ?_, fun i => by simp [revF], fun i hi => ?_⟩
  · unfold revF limC
    refine List.map_congr_left fun t ht => ?_
    rw [if_pos (by omega)]
  · unfold revF
    apply List.ext_getElem (by simp)
    intro t h1 h2
    simp at h1
    rw [List.getElem_set]
    simp only [List.getElem_map, List.getElem_range]
    by_cases c : 3 - i = t
    · subst c
      rw [if_pos rfl, if_pos (by omega)]
    · rw [if_neg c]
      by_cases d : 4 - i ≤ t
      · rw [if_pos d, if_pos (by omega)]
      · rw [if_neg d, if_neg (by omega)]
set_option maxHeartbeats 4000000 in
theorem wof_den (l : List UInt8) (hl : l.length = 32) : DenV Try.prog 58 [hashM l] (wideM (hv l)) := by
  refine Den.frame (by simp [ltBs, ltB, lt_hash]) (by simp [wideM, ltB, ltBs]) ?_
  have hsz : (ByteArray.mk l.toArray).size = 32 := by simp [ByteArray.size, hl]
  have tk := fun (i : Nat) (h : i < 4) => take64_den ⟨l.toArray⟩ ((8 * i : Nat) : Int) (by omega) (by omega)
  have tl := fun i h => take_lim l hl i h
  have hb8 : bytesM (up (l.map bC8)) = some l := bytesM_b8 l
  have t32 : (l.map bC8).take 32 = l.map bC8 := List.take_of_length_le (by simp [hl])
  obtain ⟨F0, F4, FL, FS⟩ := revF_facts (hv l)
  have FT : ∀ i, (revF (hv l) i).take 4 = revF (hv l) i := fun i => List.take_of_length_le (by rw [FL]; omega)
  have z0 : zeroT Try.prog 110 = some (up (revF (hv l) 0)) := by rw [F0]; kernel_rfl
  unfold wideM
  rw [← F4]
  generalize revF (hv l) = F at *
  generalize lim (hv l) = fx at *
  have lb : (l.map bC8).length = 32 := by simp [hl]
  clear F0 F4
  unfold hashM
  generalize l.map bC8 = cb at *
  refine den_of Try.func58 rfl rfl (by simp [Try.ntmps58]) (fun X hX hO => ?_)
  rw [Try.ntmps58] at hX
  simp only [Try.results58]
  repeat' (first 
   | (with_reducible first | refine awp_scope ?_ | refine awp_seq ?_ | refine awp_block ?_)
   | ((with_reducible first | refine awp_label ?_ | refine awp_skip ?_ | refine awp_exit ?_ | refine hother _ _ rfl ?_); try simp only [thenA, inBlockA, noGotoA, if_true, Nat.reduceEqDiff, if_false, ↓reduceIte])
   | ((with_reducible first | refine awp_reg 18 hX [1, 2, 3, 4, 5, 6] ?_ | change postOf _ _ _ _ _); simp [-List.reduceReplicate, Nat.add_one_le_iff, -getElem?_pos, -getElem?_neg, iC, lb, z0, -Tab.zero110])
   | ((first | (with_reducible refine awp_ret ?_; try simp only [thenA, inBlockA, noGotoA])); try simp [-List.reduceReplicate, Nat.add_one_le_iff, -getElem?_pos, -getElem?_neg, iC, lb, z0, -Tab.zero110])
   | (with_reducible refine awp_if_b rfl (fun hc => ?_) (fun hc => ?_) <;> (try simp [-getElem?_pos, -getElem?_neg] at hc) <;> (try (exfalso; omega)))
   | (with_reducible refine And.intro (by omega) ?_)
   | fail)
  refine awp_forU [1, 2, 3, 5] (fun i (_u : Unit) => [(5, .c (iC i))]) (fun i (_u : Unit) => [⟨45, 1, false, 0, up cb, none⟩, ⟨110, 1, false, 0, up (F 0), none⟩, ⟨110, 1, false, 0, up (F i), none⟩]) (fun i (_u : Unit) => True) (4) (()) (by first | trivial | (simp; done) | omega | (intros; simp at *; done)) (by simp [-List.reduceReplicate, keep, iC]) (by simp [-List.reduceReplicate, iC]) ?_
  rintro i _u Q1 hi hH next hother
  conv => arg 5; arg 1; simp only [List.cons_append, List.nil_append, keep, get, Nat.reduceEqDiff, if_true, if_false, ↓reduceIte]
  have hwi := wrap_in ((i : Int) + 1) (by omega)
  by_cases hlt : i < 4
  · have hi2 : (i : Int) < 4 := by omega
    have q1 := tk i hlt
    rw [tl i hlt] at q1
    have q2 : ((8 * i : Nat) : Int) = 8 * (i : Int) := by omega
    rw [q2] at q1
    have fs := FS i hlt
    obtain ⟨j, hj⟩ : ∃ j, 3 - i = j := ⟨_, rfl⟩
    rw [hj] at fs q1
    have hij : (3 - (i : Int)) = (j : Int) := by omega
    have wj := wrap_in (j : Int) (by omega)
    have w8 := wrap_in (8 * (i : Int)) (by omega)
    have hj4 : j < 4 := by omega
    have fl := FL i
    have hset : (up (F i)).set j (M.c (u64C (fx j))) = up (F (i + 1)) := by rw [← fs]; simp [up, List.map_set]
    generalize fx j = z at *
    unfold u64C at *
    repeat' (first 
     | (with_reducible first | refine awp_scope ?_ | refine awp_seq ?_ | refine awp_block ?_)
     | ((with_reducible first | refine awp_label ?_ | refine awp_skip ?_ | refine awp_exit ?_ | refine hother _ _ rfl ?_); try simp only [thenA, inBlockA, noGotoA, if_true, Nat.reduceEqDiff, if_false, ↓reduceIte])
     | ((with_reducible first | refine awp_reg 18 hX [1, 2, 3, 4, 5, 6] ?_ | change postOf _ _ _ _ _); simp [-List.reduceReplicate, Nat.add_one_le_iff, -getElem?_pos, -getElem?_neg, iC, bC, hi2, hij, wj, w8, hj4, fl, lb, hb8, t32, hset, hwi])
     | ((first | (with_reducible refine awp_ret ?_; try simp only [thenA, inBlockA, noGotoA]) | (refine (q1 _).det ?_)); try simp [-List.reduceReplicate, Nat.add_one_le_iff, -getElem?_pos, -getElem?_neg, iC, bC, hi2, hij, wj, w8, hj4, fl, lb, hb8, t32, hset, hwi])
     | (with_reducible refine awp_if_b rfl (fun hc => ?_) (fun hc => ?_) <;> (try simp [-getElem?_pos, -getElem?_neg] at hc) <;> (try (exfalso; omega)))
     | (with_reducible refine And.intro (by omega) ?_)
     | fail)
    refine next _ _ (()) (by omega) (by first | trivial | omega | assumption) (by simp [-List.reduceReplicate, keep, iC]) (by simp [-List.reduceReplicate, iC])
  · have hi3 : i = 4 := by omega
    subst hi3
    repeat' (first 
     | (with_reducible first | refine awp_scope ?_ | refine awp_seq ?_ | refine awp_block ?_)
     | ((with_reducible first | refine awp_label ?_ | refine awp_skip ?_ | refine awp_exit ?_ | refine hother _ _ rfl ?_); try simp only [thenA, inBlockA, noGotoA, if_true, Nat.reduceEqDiff, if_false, ↓reduceIte])
     | ((with_reducible first | refine awp_reg 18 hX [1, 2, 3, 4, 5, 6] ?_ | change postOf _ _ _ _ _); simp [-List.reduceReplicate, Nat.add_one_le_iff, -getElem?_pos, -getElem?_neg, iC, FL, FT])
     | ((first | (with_reducible refine awp_ret ?_; try simp only [thenA, inBlockA, noGotoA])); try simp [-List.reduceReplicate, Nat.add_one_le_iff, -getElem?_pos, -getElem?_neg, iC, FL, FT])
     | (with_reducible refine awp_if_b rfl (fun hc => ?_) (fun hc => ?_) <;> (try simp [-getElem?_pos, -getElem?_neg] at hc) <;> (try (exfalso; omega)))
     | (with_reducible refine And.intro (by omega) ?_)
     | fail)
def wF (y i : Nat) : List C := (List.range 4).map fun t => u64C (if t < i then lim y t else 0)
end Go.Av

set_option exponentiation.threshold 1000
set_option linter.unusedVariables false
set_option linter.unusedSimpArgs false
set_option maxRecDepth 100000
set_option maxHeartbeats 4000000
namespace Go.Av
open Go Go.Proofs Go.Proofs.Ytpcnacknlgmmlaa Go.RowKit
attribute [local simp] List.getElem?_cons_zero List.getElem?_cons_succ
attribute [local simp] Try.underlying9 Try.underlying3 Try.underlying4 Try.underlying27 Try.underlying45 Try.underlying47
def getHD (s : ByteArray) : HD := ⟨takeN s 0 4, h32 s 4, h32 s 36, takeN s 68 8⟩
def headC (c : Cu) : HD × Cu := (getHD (rawC c 76).1, (rawC c 76).2)
theorem hdC_set (v n : Nat) : ((hdC H0).set 0 (u32C v)).set 65 (u64C n) = hdC ⟨v, H0.a, H0.b, n⟩ := by
  have h1 : ∀ (a b : List C) (x y : C), a.length = 32 → b.length = 32 → (a ++ (b ++ [x])).set 64 y = a ++ (b ++ [y]) := fun a b x y ha hb => by
    rw [List.set_append_right _ _ (by omega), List.set_append_right _ _ (by omega), ha, hb]
    rfl
  show (u32C v :: (_ ++ (_ ++ [u64C 0])).set 64 (u64C n)) = _
  rw [h1 _ _ _ _ (by simp [H0, Z32]) (by simp [H0, Z32])]
  rfl
theorem h32_ext (s : ByteArray) (k : Nat) (h : k + 32 ≤ s.size) : ((s.extract k s.size).toList.map fun b => C.v (Value.int .u8 (b.toNat : Int))).take 32 = (h32 s k).1.map bC8 := by
  have hv : (h32 s k).1 = (s.data.toList.drop k ++ List.replicate 32 0).take 32 := rfl
  have hl : s.data.toList.length = s.size := by rw [Array.length_toList]; rfl
  rw [hv, toList_data, ext_list, ← List.map_take, List.take_take, Nat.min_eq_left (by omega), List.take_append_of_le_length (by rw [List.length_drop]; omega)]
  rfl
theorem lay_a (v n : Nat) (a b a2 : H32) : lay (up (hdC ⟨v, a, b, n⟩)) 1 (up (a2.1.map bC8)) = up (hdC ⟨v, a2, b, n⟩) := by
  rw [lay_app _ _ _ (by simp [up, hdC, a.2, b.2, a2.2])]
  simp only [up, hdC, List.length_map, a2.2, List.map_cons, List.map_append, List.take_succ_cons, List.take_zero, List.drop_succ_cons, show 1 + 32 = 32 + 1 from rfl]
  rw [List.drop_left' (by simp [a.2])]
  simp
theorem lay_b (v n : Nat) (a b b2 : H32) : lay (up (hdC ⟨v, a, b, n⟩)) 33 (up (b2.1.map bC8)) = up (hdC ⟨v, a, b2, n⟩) := by
  rw [lay_app _ _ _ (by simp [up, hdC, a.2, b.2, b2.2])]
  simp only [up, hdC, List.length_map, b2.2, List.map_cons, List.map_append, List.take_succ_cons, List.drop_succ_cons, show 33 + 32 = (32 + 32) + 1 from rfl, show 33 = 32 + 1 from rfl]
  rw [List.take_left' (by simp [a.2]), ← List.drop_drop, List.drop_left' (by simp [a.2]), List.drop_left' (by simp [b.2])]
  simp
theorem headGet_den (i : Nat) (c : Cu) (ob : List Ob) (h : ob[i]? = some (curO c)) (hok : okCu ob) : Den Try.prog 31 [.mp i 0 0] ob (fun r ob' => r = hdM (headC c).1 ∧ ob' = ob.set i (curO (headC c).2)) := by
  have hil := (List.getElem?_eq_some_iff.1 h).1
  have z0 : zeroT Try.prog 47 = some (up (hdC H0)) := by kernel_rfl
  have hR := Raw_den i c 76 (ob ++ [⟨47, 1, false, 0, up (hdC H0), none⟩]) (by rw [List.getElem?_append_left hil, h])
  rw [List.set_append_left _ _ hil] at hR
  unfold headC
  have hsz := rawC_size c 76
  refine Den.forget ?_ ?_ ?_ ?_
  · simp
  · simp [hdM, ltB]
  · exact okCu_set ob i _ hok
  generalize (rawC c 76) = pr at *
  obtain ⟨s, d⟩ := pr
  simp only at *
  have hll : (ob.set i (curO d)).length = ob.length := by simp
  generalize ob.set i (curO d) = ob2 at *
  have k1 := take32_den s 0 (by omega) (by omega)
  have k2 := take64_den s 68 (by omega) (by omega)
  have hhd : getHD s = ⟨takeN s 0 4, h32 s 4, h32 s 36, takeN s 68 8⟩ := rfl
  unfold hdM
  have g1 : ∀ x y, (ob2 ++ [x, y])[ob.length + 1]? = some y := fun x y => by rw [← hll]; simp
  have g0 : ∀ x y, (ob2 ++ [x, y])[ob.length]? = some x := fun x y => by rw [← hll]; simp
  have g9 : ∀ x, (ob2 ++ [x])[ob.length]? = some x := fun x => by rw [← hll]; simp
  have g8 : ∀ x z, (ob2 ++ [x]).set ob.length z = ob2 ++ [z] := fun x z => by rw [← hll, List.set_append_right _ _ (by omega)]; simp
  have g2 : ∀ x y z, (ob2 ++ [x, y]).set (ob.length + 1) z = ob2 ++ [x, z] := fun x y z => by rw [← hll, List.set_append_right _ _ (by omega)]; simp
  have g3 : ∀ x y z, (ob2 ++ [x, y]).set ob.length z = ob2 ++ [z, y] := fun x y z => by rw [← hll, List.set_append_right _ _ (by omega)]; simp
  have hsl : s.toList.length = s.size := by rw [toList_data, Array.length_toList]; rfl
  rcases hsz with h0 | h0
  · obtain rfl : s = e0 := (size0_eq s).1 h0
    have hz : getHD e0 = H0 := by rfl
    have hZl : (hdC H0).length = 66 := by rfl
    rw [hz]
    generalize hdC H0 = Z at *
    have hZt : Z.take 66 = Z := List.take_of_length_le (by omega)
    refine den_of Try.func31 rfl rfl (by simp [Try.ntmps31]) (fun X hX hO => ?_)
    rw [Try.ntmps31] at hX
    simp only [Try.results31]
    repeat' (first 
     | (with_reducible first | refine awp_scope ?_ | refine awp_seq ?_ | refine awp_block ?_)
     | ((with_reducible first | refine awp_label ?_ | refine awp_skip ?_ | refine awp_exit ?_); try simp only [thenA, inBlockA, noGotoA, if_true, Nat.reduceEqDiff, if_false, ↓reduceIte])
     | ((with_reducible first | refine awp_reg 29 hX [0, 2, 3, 4, 5, 9] ?_ | refine awp_drw 29 hX [0, 2, 3, 4, 5, 9] Tab.mixed (by kernel_rfl) ?_ | refine DEv_cut _ _ _ _ _ _ _ _ _ _ _ _ (by kernel_rfl) ?_ | change postOf _ _ _ _ _); simp [-List.reduceReplicate, Nat.add_one_le_iff, -getElem?_pos, -getElem?_neg, iC, sC, z0, -Tab.zero47, g9, g8, e0, hZl, hZt])
     | ((first | (with_reducible refine awp_ret ?_; try simp only [thenA, inBlockA, noGotoA]) | (refine (hR).det ?_) | (refine ⟨_, _, hR, fun _ => rfl, ?_⟩)); try simp [-List.reduceReplicate, Nat.add_one_le_iff, -getElem?_pos, -getElem?_neg, iC, sC, z0, -Tab.zero47, g9, g8, e0, hZl, hZt])
     | (with_reducible refine awp_if_b rfl (fun hc => ?_) (fun hc => ?_) <;> (try simp [-getElem?_pos, -getElem?_neg] at hc) <;> (try (exfalso; omega)))
     | (with_reducible refine And.intro (by omega) ?_)
     | fail)
  · have hZl : ∀ H, (hdC H).length = 66 := fun H => by simp [hdC, H.a.2, H.b.2]
    have hst := hdC_set (takeN s 0 4) (takeN s 68 8)
    unfold u32C u64C at hst
    rw [hhd]
    have e1 := h32_ext s 4 (by omega)
    have e2 := h32_ext s 36 (by omega)
    have l1 := lay_a (takeN s 0 4) (takeN s 68 8) H0.a H0.b (h32 s 4)
    have l2 := lay_b (takeN s 0 4) (takeN s 68 8) (h32 s 4) H0.b (h32 s 36)
    have n1 : (s.extract 4 s.size).toList.length = 72 := by rw [toList_data, Array.length_toList]; show (s.extract 4 s.size).size = 72; rw [ByteArray.size_extract]; omega
    have n2 : (s.extract 36 s.size).toList.length = 40 := by rw [toList_data, Array.length_toList]; show (s.extract 36 s.size).size = 40; rw [ByteArray.size_extract]; omega
    rw [h0] at e1 e2 n1 n2
    have hw36 : IntKind.i64.wrap 36 = 36 := rfl
    have hne : ¬ s = ByteArray.empty := fun e => by rw [e] at h0; simp at h0
    have hne2 := toList_ne hne
    refine den_of Try.func31 rfl rfl (by simp [Try.ntmps31]) (fun X hX hO => ?_)
    rw [Try.ntmps31] at hX
    simp only [Try.results31]
    repeat' (first 
     | (with_reducible first | refine awp_scope ?_ | refine awp_seq ?_ | refine awp_block ?_)
     | ((with_reducible first | refine awp_label ?_ | refine awp_skip ?_ | refine awp_exit ?_); try simp only [thenA, inBlockA, noGotoA, if_true, Nat.reduceEqDiff, if_false, ↓reduceIte])
     | ((with_reducible first | refine awp_reg 29 hX [0, 2, 3, 4, 5, 9] ?_ | refine awp_drw 29 hX [0, 2, 3, 4, 5, 9] Tab.mixed (by kernel_rfl) ?_ | refine DEv_cut _ _ _ _ _ _ _ _ _ _ _ _ (by kernel_rfl) ?_ | change postOf _ _ _ _ _); simp [-List.reduceReplicate, Nat.add_one_le_iff, -getElem?_pos, -getElem?_neg, iC, sC, u32C, u64C, z0, -Tab.zero47, g9, g8, hZl, hne, hne2, hst, g1, g2, g3, g0, hll, e1, e2, l1, l2, n1, n2, h0, hw36, List.take_of_length_le])
     | ((first | (with_reducible refine awp_ret ?_; try simp only [thenA, inBlockA, noGotoA]) | (refine (hR).det ?_) | (refine ⟨_, _, hR, fun _ => rfl, ?_⟩) | (refine (k1 _).det ?_) | (refine ⟨_, _, k1 _, fun _ => rfl, ?_⟩) | (refine (k2 _).det ?_) | (refine ⟨_, _, k2 _, fun _ => rfl, ?_⟩)); try simp [-List.reduceReplicate, Nat.add_one_le_iff, -getElem?_pos, -getElem?_neg, iC, sC, u32C, u64C, z0, -Tab.zero47, g9, g8, hZl, hne, hne2, hst, g1, g2, g3, g0, hll, e1, e2, l1, l2, n1, n2, h0, hw36, List.take_of_length_le])
     | (with_reducible refine awp_if_b rfl (fun hc => ?_) (fun hc => ?_) <;> (try simp [-getElem?_pos, -getElem?_neg] at hc) <;> (try (exfalso; omega)))
     | (with_reducible refine And.intro (by omega) ?_)
     | fail)
    trace_state
def hdX (v : Nat) (A B : List C) (n : Nat) : List C := u32v v :: (A ++ (B ++ [u64C n]))
end Go.Av

set_option exponentiation.threshold 1000
set_option linter.unusedVariables false
set_option linter.unusedSimpArgs false
set_option maxRecDepth 100000
set_option maxHeartbeats 4000000
namespace Go.Av
open Go Go.Proofs Go.Proofs.Ytpcnacknlgmmlaa Go.RowKit
attribute [local simp] List.getElem?_cons_zero List.getElem?_cons_succ
attribute [local simp] Try.underlying9 Try.underlying3 Try.underlying4 Try.underlying27 Try.underlying45 Try.underlying22 Try.underlying95
def nilM : M := .c (.v (.slice none 0 0))
def z32 : List UInt8 := List.replicate 32 0
def rootNil : List UInt8 := shaL (bsS (rootT 0 z32))
theorem rootNil_len : rootNil.length = 32 := shaL_len _
theorem textsNil_den : DenV Try.prog 56 [nilM] nilM := by
  refine Den.frame rfl rfl ?_
  refine den_of Try.func56 rfl rfl (by simp [Try.ntmps56]) (fun X hX hO => ?_)
  rw [Try.ntmps56] at hX
  simp only [Try.results56]
  repeat' (first 
   | (with_reducible first | refine awp_scope ?_ | refine awp_seq ?_ | refine awp_block ?_)
   | ((with_reducible first | refine awp_label ?_ | refine awp_skip ?_ | refine awp_exit ?_ | refine hother _ _ rfl ?_); try simp only [thenA, inBlockA, noGotoA, if_true, Nat.reduceEqDiff, if_false, ↓reduceIte])
   | ((with_reducible first | refine awp_reg 19 hX [0, 2, 3, 5, 6, 7, 8, 9] ?_ | change postOf _ _ _ _ _); simp [-List.reduceReplicate, Nat.add_one_le_iff, -getElem?_pos, -getElem?_neg, nilM])
   | ((first | (with_reducible refine awp_ret ?_; try simp only [thenA, inBlockA, noGotoA])); try simp [-List.reduceReplicate, Nat.add_one_le_iff, -getElem?_pos, -getElem?_neg, nilM])
   | (with_reducible refine awp_if_b rfl (fun hc => ?_) (fun hc => ?_) <;> (try simp [-getElem?_pos, -getElem?_neg] at hc) <;> (try (exfalso; omega)))
   | (with_reducible refine And.intro (by omega) ?_)
   | fail)
  refine awp_forU [3, 6, 7, 8] (fun i (_u : Unit) => [(8, .c (iC i))]) (fun i (_u : Unit) => []) (fun i (_u : Unit) => True) (0) (()) (by first | trivial | (simp; done) | omega | (intros; simp at *; done)) (by simp [-List.reduceReplicate, keep, iC]) (by simp [-List.reduceReplicate, iC]) ?_
  rintro i _u Q1 hi hH next hother
  conv => arg 5; arg 1; simp only [List.cons_append, List.nil_append, keep, get, Nat.reduceEqDiff, if_true, if_false, ↓reduceIte]
  repeat' (first 
   | (with_reducible first | refine awp_scope ?_ | refine awp_seq ?_ | refine awp_block ?_)
   | ((with_reducible first | refine awp_label ?_ | refine awp_skip ?_ | refine awp_exit ?_ | refine hother _ _ rfl ?_); try simp only [thenA, inBlockA, noGotoA, if_true, Nat.reduceEqDiff, if_false, ↓reduceIte])
   | ((with_reducible first | refine awp_reg 19 hX [0, 2, 3, 5, 6, 7, 8, 9] ?_ | change postOf _ _ _ _ _); simp [-List.reduceReplicate, Nat.add_one_le_iff, -getElem?_pos, -getElem?_neg, nilM, iC])
   | ((first | (with_reducible refine awp_ret ?_; try simp only [thenA, inBlockA, noGotoA])); try simp [-List.reduceReplicate, Nat.add_one_le_iff, -getElem?_pos, -getElem?_neg, nilM, iC])
   | (with_reducible refine awp_if_b rfl (fun hc => ?_) (fun hc => ?_) <;> (try simp [-getElem?_pos, -getElem?_neg] at hc) <;> (try (exfalso; omega)))
   | (with_reducible refine And.intro (by omega) ?_)
   | fail)
theorem eachNil_den (f : M) (hf : ltB 0 f = true) : DenV Try.prog 92 [nilM, f] nilM := by
  refine Den.frame (by simp [ltBs, hf, nilM, ltB]) rfl ?_
  refine den_of Try.func92 rfl rfl (by simp [Try.ntmps92]) (fun X hX hO => ?_)
  rw [Try.ntmps92] at hX
  simp only [Try.results92]
  repeat' (first 
   | (with_reducible first | refine awp_scope ?_ | refine awp_seq ?_ | refine awp_block ?_)
   | ((with_reducible first | refine awp_label ?_ | refine awp_skip ?_ | refine awp_exit ?_ | refine hother _ _ rfl ?_); try simp only [thenA, inBlockA, noGotoA, if_true, Nat.reduceEqDiff, if_false, ↓reduceIte])
   | ((with_reducible first | refine awp_reg 22 hX [0, 1, 4, 5, 7, 8, 9, 10, 11] ?_ | change postOf _ _ _ _ _); simp [-List.reduceReplicate, Nat.add_one_le_iff, -getElem?_pos, -getElem?_neg, nilM])
   | ((first | (with_reducible refine awp_ret ?_; try simp only [thenA, inBlockA, noGotoA])); try simp [-List.reduceReplicate, Nat.add_one_le_iff, -getElem?_pos, -getElem?_neg, nilM])
   | (with_reducible refine awp_if_b rfl (fun hc => ?_) (fun hc => ?_) <;> (try simp [-getElem?_pos, -getElem?_neg] at hc) <;> (try (exfalso; omega)))
   | (with_reducible refine And.intro (by omega) ?_)
   | fail)
  refine awp_forU [1, 5, 8, 9, 10] (fun i (_u : Unit) => [(9, .c (iC i))]) (fun i (_u : Unit) => []) (fun i (_u : Unit) => True) (0) (()) (by first | trivial | (simp; done) | omega | (intros; simp at *; done)) (by simp [-List.reduceReplicate, keep, iC]) (by simp [-List.reduceReplicate, iC]) ?_
  rintro i _u Q1 hi hH next hother
  conv => arg 5; arg 1; simp only [List.cons_append, List.nil_append, keep, get, Nat.reduceEqDiff, if_true, if_false, ↓reduceIte]
  repeat' (first 
   | (with_reducible first | refine awp_scope ?_ | refine awp_seq ?_ | refine awp_block ?_)
   | ((with_reducible first | refine awp_label ?_ | refine awp_skip ?_ | refine awp_exit ?_ | refine hother _ _ rfl ?_); try simp only [thenA, inBlockA, noGotoA, if_true, Nat.reduceEqDiff, if_false, ↓reduceIte])
   | ((with_reducible first | refine awp_reg 22 hX [0, 1, 4, 5, 7, 8, 9, 10, 11] ?_ | change postOf _ _ _ _ _); simp [-List.reduceReplicate, Nat.add_one_le_iff, -getElem?_pos, -getElem?_neg, nilM, iC])
   | ((first | (with_reducible refine awp_ret ?_; try simp only [thenA, inBlockA, noGotoA])); try simp [-List.reduceReplicate, Nat.add_one_le_iff, -getElem?_pos, -getElem?_neg, nilM, iC])
   | (with_reducible refine awp_if_b rfl (fun hc => ?_) (fun hc => ?_) <;> (try simp [-getElem?_pos, -getElem?_neg] at hc) <;> (try (exfalso; omega)))
   | (with_reducible refine And.intro (by omega) ?_)
   | fail)
theorem leavesNil_den : DenV Try.prog 78 [nilM] nilM := by
  refine Den.frame rfl rfl ?_
  refine den_of Try.func78 rfl rfl (by simp [Try.ntmps78]) (fun X hX hO => ?_)
  rw [Try.ntmps78] at hX
  simp only [Try.results78]
  repeat' (first 
   | (with_reducible first | refine awp_scope ?_ | refine awp_seq ?_ | refine awp_block ?_)
   | ((with_reducible first | refine awp_label ?_ | refine awp_skip ?_ | refine awp_exit ?_); try simp only [thenA, inBlockA, noGotoA, if_true, Nat.reduceEqDiff, if_false, ↓reduceIte])
   | ((with_reducible first | refine awp_reg 5 hX [0, 2] ?_ | change postOf _ _ _ _ _); simp [-List.reduceReplicate, Nat.add_one_le_iff, -getElem?_pos, -getElem?_neg, nilM])
   | ((first | (with_reducible refine awp_ret ?_; try simp only [thenA, inBlockA, noGotoA]) | ((with_reducible refine Den.at_ (f := 92) ?_); refine (eachNil_den _ rfl _).det ?_)); try simp [-List.reduceReplicate, Nat.add_one_le_iff, -getElem?_pos, -getElem?_neg, nilM])
   | (with_reducible refine awp_if_b rfl (fun hc => ?_) (fun hc => ?_) <;> (try simp [-getElem?_pos, -getElem?_neg] at hc) <;> (try (exfalso; omega)))
   | (with_reducible refine And.intro (by omega) ?_)
   | fail)
theorem topNil_den : DenV Try.prog 77 [nilM] (hashM z32) := by
  refine Den.frame rfl rfl ?_
  refine den_of Try.func77 rfl rfl (by simp [Try.ntmps77]) (fun X hX hO => ?_)
  rw [Try.ntmps77] at hX
  simp only [Try.results77]
  repeat' (first 
   | (with_reducible first | refine awp_scope ?_ | refine awp_seq ?_ | refine awp_block ?_)
   | ((with_reducible first | refine awp_label ?_ | refine awp_skip ?_ | refine awp_exit ?_); try simp only [thenA, inBlockA, noGotoA, if_true, Nat.reduceEqDiff, if_false, ↓reduceIte])
   | ((with_reducible first | refine awp_reg 25 hX [0, 2, 3, 4, 6, 7, 10] ?_ | change postOf _ _ _ _ _); simp [-List.reduceReplicate, Nat.add_one_le_iff, -getElem?_pos, -getElem?_neg, nilM, hashM, z32, bC8])
   | ((first | (with_reducible refine awp_ret ?_; try simp only [thenA, inBlockA, noGotoA])); try simp [-List.reduceReplicate, Nat.add_one_le_iff, -getElem?_pos, -getElem?_neg, nilM, hashM, z32, bC8])
   | (with_reducible refine awp_if_b rfl (fun hc => ?_) (fun hc => ?_) <;> (try simp [-getElem?_pos, -getElem?_neg] at hc) <;> (try (exfalso; omega)))
   | (with_reducible refine And.intro (by omega) ?_)
   | fail)
theorem treeRootNil_den : DenV Try.prog 55 [nilM] (hashM rootNil) := by
  refine Den.frame rfl rfl ?_
  have p1 := leavesNil_den
  have p2 := topNil_den
  have p3 := rootSum_den 0 z32 (by omega) (by simp [z32])
  have hl := rootNil_len
  have hr : shaL (bsS (rootT 0 z32)) = rootNil := rfl
  rw [hr] at p3
  have ht := hash_take rootNil hl
  generalize rootNil = r at *
  generalize z32 = z at *
  refine den_of Try.func55 rfl rfl (by simp [Try.ntmps55]) (fun X hX hO => ?_)
  rw [Try.ntmps55] at hX
  simp only [Try.results55]
  repeat' (first 
   | (with_reducible first | refine awp_scope ?_ | refine awp_seq ?_ | refine awp_block ?_)
   | ((with_reducible first | refine awp_label ?_ | refine awp_skip ?_ | refine awp_exit ?_); try simp only [thenA, inBlockA, noGotoA, if_true, Nat.reduceEqDiff, if_false, ↓reduceIte])
   | ((with_reducible first | refine awp_reg 10 hX [0, 2] ?_ | change postOf _ _ _ _ _); simp [-List.reduceReplicate, Nat.add_one_le_iff, -getElem?_pos, -getElem?_neg, nilM, hashM, u64C, ht, hl])
   | ((first | (with_reducible refine awp_ret ?_; try simp only [thenA, inBlockA, noGotoA]) | (refine (p1 _).det ?_) | (refine (p2 _).det ?_) | (refine (p3 _).det ?_)); try simp [-List.reduceReplicate, Nat.add_one_le_iff, -getElem?_pos, -getElem?_neg, nilM, hashM, u64C, ht, hl])
   | (with_reducible refine awp_if_b rfl (fun hc => ?_) (fun hc => ?_) <;> (try simp [-getElem?_pos, -getElem?_neg] at hc) <;> (try (exfalso; omega)))
   | (with_reducible refine And.intro (by omega) ?_)
   | fail)
theorem linkRootNil_den : DenV Try.prog 35 [nilM] (hashM rootNil) := by
  refine Den.frame rfl rfl ?_
  have hl := rootNil_len
  have ht := hash_take rootNil hl
  have p1 := treeRootNil_den
  generalize rootNil = r at *
  refine den_of Try.func35 rfl rfl (by simp [Try.ntmps35]) (fun X hX hO => ?_)
  rw [Try.ntmps35] at hX
  simp only [Try.results35]
  repeat' (first 
   | (with_reducible first | refine awp_scope ?_ | refine awp_seq ?_ | refine awp_block ?_)
   | ((with_reducible first | refine awp_label ?_ | refine awp_skip ?_ | refine awp_exit ?_); try simp only [thenA, inBlockA, noGotoA, if_true, Nat.reduceEqDiff, if_false, ↓reduceIte])
   | ((with_reducible first | refine awp_reg 6 hX [0, 2] ?_ | change postOf _ _ _ _ _); simp [-List.reduceReplicate, Nat.add_one_le_iff, -getElem?_pos, -getElem?_neg, nilM, hashM, ht, hl])
   | ((first | (with_reducible refine awp_ret ?_; try simp only [thenA, inBlockA, noGotoA]) | ((with_reducible refine Den.at_ (f := 56) ?_); refine (textsNil_den _).det ?_) | (refine (p1 _).det ?_)); try simp [-List.reduceReplicate, Nat.add_one_le_iff, -getElem?_pos, -getElem?_neg, nilM, hashM, ht, hl])
   | (with_reducible refine awp_if_b rfl (fun hc => ?_) (fun hc => ?_) <;> (try simp [-getElem?_pos, -getElem?_neg] at hc) <;> (try (exfalso; omega)))
   | (with_reducible refine And.intro (by omega) ?_)
   | fail)
end Go.Av

set_option exponentiation.threshold 1000
set_option linter.unusedVariables false
set_option linter.unusedSimpArgs false
set_option maxRecDepth 100000
set_option maxHeartbeats 4000000
namespace Go.Av
open Go Go.Proofs Go.Proofs.Ytpcnacknlgmmlaa Go.RowKit
attribute [local simp] List.getElem?_cons_zero List.getElem?_cons_succ
def bitsC (x : Nat) : C := .sl ((bitsL x).map bC) 256 false
end Go.Av

set_option exponentiation.threshold 1000
set_option linter.unusedVariables false
set_option linter.unusedSimpArgs false
set_option maxRecDepth 100000
set_option maxHeartbeats 4000000
namespace Go.Av
open Go Go.Proofs Go.Proofs.Ytpcnacknlgmmlaa Go.RowKit
attribute [local simp] List.getElem?_cons_zero List.getElem?_cons_succ
attribute [local simp] Try.underlying9 Try.underlying3 Try.underlying4 Try.underlying27 Try.underlying45 Try.underlying47 Try.underlying49
structure CF where
  g : HD
  t : H32
  m : Int
  k : Int
  a : Int
  b : Int
  mb : Int
  mp : Int
def cfC (c : CF) : List C := hdC c.g ++ (c.t.1.map bC8 ++ [iC c.m, iC c.k, iC c.a, iC c.b, iC c.mb, iC c.mp])
def cfM (c : CF) : M := .agg (up (cfC c))
def okN (x t : Nat) : Bool := decide (cmpN x t ≤ 0)
theorem hv_lt256 (l : List UInt8) (hl : l.length = 32) : hv l < 2 ^ 256 := by
  exact Nat.lt_of_lt_of_le (hv_lt 32 l hl) (by decide)
theorem ok_den (x t : List UInt8) (hx : x.length = 32) (ht : t.length = 32) : DenV Try.prog 36 [hashM x, hashM t] (.c (bC (okN (hv x) (hv t)))) := by
  refine Den.frame (by simp [hashM, ltB, ltBs]) rfl ?_
  have p1 := wof_den x hx
  have p2 := wof_den t ht
  have p3 := wcmp_den (hv x) (hv t) (by simpa using hv_lt256 x hx) (by simpa using hv_lt256 t ht)
  have hk : okN (hv x) (hv t) = decide (cmpN (hv x) (hv t) ≤ 0) := rfl
  have h1 := hash_take x hx
  have h2 := hash_take t ht
  generalize okN (hv x) (hv t) = r at *
  generalize cmpN (hv x) (hv t) = k at *
  generalize wideM (hv x) = a at *
  generalize wideM (hv t) = b at *
  refine den_of Try.func36 rfl rfl (by simp [Try.ntmps36]) (fun X hX hO => ?_)
  rw [Try.ntmps36] at hX
  simp only [Try.results36]
  repeat' (first 
   | (with_reducible first | refine awp_scope ?_ | refine awp_seq ?_ | refine awp_block ?_)
   | ((with_reducible first | refine awp_label ?_ | refine awp_skip ?_ | refine awp_exit ?_); try simp only [thenA, inBlockA, noGotoA, if_true, Nat.reduceEqDiff, if_false, ↓reduceIte])
   | ((with_reducible first | refine awp_reg 11 hX [2, 3, 4] ?_ | refine awp_drw 11 hX [2, 3, 4] Tab.mixed (by kernel_rfl) ?_ | refine DEv_cut _ _ _ _ _ _ _ _ _ _ _ _ (by kernel_rfl) ?_ | change postOf _ _ _ _ _); simp [-List.reduceReplicate, Nat.add_one_le_iff, -getElem?_pos, -getElem?_neg, iC, bC, hashM, h1, h2, hx, ht, hk])
   | ((first | (with_reducible refine awp_ret ?_; try simp only [thenA, inBlockA, noGotoA]) | (refine (p1 _).det ?_) | (refine ⟨_, _, p1 _, fun _ => rfl, ?_⟩) | (refine (p2 _).det ?_) | (refine ⟨_, _, p2 _, fun _ => rfl, ?_⟩) | (refine (p3 _).det ?_) | (refine ⟨_, _, p3 _, fun _ => rfl, ?_⟩)); try simp [-List.reduceReplicate, Nat.add_one_le_iff, -getElem?_pos, -getElem?_neg, iC, bC, hashM, h1, h2, hx, ht, hk])
   | (with_reducible refine awp_if_b rfl (fun hc => ?_) (fun hc => ?_) <;> (try simp [-getElem?_pos, -getElem?_neg] at hc) <;> (try (exfalso; omega)))
   | (with_reducible refine And.intro (by omega) ?_)
   | fail)
def mayR (a b : Int) : Bool := decide (0 < a) && decide (a < b) && decide (b ≤ 65536)
def mayP (m k a b : Int) : Bool := decide (1 ≤ m) && decide (m ≤ 1024) && decide (1 ≤ k) && decide (k ≤ 1024) && mayR a b
theorem mayR_den (a b : Int) : DenV Try.prog 60 [.c (iC a), .c (iC b)] (.c (bC (mayR a b))) := by
  refine Den.frame rfl rfl ?_
  have hr : mayR a b = (decide (0 < a) && decide (a < b) && decide (b ≤ 65536)) := rfl
  generalize mayR a b = r at *
  refine den_of Try.func60 rfl rfl (by simp [Try.ntmps60]) (fun X hX hO => ?_)
  rw [Try.ntmps60] at hX
  simp only [Try.results60]
  repeat' (first 
   | (with_reducible first | refine awp_scope ?_ | refine awp_seq ?_ | refine awp_block ?_)
   | ((with_reducible first | refine awp_label ?_ | refine awp_skip ?_ | refine awp_exit ?_); try simp only [thenA, inBlockA, noGotoA, if_true, Nat.reduceEqDiff, if_false, ↓reduceIte])
   | ((with_reducible first | refine awp_reg 16 hX [0, 1, 4] ?_ | change postOf _ _ _ _ _); simp [-List.reduceReplicate, Nat.add_one_le_iff, -getElem?_pos, -getElem?_neg, iC, bC])
   | ((first | (with_reducible refine awp_ret ?_; try simp only [thenA, inBlockA, noGotoA])); try simp [-List.reduceReplicate, Nat.add_one_le_iff, -getElem?_pos, -getElem?_neg, iC, bC])
   | (with_reducible refine awp_if_b rfl (fun hc => ?_) (fun hc => ?_) <;> (try simp [-getElem?_pos, -getElem?_neg] at hc) <;> (try (exfalso; omega)))
   | ((with_reducible first | refine GuardK_b (fun hc => ?_) (fun hc => ?_)) <;> (try simp only [Bool.not_eq_true', Bool.not_eq_false', decide_eq_true_eq, decide_eq_false_iff_not] at hc) <;> (first | (exfalso; omega) | skip) <;> simp [-List.reduceReplicate, Nat.add_one_le_iff, -getElem?_pos, -getElem?_neg, iC, bC, hc])
   | (with_reducible refine And.intro (by omega) ?_)
   | fail)
  all_goals simp_all
theorem mayP_den (m k a b : Int) : DenV Try.prog 38 [.c (iC m), .c (iC k), .c (iC a), .c (iC b)] (.c (bC (mayP m k a b))) := by
  refine Den.frame rfl rfl ?_
  have p1 := mayR_den a b
  have hr : mayP m k a b = (decide (1 ≤ m) && decide (m ≤ 1024) && decide (1 ≤ k) && decide (k ≤ 1024) && mayR a b) := rfl
  generalize mayP m k a b = r at *
  generalize mayR a b = r2 at *
  refine den_of Try.func38 rfl rfl (by simp [Try.ntmps38]) (fun X hX hO => ?_)
  rw [Try.ntmps38] at hX
  simp only [Try.results38]
  repeat' (first 
   | (with_reducible first | refine awp_scope ?_ | refine awp_seq ?_ | refine awp_block ?_)
   | ((with_reducible first | refine awp_label ?_ | refine awp_skip ?_ | refine awp_exit ?_); try simp only [thenA, inBlockA, noGotoA, if_true, Nat.reduceEqDiff, if_false, ↓reduceIte])
   | ((with_reducible first | refine awp_reg 28 hX [0, 1, 2, 3, 8] ?_ | change postOf _ _ _ _ _); simp [-List.reduceReplicate, Nat.add_one_le_iff, -getElem?_pos, -getElem?_neg, iC, bC])
   | ((first | (with_reducible refine awp_ret ?_; try simp only [thenA, inBlockA, noGotoA]) | (refine (p1 _).det ?_)); try simp [-List.reduceReplicate, Nat.add_one_le_iff, -getElem?_pos, -getElem?_neg, iC, bC])
   | (with_reducible refine awp_if_b rfl (fun hc => ?_) (fun hc => ?_) <;> (try simp [-getElem?_pos, -getElem?_neg] at hc) <;> (try (exfalso; omega)))
   | ((with_reducible first | refine GuardK_b (fun hc => ?_) (fun hc => ?_)) <;> (try simp only [Bool.not_eq_true', Bool.not_eq_false', decide_eq_true_eq, decide_eq_false_iff_not] at hc) <;> (first | (exfalso; omega) | skip) <;> simp [-List.reduceReplicate, Nat.add_one_le_iff, -getElem?_pos, -getElem?_neg, iC, bC, hc])
   | (with_reducible refine And.intro (by omega) ?_)
   | fail)
  all_goals simp_all
end Go.Av

set_option exponentiation.threshold 1000
set_option linter.unusedVariables false
set_option linter.unusedSimpArgs false
set_option maxRecDepth 100000
set_option maxHeartbeats 4000000
namespace Go.Av
open Go Go.Proofs Go.Proofs.Ytpcnacknlgmmlaa Go.RowKit
attribute [local simp] List.getElem?_cons_zero List.getElem?_cons_succ
attribute [local simp] Try.underlying9 Try.underlying3 Try.underlying4 Try.underlying27 Try.underlying45 Try.underlying47 Try.underlying49
def anchC (c : CF) : Bool := decide (c.g.v ≠ 0) || decide (c.g.a.1 ≠ rootNil) || !okN (hv (idL c.g)) (hv c.t.1)
def rangeC (c : CF) : Bool := decide (c.mb < 1) || decide (1024 < c.mb) || decide (c.mp < 1) || decide (64 < c.mp)
def checkC (c : CF) : Int := if anchC c then 7 else if !mayP c.m c.k c.a c.b then 13 else if rangeC c then 3 else 0
theorem cfC_len (c : CF) : (cfC c).length = 104 := by simp [cfC, hdC, c.g.a.2, c.g.b.2, c.t.2]
theorem cfC_g (c : CF) : (cfC c).take 66 = hdC c.g := by
  have : (hdC c.g).length = 66 := by simp [hdC, c.g.a.2, c.g.b.2]
  rw [cfC, List.take_left' this]
theorem cfC_t (c : CF) : ((cfC c).drop 66).take 32 = c.t.1.map bC8 := by
  have : (hdC c.g).length = 66 := by simp [hdC, c.g.a.2, c.g.b.2]
  rw [cfC, List.drop_left' this, List.take_left' (by simp [c.t.2])]
theorem cfC_n (c : CF) (j : Nat) : (cfC c)[98 + j]? = [iC c.m, iC c.k, iC c.a, iC c.b, iC c.mb, iC c.mp][j]? := by
  have : (hdC c.g).length = 66 := by simp [hdC, c.g.a.2, c.g.b.2]
  rw [cfC, List.getElem?_append_right (by omega), this, List.getElem?_append_right (by simp [c.t.2]; omega)]
  simp [c.t.2]
  congr 1
  omega
theorem check_den (c : CF) (hok : HDok c.g) : DenV Try.prog 19 [cfM c] (.c (iC (checkC c))) := by
  refine Den.frame (by simp [cfM, ltB, ltBs]) rfl ?_
  have p1 := linkRootNil_den
  have p2 := identId_den c.g hok
  have p3 := ok_den (idL c.g) c.t.1 (by simp [idL, shaL_len]) c.t.2
  have p4 := mayP_den c.m c.k c.a c.b
  have he := eq_hash c.g.a.1 rootNil c.g.a.2 rootNil_len
  have hrl := rootNil_len
  have hck : checkC c = if anchC c then 7 else if !mayP c.m c.k c.a c.b then 13 else if rangeC c then 3 else 0 := rfl
  have han : anchC c = (decide (c.g.v ≠ 0) || decide (c.g.a.1 ≠ rootNil) || !okN (hv (idL c.g)) (hv c.t.1)) := rfl
  have hra : rangeC c = (decide (c.mb < 1) || decide (1024 < c.mb) || decide (c.mp < 1) || decide (64 < c.mp)) := rfl
  have kl := cfC_len c
  have kg := cfC_g c
  have kt := cfC_t c
  have k0 := cfC_n c 0
  have k1 := cfC_n c 1
  have k2 := cfC_n c 2
  have k3 := cfC_n c 3
  have k4 := cfC_n c 4
  have k5 := cfC_n c 5
  have hl : (hdC c.g).length = 66 := by simp [hdC, c.g.a.2, c.g.b.2]
  have ht : (hdC c.g).take 66 = hdC c.g := List.take_of_length_le (by omega)
  have h0 : (hdC c.g)[0]? = some (.v (.int .u32 (c.g.v : Int))) := rfl
  have ha : ((hdC c.g).drop 1).take 32 = c.g.a.1.map bC8 := by rw [hdC, List.drop_succ_cons, List.drop_zero, List.take_left' (by simp [c.g.a.2])]
  have kv : (cfC c)[0]? = some (.v (.int .u32 (c.g.v : Int))) := rfl
  have ka : ((cfC c).drop 1).take 32 = c.g.a.1.map bC8 := by
    have : cfC c = u32v c.g.v :: (c.g.a.1.map bC8 ++ ((c.g.b.1.map bC8 ++ [u64C c.g.n]) ++ (c.t.1.map bC8 ++ [iC c.m, iC c.k, iC c.a, iC c.b, iC c.mb, iC c.mp]))) := by simp [cfC, hdC]
    rw [this, List.drop_succ_cons, List.drop_zero, List.take_left' (by simp [c.g.a.2])]
  have ha2 : List.take 32 (up (hdC c.g)).tail = up (c.g.a.1.map bC8) := by rw [← ha]; simp [up, hdC, List.map_take]
  have ka2 : List.take 32 (up (cfC c)).tail = up (c.g.a.1.map bC8) := by rw [← ka]; simp [up, cfC, hdC, List.map_take]
  simp at k0 k1 k2 k3 k4 k5
  unfold cfM
  unfold hdM hashM at *
  obtain ⟨⟨v, ⟨A, hA⟩, B, n⟩, ⟨T, hT⟩, m, k, a, b, mb, mp⟩ := c
  simp only at *
  have hv0 : ((v : Int) = 0) ↔ v = 0 := by omega
  generalize checkC ⟨⟨v, ⟨A, hA⟩, B, n⟩, ⟨T, hT⟩, m, k, a, b, mb, mp⟩ = r at *
  generalize anchC ⟨⟨v, ⟨A, hA⟩, B, n⟩, ⟨T, hT⟩, m, k, a, b, mb, mp⟩ = ran at *
  generalize rangeC ⟨⟨v, ⟨A, hA⟩, B, n⟩, ⟨T, hT⟩, m, k, a, b, mb, mp⟩ = rra at *
  generalize cfC ⟨⟨v, ⟨A, hA⟩, B, n⟩, ⟨T, hT⟩, m, k, a, b, mb, mp⟩ = K at *
  generalize hdC ⟨v, ⟨A, hA⟩, B, n⟩ = Hc at *
  have hid : (idL ⟨v, ⟨A, hA⟩, B, n⟩).length = 32 := by simp [idL, shaL_len]
  generalize idL ⟨v, ⟨A, hA⟩, B, n⟩ = I at *
  generalize okN (hv I) (hv T) = o at *
  generalize mayP m k a b = my at *
  generalize rootNil = R at *
  generalize hAA : A.map bC8 = AA at *
  generalize hTT : T.map bC8 = TT at *
  generalize hRR : R.map bC8 = RR at *
  generalize hII : I.map bC8 = II at *
  have lA : AA.length = 32 := by rw [← hAA]; simp [hA]
  have lR : RR.length = 32 := by rw [← hRR]; simp [hrl]
  have lT : TT.length = 32 := by rw [← hTT]; simp [hT]
  have lI : II.length = 32 := by rw [← hII]; simp [hid]
  refine den_of Try.func19 rfl rfl (by simp [Try.ntmps19]) (fun X hX hO => ?_)
  rw [Try.ntmps19] at hX
  simp only [Try.results19]
  by_cases c1 : v = 0
  · by_cases c2 : A = R
    · cases o with
      | false =>
        simp [c1, c2] at han
        repeat' (first 
         | (with_reducible first | refine awp_scope ?_ | refine awp_seq ?_ | refine awp_block ?_)
         | ((with_reducible first | refine awp_label ?_ | refine awp_skip ?_ | refine awp_exit ?_); try simp only [thenA, inBlockA, noGotoA, if_true, Nat.reduceEqDiff, if_false, ↓reduceIte])
         | ((with_reducible first | refine awp_reg 50 hX [1, 2, 3, 6, 20, 31] ?_ | refine awp_drw 50 hX [1, 2, 3, 6, 20, 31] Tab.mixed (by kernel_rfl) ?_ | refine DEv_cut _ _ _ _ _ _ _ _ _ _ _ _ (by kernel_rfl) ?_ | change postOf _ _ _ _ _); simp [-List.reduceReplicate, Nat.add_one_le_iff, -getElem?_pos, -getElem?_neg, iC, bC, kl, kg, kt, k0, k1, k2, k3, k4, k5, hl, ht, h0, ha, he, c1, c2, kv, ka, ha2, ka2])
         | ((first | (with_reducible refine awp_ret ?_; try simp only [thenA, inBlockA, noGotoA]) | (refine (p1 _).det ?_) | (refine ⟨_, _, p1 _, fun _ => rfl, ?_⟩) | (refine (p2 _).det ?_) | (refine ⟨_, _, p2 _, fun _ => rfl, ?_⟩) | (refine (p3 _).det ?_) | (refine ⟨_, _, p3 _, fun _ => rfl, ?_⟩) | (refine (p4 _).det ?_) | (refine ⟨_, _, p4 _, fun _ => rfl, ?_⟩)); try simp [-List.reduceReplicate, Nat.add_one_le_iff, -getElem?_pos, -getElem?_neg, iC, bC, kl, kg, kt, k0, k1, k2, k3, k4, k5, hl, ht, h0, ha, he, c1, c2, kv, ka, ha2, ka2])
         | (with_reducible refine awp_if_b rfl (fun hc => ?_) (fun hc => ?_) <;> (try simp [-getElem?_pos, -getElem?_neg] at hc) <;> (try (exfalso; omega)))
         | ((with_reducible first | refine GuardK_b (fun hc => ?_) (fun hc => ?_) | refine DGuard_b _ _ _ _ _ _ _ _ _ _ (fun hc => ?_) (fun hc => ?_)) <;> (try simp only [Bool.not_eq_true', Bool.not_eq_false', decide_eq_true_eq, decide_eq_false_iff_not] at hc) <;> (first | (exfalso; omega) | skip) <;> simp [-List.reduceReplicate, Nat.add_one_le_iff, -getElem?_pos, -getElem?_neg, iC, bC, kl, kg, kt, k0, k1, k2, k3, k4, k5, hl, ht, h0, ha, he, c1, c2, kv, ka, ha2, ka2, hc])
         | (with_reducible refine And.intro (by omega) ?_)
         | fail)
        all_goals simp_all
      | true =>
        simp [c1, c2] at han
        cases my with
        | false =>
          repeat' (first 
           | (with_reducible first | refine awp_scope ?_ | refine awp_seq ?_ | refine awp_block ?_)
           | ((with_reducible first | refine awp_label ?_ | refine awp_skip ?_ | refine awp_exit ?_); try simp only [thenA, inBlockA, noGotoA, if_true, Nat.reduceEqDiff, if_false, ↓reduceIte])
           | ((with_reducible first | refine awp_reg 50 hX [1, 2, 3, 6, 20, 31] ?_ | refine awp_drw 50 hX [1, 2, 3, 6, 20, 31] Tab.mixed (by kernel_rfl) ?_ | refine DEv_cut _ _ _ _ _ _ _ _ _ _ _ _ (by kernel_rfl) ?_ | change postOf _ _ _ _ _); simp [-List.reduceReplicate, Nat.add_one_le_iff, -getElem?_pos, -getElem?_neg, iC, bC, kl, kg, kt, k0, k1, k2, k3, k4, k5, hl, ht, h0, ha, he, c1, c2, kv, ka, ha2, ka2])
           | ((first | (with_reducible refine awp_ret ?_; try simp only [thenA, inBlockA, noGotoA]) | (refine (p1 _).det ?_) | (refine ⟨_, _, p1 _, fun _ => rfl, ?_⟩) | (refine (p2 _).det ?_) | (refine ⟨_, _, p2 _, fun _ => rfl, ?_⟩) | (refine (p3 _).det ?_) | (refine ⟨_, _, p3 _, fun _ => rfl, ?_⟩) | (refine (p4 _).det ?_) | (refine ⟨_, _, p4 _, fun _ => rfl, ?_⟩)); try simp [-List.reduceReplicate, Nat.add_one_le_iff, -getElem?_pos, -getElem?_neg, iC, bC, kl, kg, kt, k0, k1, k2, k3, k4, k5, hl, ht, h0, ha, he, c1, c2, kv, ka, ha2, ka2])
           | (with_reducible refine awp_if_b rfl (fun hc => ?_) (fun hc => ?_) <;> (try simp [-getElem?_pos, -getElem?_neg] at hc) <;> (try (exfalso; omega)))
           | ((with_reducible first | refine GuardK_b (fun hc => ?_) (fun hc => ?_) | refine DGuard_b _ _ _ _ _ _ _ _ _ _ (fun hc => ?_) (fun hc => ?_)) <;> (try simp only [Bool.not_eq_true', Bool.not_eq_false', decide_eq_true_eq, decide_eq_false_iff_not] at hc) <;> (first | (exfalso; omega) | skip) <;> simp [-List.reduceReplicate, Nat.add_one_le_iff, -getElem?_pos, -getElem?_neg, iC, bC, kl, kg, kt, k0, k1, k2, k3, k4, k5, hl, ht, h0, ha, he, c1, c2, kv, ka, ha2, ka2, hc])
           | (with_reducible refine And.intro (by omega) ?_)
           | fail)
          all_goals simp_all
        | true =>
          repeat' (first 
           | (with_reducible first | refine awp_scope ?_ | refine awp_seq ?_ | refine awp_block ?_)
           | ((with_reducible first | refine awp_label ?_ | refine awp_skip ?_ | refine awp_exit ?_); try simp only [thenA, inBlockA, noGotoA, if_true, Nat.reduceEqDiff, if_false, ↓reduceIte])
           | ((with_reducible first | refine awp_reg 50 hX [1, 2, 3, 6, 20, 31] ?_ | refine awp_drw 50 hX [1, 2, 3, 6, 20, 31] Tab.mixed (by kernel_rfl) ?_ | refine DEv_cut _ _ _ _ _ _ _ _ _ _ _ _ (by kernel_rfl) ?_ | change postOf _ _ _ _ _); simp [-List.reduceReplicate, Nat.add_one_le_iff, -getElem?_pos, -getElem?_neg, iC, bC, kl, kg, kt, k0, k1, k2, k3, k4, k5, hl, ht, h0, ha, he, c1, c2, kv, ka, ha2, ka2])
           | ((first | (with_reducible refine awp_ret ?_; try simp only [thenA, inBlockA, noGotoA]) | (refine (p1 _).det ?_) | (refine ⟨_, _, p1 _, fun _ => rfl, ?_⟩) | (refine (p2 _).det ?_) | (refine ⟨_, _, p2 _, fun _ => rfl, ?_⟩) | (refine (p3 _).det ?_) | (refine ⟨_, _, p3 _, fun _ => rfl, ?_⟩) | (refine (p4 _).det ?_) | (refine ⟨_, _, p4 _, fun _ => rfl, ?_⟩)); try simp [-List.reduceReplicate, Nat.add_one_le_iff, -getElem?_pos, -getElem?_neg, iC, bC, kl, kg, kt, k0, k1, k2, k3, k4, k5, hl, ht, h0, ha, he, c1, c2, kv, ka, ha2, ka2])
           | (with_reducible refine awp_if_b rfl (fun hc => ?_) (fun hc => ?_) <;> (try simp [-getElem?_pos, -getElem?_neg] at hc) <;> (try (exfalso; omega)))
           | ((with_reducible first | refine GuardK_b (fun hc => ?_) (fun hc => ?_) | refine DGuard_b _ _ _ _ _ _ _ _ _ _ (fun hc => ?_) (fun hc => ?_)) <;> (try simp only [Bool.not_eq_true', Bool.not_eq_false', decide_eq_true_eq, decide_eq_false_iff_not] at hc) <;> (first | (exfalso; omega) | skip) <;> simp [-List.reduceReplicate, Nat.add_one_le_iff, -getElem?_pos, -getElem?_neg, iC, bC, kl, kg, kt, k0, k1, k2, k3, k4, k5, hl, ht, h0, ha, he, c1, c2, kv, ka, ha2, ka2, hc])
           | (with_reducible refine And.intro (by omega) ?_)
           | fail)
          all_goals simp_all
    · simp [c1, c2] at han
      repeat' (first 
       | (with_reducible first | refine awp_scope ?_ | refine awp_seq ?_ | refine awp_block ?_)
       | ((with_reducible first | refine awp_label ?_ | refine awp_skip ?_ | refine awp_exit ?_); try simp only [thenA, inBlockA, noGotoA, if_true, Nat.reduceEqDiff, if_false, ↓reduceIte])
       | ((with_reducible first | refine awp_reg 50 hX [1, 2, 3, 6, 20, 31] ?_ | refine awp_drw 50 hX [1, 2, 3, 6, 20, 31] Tab.mixed (by kernel_rfl) ?_ | refine DEv_cut _ _ _ _ _ _ _ _ _ _ _ _ (by kernel_rfl) ?_ | change postOf _ _ _ _ _); simp [-List.reduceReplicate, Nat.add_one_le_iff, -getElem?_pos, -getElem?_neg, iC, bC, kl, kg, kt, k0, k1, k2, k3, k4, k5, hl, ht, h0, ha, he, c1, c2, kv, ka, ha2, ka2])
       | ((first | (with_reducible refine awp_ret ?_; try simp only [thenA, inBlockA, noGotoA]) | (refine (p1 _).det ?_) | (refine ⟨_, _, p1 _, fun _ => rfl, ?_⟩) | (refine (p2 _).det ?_) | (refine ⟨_, _, p2 _, fun _ => rfl, ?_⟩) | (refine (p3 _).det ?_) | (refine ⟨_, _, p3 _, fun _ => rfl, ?_⟩) | (refine (p4 _).det ?_) | (refine ⟨_, _, p4 _, fun _ => rfl, ?_⟩)); try simp [-List.reduceReplicate, Nat.add_one_le_iff, -getElem?_pos, -getElem?_neg, iC, bC, kl, kg, kt, k0, k1, k2, k3, k4, k5, hl, ht, h0, ha, he, c1, c2, kv, ka, ha2, ka2])
       | (with_reducible refine awp_if_b rfl (fun hc => ?_) (fun hc => ?_) <;> (try simp [-getElem?_pos, -getElem?_neg] at hc) <;> (try (exfalso; omega)))
       | ((with_reducible first | refine GuardK_b (fun hc => ?_) (fun hc => ?_) | refine DGuard_b _ _ _ _ _ _ _ _ _ _ (fun hc => ?_) (fun hc => ?_)) <;> (try simp only [Bool.not_eq_true', Bool.not_eq_false', decide_eq_true_eq, decide_eq_false_iff_not] at hc) <;> (first | (exfalso; omega) | skip) <;> simp [-List.reduceReplicate, Nat.add_one_le_iff, -getElem?_pos, -getElem?_neg, iC, bC, kl, kg, kt, k0, k1, k2, k3, k4, k5, hl, ht, h0, ha, he, c1, c2, kv, ka, ha2, ka2, hc])
       | (with_reducible refine And.intro (by omega) ?_)
       | fail)
      all_goals simp_all
  · simp [c1] at han
    repeat' (first 
     | (with_reducible first | refine awp_scope ?_ | refine awp_seq ?_ | refine awp_block ?_)
     | ((with_reducible first | refine awp_label ?_ | refine awp_skip ?_ | refine awp_exit ?_); try simp only [thenA, inBlockA, noGotoA, if_true, Nat.reduceEqDiff, if_false, ↓reduceIte])
     | ((with_reducible first | refine awp_reg 50 hX [1, 2, 3, 6, 20, 31] ?_ | refine awp_drw 50 hX [1, 2, 3, 6, 20, 31] Tab.mixed (by kernel_rfl) ?_ | refine DEv_cut _ _ _ _ _ _ _ _ _ _ _ _ (by kernel_rfl) ?_ | change postOf _ _ _ _ _); simp [-List.reduceReplicate, Nat.add_one_le_iff, -getElem?_pos, -getElem?_neg, iC, bC, kl, kg, kt, k0, k1, k2, k3, k4, k5, hl, ht, h0, ha, he, c1, kv, ka, ha2, ka2])
     | ((first | (with_reducible refine awp_ret ?_; try simp only [thenA, inBlockA, noGotoA]) | (refine (p1 _).det ?_) | (refine ⟨_, _, p1 _, fun _ => rfl, ?_⟩) | (refine (p2 _).det ?_) | (refine ⟨_, _, p2 _, fun _ => rfl, ?_⟩) | (refine (p3 _).det ?_) | (refine ⟨_, _, p3 _, fun _ => rfl, ?_⟩) | (refine (p4 _).det ?_) | (refine ⟨_, _, p4 _, fun _ => rfl, ?_⟩)); try simp [-List.reduceReplicate, Nat.add_one_le_iff, -getElem?_pos, -getElem?_neg, iC, bC, kl, kg, kt, k0, k1, k2, k3, k4, k5, hl, ht, h0, ha, he, c1, kv, ka, ha2, ka2])
     | (with_reducible refine awp_if_b rfl (fun hc => ?_) (fun hc => ?_) <;> (try simp [-getElem?_pos, -getElem?_neg] at hc) <;> (try (exfalso; omega)))
     | ((with_reducible first | refine GuardK_b (fun hc => ?_) (fun hc => ?_) | refine DGuard_b _ _ _ _ _ _ _ _ _ _ (fun hc => ?_) (fun hc => ?_)) <;> (try simp only [Bool.not_eq_true', Bool.not_eq_false', decide_eq_true_eq, decide_eq_false_iff_not] at hc) <;> (first | (exfalso; omega) | skip) <;> simp [-List.reduceReplicate, Nat.add_one_le_iff, -getElem?_pos, -getElem?_neg, iC, bC, kl, kg, kt, k0, k1, k2, k3, k4, k5, hl, ht, h0, ha, he, c1, kv, ka, ha2, ka2, hc])
     | (with_reducible refine And.intro (by omega) ?_)
     | fail)
    all_goals simp_all
end Go.Av

set_option exponentiation.threshold 1000
set_option linter.unusedVariables false
set_option linter.unusedSimpArgs false
set_option maxRecDepth 100000
set_option maxHeartbeats 4000000
namespace Go.Av
open Go Go.Proofs Go.Proofs.Ytpcnacknlgmmlaa Go.RowKit
attribute [local simp] List.getElem?_cons_zero List.getElem?_cons_succ
attribute [local simp] Try.underlying9 Try.underlying3 Try.underlying4 Try.underlying27 Try.underlying45 Try.underlying47 Try.underlying49 Try.underlying64 Try.underlying67
def cfO (K : List C) : Ob := ⟨49, 1, false, 0, up K, none⟩
def numsL (i : Nat) : List M := [.mp i 0 98, .mp i 0 99, .mp i 0 100, .mp i 0 101, .mp i 0 102, .mp i 0 103]
theorem numsL_get (i k : Nat) (h : k < 6) : (numsL i)[k]? = some (.mp i 0 (98 + k)) := by
  match k, h with
  | 0, _ | 1, _ | 2, _ | 3, _ | 4, _ | 5, _ => rfl
def numsO (i : Nat) : Ob := ⟨67, 1, false, 0, numsL i, none⟩
theorem nums_den (i : Nat) (K : List C) (hK : K.length = 104) (ob : List Ob) (h : ob[i]? = some (cfO K)) : Den Try.prog 27 [.mp i 0 0] ob (fun r ob' => r = .ms ob.length 0 0 6 ∧ ob' = ob ++ [numsO i]) := by
  simp only [cfO] at h
  refine den_of Try.func27 rfl rfl (by simp [Try.ntmps27]) (fun X hX hO => ?_)
  rw [Try.ntmps27] at hX
  simp only [Try.results27]
  repeat' (first 
   | (with_reducible first | refine awp_scope ?_ | refine awp_seq ?_ | refine awp_block ?_)
   | ((with_reducible first | refine awp_label ?_ | refine awp_skip ?_ | refine awp_exit ?_); try simp only [thenA, inBlockA, noGotoA, if_true, Nat.reduceEqDiff, if_false, ↓reduceIte])
   | ((with_reducible first | refine awp_reg 22 hX [0, 2] ?_ | refine DEv_cut _ _ _ _ _ _ _ _ _ _ _ _ (by kernel_rfl) ?_ | change postOf _ _ _ _ _); simp [-List.reduceReplicate, Nat.add_one_le_iff, -getElem?_pos, -getElem?_neg, h, hK])
   | ((first | (with_reducible refine awp_ret ?_; try simp only [thenA, inBlockA, noGotoA])); try simp [-List.reduceReplicate, Nat.add_one_le_iff, -getElem?_pos, -getElem?_neg, h, hK])
   | (with_reducible refine awp_if_b rfl (fun hc => ?_) (fun hc => ?_) <;> (try simp [-getElem?_pos, -getElem?_neg] at hc) <;> (try (exfalso; omega)))
   | (with_reducible refine And.intro (by omega) ?_)
   | fail)
  refine awp_drwc (id := 1) 22 hX [0, 2] [18] Tab.mixed (by kernel_rfl) ?_
  simp [-List.reduceReplicate, -getElem?_pos, -getElem?_neg, List.getElem?_cons_zero, List.getElem?_cons_succ, h, hK]
  have hd : downs (((((((up (List.replicate 6 (C.v (Value.pointer none)))).set 0 (M.mp i 0 98)).set 1 (M.mp i 0 99)).set 2 (M.mp i 0 100)).set 3 (M.mp i 0 101)).set 4 (M.mp i 0 102)).set 5 (M.mp i 0 103)) = none := rfl
  rw [hd]
  simp only [rowM, newOb]
  refine DEv_cut _ _ _ _ _ _ _ _ _ _ _ _ (by kernel_rfl) ?_
  simp
  repeat' (first 
   | (with_reducible first | refine awp_scope ?_ | refine awp_seq ?_ | refine awp_block ?_)
   | ((with_reducible first | refine awp_label ?_ | refine awp_skip ?_ | refine awp_exit ?_); try simp only [thenA, inBlockA, noGotoA, if_true, Nat.reduceEqDiff, if_false, ↓reduceIte])
   | ((with_reducible first | refine awp_reg 22 hX [0, 2] ?_ | refine DEv_cut _ _ _ _ _ _ _ _ _ _ _ _ (by kernel_rfl) ?_ | change postOf _ _ _ _ _); simp [-List.reduceReplicate, Nat.add_one_le_iff, -getElem?_pos, -getElem?_neg, numsO, numsL])
   | ((first | (with_reducible refine awp_ret ?_; try simp only [thenA, inBlockA, noGotoA])); try simp [-List.reduceReplicate, Nat.add_one_le_iff, -getElem?_pos, -getElem?_neg, numsO, numsL])
   | (with_reducible refine awp_if_b rfl (fun hc => ?_) (fun hc => ?_) <;> (try simp [-getElem?_pos, -getElem?_neg] at hc) <;> (try (exfalso; omega)))
   | (with_reducible refine And.intro (by omega) ?_)
   | fail)
  all_goals rfl
end Go.Av

set_option exponentiation.threshold 1000
set_option linter.unusedVariables false
set_option linter.unusedSimpArgs false
set_option maxRecDepth 100000
set_option maxHeartbeats 4000000
namespace Go.Av
open Go Go.Proofs Go.Proofs.Ytpcnacknlgmmlaa Go.RowKit
attribute [local simp] List.getElem?_cons_zero List.getElem?_cons_succ
attribute [local simp] Try.underlying9 Try.underlying3 Try.underlying4 Try.underlying27 Try.underlying45 Try.underlying47 Try.underlying49 Try.underlying64 Try.underlying67
def cfK (g : HD) (t : H32) (l : List Int) : List C := hdC g ++ (t.1.map bC8 ++ l.map iC)
theorem cfK_len (g : HD) (t : H32) (l : List Int) (hl : l.length = 6) : (cfK g t l).length = 104 := by simp [cfK, hdC_len, t.2, hl]
theorem cfK_set (g : HD) (t : H32) (l : List Int) (k : Nat) (x : Int) : (cfK g t l).set (98 + k) (iC x) = cfK g t (l.set k x) := by
  unfold cfK
  rw [List.set_append_right _ _ (by rw [hdC_len]; omega), hdC_len, List.set_append_right _ _ (by simp [t.2]; omega)]
  simp only [List.length_map, t.2, List.map_set]
  congr 3
  omega
theorem cfK_lay0 (g g2 : HD) (t : H32) (l : List Int) : lay (up (cfK g t l)) 0 (up (hdC g2)) = up (cfK g2 t l) := by
  rw [lay_app _ _ _ (by simp [up, cfK, hdC_len])]
  simp only [up, cfK, List.take_zero, List.nil_append, List.length_map, hdC_len, Nat.zero_add, List.map_append]
  rw [List.drop_left' (by simp [hdC_len])]
theorem cfK_lay1 (g : HD) (t t2 : H32) (l : List Int) : lay (up (cfK g t l)) 66 (up (t2.1.map bC8)) = up (cfK g t2 l) := by
  rw [lay_app _ _ _ (by simp [up, cfK, hdC_len, t.2, t2.2]; omega)]
  simp only [up, cfK, List.length_map, List.map_append, t2.2]
  rw [List.take_left' (by simp [hdC_len]), ← List.drop_drop, List.drop_left' (by simp [hdC_len]), List.drop_left' (by simp [t.2])]
def numsTo (c : Cu) : Nat → List Int × Cu
  | 0 => ([], c)
  | k + 1 => ((numsTo c k).1 ++ [((numC (numsTo c k).2 65536).1 : Int)], (numC (numsTo c k).2 65536).2)
theorem numsTo_len (c : Cu) (k : Nat) : (numsTo c k).1.length = k := by
  induction k with
  | zero => rfl
  | succ k ih => simp [numsTo, ih]
theorem numC_le (c : Cu) (most : Nat) : (numC c most).1 ≤ most ∧ (numC c most).2.b.size ≤ c.b.size := by
  unfold numC
  split
  · simp
  · split
    · simp [e0]; exact Nat.zero_le _
    · split
      · simp [e0]; exact Nat.zero_le _
      · rename_i h1 h2 h3
        refine ⟨by simp only; omega, ?_⟩
        simp only [ByteArray.size_extract]
        omega
theorem rawC_le (c : Cu) (n : Int) : (rawC c n).2.b.size ≤ c.b.size := by
  unfold rawC
  split
  · unfold failC
    split
    · simp only [e0]; exact Nat.zero_le _
    · exact Nat.le_refl _
  · unfold cutC
    split
    · exact Nat.le_refl _
    · split
      · simp only [e0]; exact Nat.zero_le _
      · simp only [ByteArray.size_extract]; omega
theorem numsTo_le (c : Cu) (k : Nat) : (numsTo c k).2.b.size ≤ c.b.size := by
  induction k with
  | zero => exact Nat.le_refl _
  | succ k ih => exact Nat.le_trans (numC_le _ _).2 ih
def padN (c : Cu) (k : Nat) : List Int := (numsTo c k).1 ++ List.replicate (6 - k) 0
theorem padN_len (c : Cu) (k : Nat) (h : k ≤ 6) : (padN c k).length = 6 := by simp [padN, numsTo_len]; omega
theorem padN_set (c : Cu) (k : Nat) (h : k < 6) : (padN c k).set k ((numC (numsTo c k).2 65536).1 : Int) = padN c (k + 1) := by
  unfold padN
  rw [List.set_append_right _ _ (by rw [numsTo_len]; omega), numsTo_len, Nat.sub_self, show 6 - k = (6 - (k + 1)) + 1 by omega, List.replicate_succ, List.set_cons_zero]
  simp [numsTo]
def cfOf (g : HD) (t : H32) (l : List Int) : CF := ⟨g, t, l.getD 0 0, l.getD 1 0, l.getD 2 0, l.getD 3 0, l.getD 4 0, l.getD 5 0⟩
theorem cfOf_C (g : HD) (t : H32) (l : List Int) (h : l.length = 6) : cfC (cfOf g t l) = cfK g t l := by
  match l, h with
  | [a, b, c, d, e, f], _ => rfl
def zCF : CF := ⟨H0, Z32, 0, 0, 0, 0, 0, 0⟩
def decC (b : ByteArray) : CF × Int :=
  let h := headC ⟨b, 0⟩
  let t := hashC h.2
  let e := doneC (numsTo t.2 6).2
  let c := cfOf h.1 t.1 (padN t.2 6)
  if e ≠ 0 then (zCF, e) else if checkC c ≠ 0 then (zCF, checkC c) else (c, 0)
theorem getHD_ok (s : ByteArray) : HDok (getHD s) := ⟨takeN_lt s 0 4, takeN_u64 s 68 8 (by omega)⟩
theorem decode_den (b : ByteArray) (hb : b.size ≤ 9223372036854775807) : DenV Try.prog 18 [.c (sC b)] (.tup [cfM (decC b).1, .c (iC (decC b).2)]) := by
  refine Den.frame rfl (by simp [cfM, ltB, ltBs]) ?_
  have z0 : zeroT Try.prog 49 = some (up (cfK H0 Z32 [0, 0, 0, 0, 0, 0])) := by kernel_rfl
  have hdc : decC b = (let h := headC ⟨b, 0⟩; let t := hashC h.2; let e := doneC (numsTo t.2 6).2; let c := cfOf h.1 t.1 (padN t.2 6); if e ≠ 0 then (zCF, e) else if checkC c ≠ 0 then (zCF, checkC c) else (c, 0)) := rfl
  have p1 := read_den b [cfO (cfK H0 Z32 [0, 0, 0, 0, 0, 0])]
  have p2 := headGet_den 1 ⟨b, 0⟩ [cfO (cfK H0 Z32 [0, 0, 0, 0, 0, 0]), curO ⟨b, 0⟩] rfl (by simp [okCu, cfO, curO, up, ltB])
  have hok : HDok (headC ⟨b, 0⟩).1 := getHD_ok _
  have hs1 : (headC ⟨b, 0⟩).2.b.size ≤ b.size := rawC_le _ _
  generalize headC ⟨b, 0⟩ = h at *
  obtain ⟨g, c1⟩ := h
  have p3 := chash_den 1 c1 [cfO (cfK H0 Z32 [0, 0, 0, 0, 0, 0]), curO c1] rfl (by simp [okCu, cfO, curO, up, ltB])
  have hs2 : (hashC c1).2.b.size ≤ c1.b.size := rawC_le _ _
  simp only at *
  generalize hashC c1 = q at *
  obtain ⟨t, c2⟩ := q
  simp only at *
  simp only [List.set_cons_succ, List.set_cons_zero] at p2 p3
  have e1 := cfK_lay0 H0 g Z32 [0, 0, 0, 0, 0, 0]
  have e2 := cfK_lay1 g Z32 t [0, 0, 0, 0, 0, 0]
  have el0 := cfK_len H0 Z32 [0, 0, 0, 0, 0, 0] rfl
  have el1 := cfK_len g Z32 [0, 0, 0, 0, 0, 0] rfl
  have el2 := cfK_len g t [0, 0, 0, 0, 0, 0] rfl
  have gl := hdC_len g
  have tl : (t.1.map bC8).length = 32 := by simp [t.2]
  have p4 := nums_den 2 (cfK g t [0, 0, 0, 0, 0, 0]) el2 [cfO (cfK H0 Z32 [0, 0, 0, 0, 0, 0]), curO c2, cfO (cfK g t [0, 0, 0, 0, 0, 0])] rfl
  unfold hdM at p2
  unfold hashM at p3
  simp only [cfO, numsO, List.length_cons, List.length_nil, List.cons_append, List.nil_append] at p1 p2 p3 p4
  generalize hZ : cfK H0 Z32 [0, 0, 0, 0, 0, 0] = Z at *
  have hnl : (numsL 2).length = 6 := rfl
  have hng := numsL_get 2
  generalize numsL 2 = NL at *
  have hp0 : padN c2 0 = [0, 0, 0, 0, 0, 0] := rfl
  refine den_of Try.func18 rfl rfl (by simp [Try.ntmps18]) (fun X hX hO => ?_)
  rw [Try.ntmps18] at hX
  simp only [Try.results18]
  repeat' (first 
   | (with_reducible first | refine awp_scope ?_ | refine awp_seq ?_ | refine awp_block ?_)
   | ((with_reducible first | refine awp_label ?_ | refine awp_skip ?_ | refine awp_exit ?_ | refine hother _ _ rfl ?_); try simp only [thenA, inBlockA, noGotoA, if_true, Nat.reduceEqDiff, if_false, ↓reduceIte])
   | ((with_reducible first | refine awp_reg 42 hX [0, 2, 3, 4, 5, 7, 8, 9, 17, 18, 19, 20, 32, 38] ?_ | change postOf _ _ _ _ _); simp [-List.reduceReplicate, Nat.add_one_le_iff, -getElem?_pos, -getElem?_neg, sC, z0, -Tab.zero49, e1, e2, el0, el1, el2, gl, tl, hnl])
   | ((first | (with_reducible refine awp_ret ?_; try simp only [thenA, inBlockA, noGotoA]) | (refine (p1).det ?_) | (refine (p2).det ?_) | (refine (p3).det ?_) | (refine (p4).det ?_)); try simp [-List.reduceReplicate, Nat.add_one_le_iff, -getElem?_pos, -getElem?_neg, sC, z0, -Tab.zero49, e1, e2, el0, el1, el2, gl, tl, hnl])
   | (with_reducible refine awp_if_b rfl (fun hc => ?_) (fun hc => ?_) <;> (try simp [-getElem?_pos, -getElem?_neg] at hc) <;> (try (exfalso; omega)))
   | (with_reducible refine And.intro (by omega) ?_)
   | fail)
  refine awp_forU [2, 4, 5, 17, 18, 19] (fun k (_u : Unit) => [(19, .c (iC k))]) (fun k (_u : Unit) => [⟨49, 1, false, 0, up Z, none⟩, curO (numsTo c2 k).2, ⟨49, 1, false, 0, up (cfK g t (padN c2 k)), none⟩, ⟨67, 1, false, 0, NL, none⟩]) (fun k (_u : Unit) => True) (6) (()) (by first | trivial | (simp; done) | omega | (intros; simp at *; done)) (by simp [-List.reduceReplicate, keep, iC, hp0, numsTo]) (by simp [-List.reduceReplicate, iC, hp0, numsTo]) ?_
  rintro k _u Q1 hi hH next hother
  conv => arg 5; arg 1; simp only [List.cons_append, List.nil_append, keep, get, Nat.reduceEqDiff, if_true, if_false, ↓reduceIte]
  have hwk := wrap_in ((k : Int) + 1) (by omega)
  by_cases hlt : k < 6
  · have hpl := padN_len c2 k (by omega)
    have hps := padN_set c2 k hlt
    have hks := cfK_set g t (padN c2 k) k ((numC (numsTo c2 k).2 65536).1 : Int)
    have hkl := cfK_len g t (padN c2 k) hpl
    rw [hps] at hks
    have hnn : (numsTo c2 (k + 1)).2 = (numC (numsTo c2 k).2 65536).2 := rfl
    have hsz := numsTo_le c2 k
    have hq := Num_den 1 (numsTo c2 k).2 65536 (by omega) [⟨49, 1, false, 0, up Z, none⟩, curO (numsTo c2 k).2, ⟨49, 1, false, 0, up (cfK g t (padN c2 k)), none⟩, ⟨67, 1, false, 0, NL, none⟩] rfl
    simp only [List.set_cons_succ, List.set_cons_zero] at hq
    have hle := (numC_le (numsTo c2 k).2 65536).1
    have hg := hng k hlt
    rw [hnn.symm] at hq
    generalize (numC (numsTo c2 k).2 65536).1 = x at *
    have hwx := wrapI64 (x : Int) (by omega)
    have h3 : (k : Int) < 6 := by omega
    have h4 : 98 + k < 104 := by omega
    have h5 : (k : Int) ≤ 5 := by omega
    have h6 : k ≤ 5 := by omega
    unfold iC at hks
    generalize numsTo c2 (k + 1) = n2 at *
    generalize numsTo c2 k = n1 at *
    repeat' (first 
     | (with_reducible first | refine awp_scope ?_ | refine awp_seq ?_ | refine awp_block ?_)
     | ((with_reducible first | refine awp_label ?_ | refine awp_skip ?_ | refine awp_exit ?_ | refine hother _ _ rfl ?_); try simp only [thenA, inBlockA, noGotoA, if_true, Nat.reduceEqDiff, if_false, ↓reduceIte])
     | ((with_reducible first | refine awp_reg 42 hX [0, 2, 3, 4, 5, 7, 8, 9, 17, 18, 19, 20, 32, 38] ?_ | change postOf _ _ _ _ _); simp [-List.reduceReplicate, Nat.add_one_le_iff, -getElem?_pos, -getElem?_neg, iC, u64C, hlt, h3, h4, h5, h6, hwk, hwx, hnl, hg, hks, hkl])
     | ((first | (with_reducible refine awp_ret ?_; try simp only [thenA, inBlockA, noGotoA]) | (refine (hq).det ?_)); try simp [-List.reduceReplicate, Nat.add_one_le_iff, -getElem?_pos, -getElem?_neg, iC, u64C, hlt, h3, h4, h5, h6, hwk, hwx, hnl, hg, hks, hkl])
     | (with_reducible refine awp_if_b rfl (fun hc => ?_) (fun hc => ?_) <;> (try simp [-getElem?_pos, -getElem?_neg] at hc) <;> (try (exfalso; omega)))
     | (with_reducible refine And.intro (by omega) ?_)
     | fail)
    refine next _ _ (()) (by omega) (by first | trivial | omega | assumption) (by simp [-List.reduceReplicate, keep, iC]) (by simp [-List.reduceReplicate, iC])
  · obtain rfl : k = 6 := by omega
    have hexit := hother; clear next hother
    have hpl := padN_len c2 6 (by omega)
    have hkl := cfK_len g t (padN c2 6) hpl
    have hkc := cfOf_C g t (padN c2 6) hpl
    have q1 := Done_den 1 (numsTo c2 6).2 [⟨49, 1, false, 0, up Z, none⟩, curO (numsTo c2 6).2, ⟨49, 1, false, 0, up (cfK g t (padN c2 6)), none⟩, ⟨67, 1, false, 0, NL, none⟩] rfl
    have q2 := check_den (cfOf g t (padN c2 6)) hok
    have hzt : Z.take 104 = Z := List.take_of_length_le (by omega)
    have hkt : (cfK g t (padN c2 6)).take 104 = cfK g t (padN c2 6) := List.take_of_length_le (by omega)
    have hzc : cfC zCF = Z := by rw [← hZ]; rfl
    unfold cfM at q2 hexit
    rw [hkc] at q2
    rw [hdc] at hexit
    clear hdc
    generalize doneC (numsTo c2 6).2 = e at *
    generalize checkC (cfOf g t (padN c2 6)) = e2 at *
    generalize hcf : cfOf g t (padN c2 6) = cf at *
    generalize cfK g t (padN c2 6) = K at *
    generalize (numsTo c2 6).2 = n1 at *
    repeat' (first 
     | (with_reducible first | refine awp_scope ?_ | refine awp_seq ?_ | refine awp_block ?_)
     | ((with_reducible first | refine awp_label ?_ | refine awp_skip ?_ | refine awp_exit ?_ | refine hother _ _ rfl ?_); try simp only [thenA, inBlockA, noGotoA, if_true, Nat.reduceEqDiff, if_false, ↓reduceIte])
     | ((with_reducible first | refine awp_reg 42 hX [0, 2, 3, 4, 5, 7, 8, 9, 17, 18, 19, 20, 32, 38] ?_ | change postOf _ _ _ _ _); simp [-List.reduceReplicate, Nat.add_one_le_iff, -getElem?_pos, -getElem?_neg, iC])
     | ((first | (with_reducible refine awp_ret ?_; try simp only [thenA, inBlockA, noGotoA])); try simp [-List.reduceReplicate, Nat.add_one_le_iff, -getElem?_pos, -getElem?_neg, iC])
     | (with_reducible refine awp_if_b rfl (fun hc => ?_) (fun hc => ?_) <;> (try simp [-getElem?_pos, -getElem?_neg] at hc) <;> (try (exfalso; omega)))
     | (with_reducible refine And.intro (by omega) ?_)
     | fail)
    refine hexit _ _ rfl ?_
    simp only [inBlockA, thenA, ↓reduceIte]
    clear hexit
    by_cases h1 : e = 0
    · by_cases h2 : e2 = 0
      · repeat' (first 
         | (with_reducible first | refine awp_scope ?_ | refine awp_seq ?_ | refine awp_block ?_)
         | ((with_reducible first | refine awp_label ?_ | refine awp_skip ?_ | refine awp_exit ?_ | refine hother _ _ rfl ?_); try simp only [thenA, inBlockA, noGotoA, if_true, Nat.reduceEqDiff, if_false, ↓reduceIte])
         | ((with_reducible first | refine awp_reg 42 hX [0, 2, 3, 4, 5, 7, 8, 9, 17, 18, 19, 20, 32, 38] ?_ | change postOf _ _ _ _ _); simp [-List.reduceReplicate, Nat.add_one_le_iff, -getElem?_pos, -getElem?_neg, iC, h1, h2, z0, -Tab.zero49, hzt, hkt, hkl, el0])
         | ((first | (with_reducible refine awp_ret ?_; try simp only [thenA, inBlockA, noGotoA]) | (refine (q1).det ?_) | (refine (q2 _).det ?_)); try simp [-List.reduceReplicate, Nat.add_one_le_iff, -getElem?_pos, -getElem?_neg, iC, h1, h2, z0, -Tab.zero49, hzt, hkt, hkl, el0])
         | (with_reducible refine awp_if_b rfl (fun hc => ?_) (fun hc => ?_) <;> (try simp [-getElem?_pos, -getElem?_neg] at hc) <;> (try (exfalso; omega)))
         | (with_reducible refine And.intro (by omega) ?_)
         | fail)
        all_goals simp [h1, h2, hkc]
      · repeat' (first 
         | (with_reducible first | refine awp_scope ?_ | refine awp_seq ?_ | refine awp_block ?_)
         | ((with_reducible first | refine awp_label ?_ | refine awp_skip ?_ | refine awp_exit ?_ | refine hother _ _ rfl ?_); try simp only [thenA, inBlockA, noGotoA, if_true, Nat.reduceEqDiff, if_false, ↓reduceIte])
         | ((with_reducible first | refine awp_reg 42 hX [0, 2, 3, 4, 5, 7, 8, 9, 17, 18, 19, 20, 32, 38] ?_ | change postOf _ _ _ _ _); simp [-List.reduceReplicate, Nat.add_one_le_iff, -getElem?_pos, -getElem?_neg, iC, h1, h2, z0, -Tab.zero49, hzt, hkt, hkl, el0])
         | ((first | (with_reducible refine awp_ret ?_; try simp only [thenA, inBlockA, noGotoA]) | (refine (q1).det ?_) | (refine (q2 _).det ?_)); try simp [-List.reduceReplicate, Nat.add_one_le_iff, -getElem?_pos, -getElem?_neg, iC, h1, h2, z0, -Tab.zero49, hzt, hkt, hkl, el0])
         | (with_reducible refine awp_if_b rfl (fun hc => ?_) (fun hc => ?_) <;> (try simp [-getElem?_pos, -getElem?_neg] at hc) <;> (try (exfalso; omega)))
         | (with_reducible refine And.intro (by omega) ?_)
         | fail)
        all_goals simp [h1, h2, hzc]
    · repeat' (first 
       | (with_reducible first | refine awp_scope ?_ | refine awp_seq ?_ | refine awp_block ?_)
       | ((with_reducible first | refine awp_label ?_ | refine awp_skip ?_ | refine awp_exit ?_ | refine hother _ _ rfl ?_); try simp only [thenA, inBlockA, noGotoA, if_true, Nat.reduceEqDiff, if_false, ↓reduceIte])
       | ((with_reducible first | refine awp_reg 42 hX [0, 2, 3, 4, 5, 7, 8, 9, 17, 18, 19, 20, 32, 38] ?_ | change postOf _ _ _ _ _); simp [-List.reduceReplicate, Nat.add_one_le_iff, -getElem?_pos, -getElem?_neg, iC, h1, z0, -Tab.zero49, hzt, hkt, hkl, el0])
       | ((first | (with_reducible refine awp_ret ?_; try simp only [thenA, inBlockA, noGotoA]) | (refine (q1).det ?_) | (refine (q2 _).det ?_)); try simp [-List.reduceReplicate, Nat.add_one_le_iff, -getElem?_pos, -getElem?_neg, iC, h1, z0, -Tab.zero49, hzt, hkt, hkl, el0])
       | (with_reducible refine awp_if_b rfl (fun hc => ?_) (fun hc => ?_) <;> (try simp [-getElem?_pos, -getElem?_neg] at hc) <;> (try (exfalso; omega)))
       | (with_reducible refine And.intro (by omega) ?_)
       | fail)
      all_goals simp [h1, hzc]
end Go.Av

set_option exponentiation.threshold 1000
set_option linter.unusedVariables false
set_option linter.unusedSimpArgs false
set_option maxRecDepth 100000
set_option maxHeartbeats 4000000
namespace Go.Av
open Go Go.Proofs Go.Proofs.Ytpcnacknlgmmlaa Go.RowKit
attribute [local simp] List.getElem?_cons_zero List.getElem?_cons_succ
attribute [local simp] Try.underlying9 Try.underlying3 Try.underlying4 Try.underlying27 Try.underlying45 Try.underlying47 Try.underlying49 Try.underlying37
end Go.Av

set_option exponentiation.threshold 1000
set_option linter.unusedVariables false
set_option linter.unusedSimpArgs false
set_option maxRecDepth 100000
set_option maxHeartbeats 4000000
namespace Go.Av
open Go Go.Proofs Go.Proofs.Ytpcnacknlgmmlaa Go.RowKit
attribute [local simp] List.getElem?_cons_zero List.getElem?_cons_succ
theorem eqM_app : ∀ {ks : List Nat} {xs ys : List M} {u v : Bool} {ks' : List Nat} {xs' ys' : List M}, eqM ks xs ys = some u → eqM ks' xs' ys' = some v → eqM (ks ++ ks') (xs ++ xs') (ys ++ ys') = some (u && v)
  | [], [], [], u, v, ks', xs', ys', h, h' => by
    obtain rfl : true = u := by simpa [eqM] using h
    simpa using h'
  | [], [], _ :: _, u, v, ks', xs', ys', h, h' => by simp [eqM] at h
  | [], _ :: _, _, u, v, ks', xs', ys', h, h' => by simp [eqM] at h
  | k :: ks, [], _, u, v, ks', xs', ys', h, h' => by simp [eqM] at h
  | k :: ks, _ :: _, [], u, v, ks', xs', ys', h, h' => by simp [eqM] at h
  | k :: ks, x :: xs, y :: ys, u, v, ks', xs', ys', h, h' => by
    simp only [eqM] at h
    split at h
    · rename_i a b h1 h2
      obtain rfl := Option.some.inj h
      simp only [List.cons_append, eqM, h1, eqM_app h2 h', Bool.and_assoc]
    · simp at h
theorem HD.ext' (a b : HD) : a = b ↔ a.v = b.v ∧ a.a.1 = b.a.1 ∧ a.b.1 = b.b.1 ∧ a.n = b.n := by
  obtain ⟨v, ⟨x, hx⟩, ⟨y, hy⟩, n⟩ := a
  obtain ⟨v', ⟨x', hx'⟩, ⟨y', hy'⟩, n'⟩ := b
  simp
instance : DecidableEq HD := fun a b => decidable_of_iff _ (HD.ext' a b).symm
theorem eq_header (a b : HD) : eqM (List.replicate 66 0) (up (hdC a)) (up (hdC b)) = some (decide (a = b)) := by
  have h1 : eqM [0] [M.c (u32v a.v)] [M.c (u32v b.v)] = some (decide (a.v = b.v)) := by
    simp [eqM, eqLeaf, u32v]; omega
  have h2 := eq_hash a.a.1 b.a.1 a.a.2 b.a.2
  have h3 := eq_hash a.b.1 b.b.1 a.b.2 b.b.2
  have h4 : eqM [0] [M.c (u64C a.n)] [M.c (u64C b.n)] = some (decide (a.n = b.n)) := by
    simp [eqM, eqLeaf, u64C]; omega
  have h := eqM_app h1 (eqM_app h2 (eqM_app h3 h4))
  have e : ∀ x : HD, up (hdC x) = [M.c (u32v x.v)] ++ (up (x.a.1.map bC8) ++ (up (x.b.1.map bC8) ++ [M.c (u64C x.n)])) := fun x => by simp [up, hdC]
  rw [e a, e b, show List.replicate 66 0 = [0] ++ (List.replicate 32 0 ++ (List.replicate 32 0 ++ [0])) by rfl, h]
  congr 1
  have := HD.ext' a b
  by_cases q : a = b
  · subst q; simp
  · rw [decide_eq_false q]
    rw [this] at q
    simp only [not_and] at q
    by_cases q1 : a.v = b.v <;> by_cases q2 : a.a.1 = b.a.1 <;> by_cases q3 : a.b.1 = b.b.1 <;> by_cases q4 : a.n = b.n <;> simp_all
end Go.Av

set_option exponentiation.threshold 1000
set_option linter.unusedVariables false
set_option linter.unusedSimpArgs false
set_option maxRecDepth 100000
set_option maxHeartbeats 4000000
namespace Go.Av
open Go Go.Proofs Go.Proofs.Ytpcnacknlgmmlaa Go.RowKit
attribute [local simp] List.getElem?_cons_zero List.getElem?_cons_succ
attribute [local simp] Try.underlying9 Try.underlying3 Try.underlying4 Try.underlying27 Try.underlying49
theorem eq_cf_refl (c : CF) : eqM (List.replicate 104 0) (up (cfC c)) (up (cfC c)) = some true := by
  have h1 := eq_header c.g c.g
  have h2 := eq_hash c.t.1 c.t.1 c.t.2 c.t.2
  have h3 := eqM_ints (k := .i64) 6 [c.m, c.k, c.a, c.b, c.mb, c.mp] [c.m, c.k, c.a, c.b, c.mb, c.mp] rfl rfl
  have h := eqM_app h1 (eqM_app h2 h3)
  simp only [decide_true, Bool.and_self] at h
  rw [show (104 : Nat) = 66 + (32 + 6) from rfl, ← List.replicate_append_replicate, ← List.replicate_append_replicate, ← h]
  congr 1 <;> simp [cfC, up, iC]
theorem check_zero : checkC zCF = 7 := by
  have h : zCF.g.a.1 ≠ rootNil := by
    show List.replicate 32 0 ≠ shaL (bsS (rootT 0 z32))
    decide +kernel
  have : anchC zCF = true := by unfold anchC; simp [h]
  simp [checkC, this]
theorem dec_empty : decC e0 = (zCF, 1) := rfl
theorem awake52_den : DenV Try.prog 20 [] (.c (bC true)) := by
  refine Den.frame rfl rfl ?_
  have z0 : zeroT Try.prog 49 = some (up (cfC zCF)) := by kernel_rfl
  have p1 := decode_den e0 (by simp only [e0]; exact Nat.zero_le _)
  rw [dec_empty] at p1
  have p2 := check_den zCF ⟨by decide, by decide⟩
  rw [check_zero] at p2
  have hl := cfC_len zCF
  unfold cfM at p1 p2
  generalize cfC zCF = Z at *
  refine den_of Try.func20 rfl rfl (by simp [Try.ntmps20]) (fun X hX hO => ?_)
  rw [Try.ntmps20] at hX
  simp only [Try.results20]
  repeat' (first 
   | (with_reducible first | refine awp_scope ?_ | refine awp_seq ?_ | refine awp_block ?_)
   | ((with_reducible first | refine awp_label ?_ | refine awp_skip ?_ | refine awp_exit ?_); try simp only [thenA, inBlockA, noGotoA, if_true, Nat.reduceEqDiff, if_false, ↓reduceIte])
   | ((with_reducible first | refine awp_reg 14 hX [0, 2] ?_ | change postOf _ _ _ _ _); simp [-List.reduceReplicate, Nat.add_one_le_iff, -getElem?_pos, -getElem?_neg, iC, bC, sC, z0, -Tab.zero49, hl, mk_e0, mk_e1])
   | ((first | (with_reducible refine awp_ret ?_; try simp only [thenA, inBlockA, noGotoA]) | (refine (p1 _).det ?_) | (refine (p2 _).det ?_)); try simp [-List.reduceReplicate, Nat.add_one_le_iff, -getElem?_pos, -getElem?_neg, iC, bC, sC, z0, -Tab.zero49, hl, mk_e0, mk_e1])
   | (with_reducible refine awp_if_b rfl (fun hc => ?_) (fun hc => ?_) <;> (try simp [-getElem?_pos, -getElem?_neg] at hc) <;> (try (exfalso; omega)))
   | ((with_reducible first | refine GuardK_b (fun hc => ?_) (fun hc => ?_)) <;> (try simp only [Bool.not_eq_true', Bool.not_eq_false', decide_eq_true_eq, decide_eq_false_iff_not] at hc) <;> (first | (exfalso; omega) | skip) <;> simp [-List.reduceReplicate, Nat.add_one_le_iff, -getElem?_pos, -getElem?_neg, iC, bC, sC, z0, -Tab.zero49, hl, mk_e0, mk_e1, hc])
   | (with_reducible refine And.intro (by omega) ?_)
   | fail)
end Go.Av

set_option linter.unusedVariables false
set_option linter.unusedSimpArgs false
namespace Go.Av
open Go Go.Proofs Go.Proofs.Ytpcnacknlgmmlaa
attribute [local simp] List.getElem?_cons_zero List.getElem?_cons_succ
attribute [local simp] Try.underlying83 Try.underlying86 Try.underlying84 Try.underlying5 Try.underlying136 Try.underlying3 Try.underlying9 Try.underlying4
def u8C (n : Int) : C := .v (.int .u8 n)
def sC' (s : ByteArray) : C := .v (.string s)
theorem noEscape_den (m : M) (ob : List Ob) : Den Try.prog 88 [m] ob (fun r ob' => r = m ∧ ob' = ob) := den_same Try.func88 (by kernel_rfl) (by kernel_rfl) (by kernel_rfl) (by kernel_rfl)
def bldO (g : Nat) (a : M) (i j n : Nat) : Ob := ⟨86, 2, false, g, [a, .ms i j 0 n], none⟩
def strI (xs : List Int) : ByteArray := ⟨(xs.map fun n => UInt8.ofNat n.toNat).toArray⟩
end Go.Av

set_option exponentiation.threshold 1000
set_option linter.unusedVariables false
set_option linter.unusedSimpArgs false
set_option maxRecDepth 100000
set_option maxHeartbeats 4000000
namespace Go.Av
open Go Go.Proofs Go.Proofs.Ytpcnacknlgmmlaa Go.RowKit
attribute [local simp] List.getElem?_cons_zero List.getElem?_cons_succ
attribute [local simp] Try.underlying83 Try.underlying86 Try.underlying84 Try.underlying5 Try.underlying136 Try.underlying3 Try.underlying9 Try.underlying4 Try.underlying22 Try.underlying88 Try.underlying59 Try.underlying45 Try.underlying95
structure Bf where
  w : Bool
  g : Nat
  nl : Bool
  b : ByteArray
def addrM (i : Nat) (w : Bool) : M := if w then .mp i 0 0 else .c (.v (.pointer none))
def bufO (i : Nat) (s : Bf) : Ob := ⟨88, 2, false, 0, [addrM i s.w, .ms (i + 1) s.g 0 s.b.size], none⟩
def bytsC (b : ByteArray) : List C := b.data.toList.map bC8
def bytO (s : Bf) : Ob := ⟨5, 1, s.nl, s.g, up (bytsC s.b), none⟩
theorem bytsC_len (b : ByteArray) : (bytsC b).length = b.size := by unfold bytsC; rw [List.length_map, Array.length_toList]; rfl
theorem bytsC_app (a b : ByteArray) : bytsC (a ++ b) = bytsC a ++ bytsC b := by simp [bytsC]
theorem copyCheckB_den (i g : Nat) (w nl : Bool) (n : Nat) (ob : List Ob) (h : ob[i]? = some ⟨88, 2, nl, 0, [addrM i w, .ms (i + 1) g 0 n], none⟩) (hnl : nl = false) : Den Try.prog 72 [.mp i 0 0] ob (fun r ob' => r = .tup [] ∧ ob' = ob.set i ⟨88, 2, false, 0, [.mp i 0 0, .ms (i + 1) g 0 n], none⟩) := by
  subst hnl
  have hs := set_same ob i _ h
  refine den_of Try.func72 rfl rfl (by simp [Try.ntmps72]) (fun X hX hO => ?_)
  rw [Try.ntmps72] at hX
  simp only [Try.results72]
  cases w with
  | false =>
    simp only [addrM, Bool.false_eq_true, if_false] at h hs
    have hht : headOf Try.prog 88 86 = true := by kernel_rfl
    repeat' (first 
     | (with_reducible first | refine awp_scope ?_ | refine awp_seq ?_ | refine awp_block ?_)
     | ((with_reducible first | refine awp_label ?_ | refine awp_skip ?_ | refine awp_exit ?_); try simp only [thenA, inBlockA, noGotoA, if_true, Nat.reduceEqDiff, if_false, ↓reduceIte])
     | ((with_reducible first | refine awp_reg 20 hX [0, 6, 19] ?_ | change postOf _ _ _ _ _); simp [-List.reduceReplicate, Nat.add_one_le_iff, -getElem?_pos, -getElem?_neg, h, hht])
     | ((first | (with_reducible refine awp_ret ?_; try simp only [thenA, inBlockA, noGotoA]) | ((with_reducible refine Den.at_ (f := 88) ?_); refine (noEscape_den _ _).det ?_)); try simp [-List.reduceReplicate, Nat.add_one_le_iff, -getElem?_pos, -getElem?_neg, h, hht])
     | (with_reducible refine awp_if_b rfl (fun hc => ?_) (fun hc => ?_) <;> (try simp [-getElem?_pos, -getElem?_neg] at hc) <;> (try (exfalso; omega)))
     | (with_reducible refine And.intro (by omega) ?_)
     | fail)
  | true =>
    simp only [addrM, if_true] at h hs
    repeat' (first 
     | (with_reducible first | refine awp_scope ?_ | refine awp_seq ?_ | refine awp_block ?_)
     | ((with_reducible first | refine awp_label ?_ | refine awp_skip ?_ | refine awp_exit ?_); try simp only [thenA, inBlockA, noGotoA, if_true, Nat.reduceEqDiff, if_false, ↓reduceIte])
     | ((with_reducible first | refine awp_reg 20 hX [0, 6, 19] ?_ | change postOf _ _ _ _ _); simp [-List.reduceReplicate, Nat.add_one_le_iff, -getElem?_pos, -getElem?_neg, h, hs])
     | ((first | (with_reducible refine awp_ret ?_; try simp only [thenA, inBlockA, noGotoA]) | ((with_reducible refine Den.at_ (f := 88) ?_); refine (noEscape_den _ _).det ?_)); try simp [-List.reduceReplicate, Nat.add_one_le_iff, -getElem?_pos, -getElem?_neg, h, hs])
     | (with_reducible refine awp_if_b rfl (fun hc => ?_) (fun hc => ?_) <;> (try simp [-getElem?_pos, -getElem?_neg] at hc) <;> (try (exfalso; omega)))
     | (with_reducible refine And.intro (by omega) ?_)
     | fail)
def wB (s : Bf) (t : ByteArray) : Bf := ⟨true, s.g + 1, s.nl && t.size == 0, s.b ++ t⟩
theorem writeString_den (i : Nat) (s : Bf) (t : ByteArray) (ob : List Ob) (h1 : ob[i]? = some (bufO i s)) (h2 : ob[i + 1]? = some (bytO s)) (hz : s.b.size + t.size ≤ 140737488355327) :
    Den Try.prog 42 [.mp i 0 0, .c (sC t)] ob (fun r ob' => r = .tup [.c (iC t.size), .c (.v .nilIface)] ∧ ob' = (ob.set i (bufO i (wB s t))).set (i + 1) (bytO (wB s t))) := by
  have c1 := copyCheckB_den i s.g s.w false s.b.size ob h1 rfl
  obtain ⟨w, g, nl, b⟩ := s
  simp only [bufO, bytO] at h1 h2 c1
  have hbl := bytsC_len b
  have hap := bytsC_app b t
  have hsz : (b ++ t).size = b.size + t.size := ByteArray.size_append
  have g1 := get_set ob i _ h1
  have g2 : ∀ x, (ob.set i x)[i + 1]? = ob[i + 1]? := fun x => by rw [List.getElem?_set_ne (by omega)]
  have g3 : ∀ x y, ((ob.set i x).set (i + 1) y)[i]? = some x := fun x y => by rw [List.getElem?_set_ne (by omega), g1]
  have ss : ∀ x y z, ((ob.set i x).set (i + 1) y).set i z = (ob.set i z).set (i + 1) y := fun x y z => by rw [List.set_comm _ _ (by omega), List.set_set]
  simp only at hz
  refine den_of Try.func42 rfl rfl (by simp [Try.ntmps42]) (fun X hX hO => ?_)
  rw [Try.ntmps42] at hX
  simp only [Try.results42]
  have hrm : b.size + t.size ≤ 140737488355328 := by omega
  have hll : t.toList.length = t.size := by rw [toList_data, Array.length_toList]; rfl
  have hbt : (t.toList.map fun b => C.v (Value.int .u8 (b.toNat : Int))) = bytsC t := by rw [toList_data]; rfl
  repeat' (first 
   | (with_reducible first | refine awp_scope ?_ | refine awp_seq ?_ | refine awp_block ?_)
   | ((with_reducible first | refine awp_label ?_ | refine awp_skip ?_ | refine awp_exit ?_); try simp only [thenA, inBlockA, noGotoA, if_true, Nat.reduceEqDiff, if_false, ↓reduceIte])
   | ((with_reducible first | refine awp_reg 19 hX [0, 1, 4, 5] ?_ | change postOf _ _ _ _ _); simp [-List.reduceReplicate, Nat.add_one_le_iff, -getElem?_pos, -getElem?_neg, sC, h1, h2, g1, g2, g3, ss, hbl, roomB, hrm, hll, hbt, bufO, bytO, wB, hsz, hap, addrM, iC])
   | ((first | (with_reducible refine awp_ret ?_; try simp only [thenA, inBlockA, noGotoA]) | (refine (c1).det ?_)); try simp [-List.reduceReplicate, Nat.add_one_le_iff, -getElem?_pos, -getElem?_neg, sC, h1, h2, g1, g2, g3, ss, hbl, roomB, hrm, hll, hbt, bufO, bytO, wB, hsz, hap, addrM, iC])
   | (with_reducible refine awp_if_b rfl (fun hc => ?_) (fun hc => ?_) <;> (try simp [-getElem?_pos, -getElem?_neg] at hc) <;> (try (exfalso; omega)))
   | (with_reducible refine And.intro (by omega) ?_)
   | fail)
def wsB (s : Bf) : List ByteArray → Bf
  | [] => s
  | t :: l => wsB (wB s t) l
def catB (l : List ByteArray) : ByteArray := l.foldr (· ++ ·) e0
def totB : List ByteArray → Nat
  | [] => 0
  | t :: l => t.size + totB l
theorem wsB_take (s : Bf) (l : List ByteArray) (i : Nat) (t : ByteArray) (h : l[i]? = some t) : wsB s (l.take (i + 1)) = wB (wsB s (l.take i)) t := by
  induction l generalizing s i with
  | nil => simp at h
  | cons x l ih =>
    cases i with
    | zero => simp at h; subst h; rfl
    | succ i => simp at h; simpa [wsB] using ih (wB s x) i h
theorem wsB_size (s : Bf) (l : List ByteArray) : (wsB s l).b.size = s.b.size + totB l := by
  induction l generalizing s with
  | nil => rfl
  | cons x l ih => rw [wsB, ih, wB, totB]; simp only [ByteArray.size_append]; omega
theorem totB_take (l : List ByteArray) (i : Nat) (t : ByteArray) (h : l[i]? = some t) : totB (l.take i) + t.size ≤ totB l := by
  induction l generalizing i with
  | nil => simp at h
  | cons x l ih =>
    cases i with
    | zero => simp at h; subst h; simp [totB]
    | succ i => simp at h; have := ih i h; simp [totB]; omega
theorem bufNew_den (ob : List Ob) : Den Try.prog 23 [] ob (fun r ob' => r = .mp ob.length 0 0 ∧ ob' = ob ++ [bufO ob.length ⟨false, 0, true, e0⟩, bytO ⟨false, 0, true, e0⟩]) := by
  refine den_of Try.func23 rfl rfl (by simp [Try.ntmps23]) (fun X hX hO => ?_)
  rw [Try.ntmps23] at hX
  simp only [Try.results23]
  repeat' (first 
   | (with_reducible first | refine awp_scope ?_ | refine awp_seq ?_ | refine awp_block ?_)
   | ((with_reducible first | refine awp_label ?_ | refine awp_skip ?_ | refine awp_exit ?_); try simp only [thenA, inBlockA, noGotoA, if_true, Nat.reduceEqDiff, if_false, ↓reduceIte])
   | ((with_reducible first | refine awp_reg 3 hX [0] ?_ | change postOf _ _ _ _ _); simp [-List.reduceReplicate, Nat.add_one_le_iff, -getElem?_pos, -getElem?_neg, bufO, bytO])
   | (with_reducible refine awp_if_b rfl (fun hc => ?_) (fun hc => ?_) <;> (try simp [-getElem?_pos, -getElem?_neg] at hc) <;> (try (exfalso; omega)))
   | (with_reducible refine And.intro (by omega) ?_)
   | fail)
  refine awp_nilc ob.length 1 ⟨88, 2, false, 0, [.c (.v (.pointer none)), .c (.v (.slice none 0 0))], none⟩ 5 1 (by simp) rfl rfl rfl ?_
  simp
  repeat' (first 
   | (with_reducible first | refine awp_scope ?_ | refine awp_seq ?_ | refine awp_block ?_)
   | ((with_reducible first | refine awp_label ?_ | refine awp_skip ?_ | refine awp_exit ?_); try simp only [thenA, inBlockA, noGotoA, if_true, Nat.reduceEqDiff, if_false, ↓reduceIte])
   | ((with_reducible first | refine awp_reg 3 hX [0] ?_ | change postOf _ _ _ _ _); simp [-List.reduceReplicate, Nat.add_one_le_iff, -getElem?_pos, -getElem?_neg, bufO, bytO, addrM])
   | ((first | (with_reducible refine awp_ret ?_; try simp only [thenA, inBlockA, noGotoA])); try simp [-List.reduceReplicate, Nat.add_one_le_iff, -getElem?_pos, -getElem?_neg, bufO, bytO, addrM])
   | (with_reducible refine awp_if_b rfl (fun hc => ?_) (fun hc => ?_) <;> (try simp [-getElem?_pos, -getElem?_neg] at hc) <;> (try (exfalso; omega)))
   | (with_reducible refine And.intro (by omega) ?_)
   | fail)
  all_goals exact ⟨rfl, rfl⟩
theorem bufRaw_den (i : Nat) (s : Bf) (l : List ByteArray) (full : Bool) (ob : List Ob) (h1 : ob[i]? = some (bufO i s)) (h2 : ob[i + 1]? = some (bytO s)) (hz : s.b.size + totB l ≤ 140737488355327) (hN : l.length ≤ 1000000) :
    Den Try.prog 24 [.mp i 0 0, .c (.sl (l.map fun s => .v (.string s)) l.length full)] ob (fun r ob' => r = .tup [] ∧ ob' = (ob.set i (bufO i (wsB s l))).set (i + 1) (bytO (wsB s l))) := by
  have hs1 := set_same ob i _ h1
  have hs2 := set_same ob (i + 1) _ h2
  have hat := fun (k : Nat) (s : ByteArray) (h : l[k]? = some s) => show (l.map fun s => C.v (.string s))[k]? = some (.v (.string s)) by simp [h]
  have hlm : (l.map fun s => C.v (.string s)).length = l.length := by simp
  have g1 := get_set ob i _ h1
  have g3 : ∀ x y, ((ob.set i x).set (i + 1) y)[i]? = some x := fun x y => by rw [List.getElem?_set_ne (by omega), g1]
  have g4 : ∀ x y, ((ob.set i x).set (i + 1) y)[i + 1]? = some y := fun x y => by
    have := (List.getElem?_eq_some_iff.1 h2).1
    simp [this]
  have ss : ∀ x y z w, (((ob.set i x).set (i + 1) y).set i z).set (i + 1) w = (ob.set i z).set (i + 1) w := fun x y z w => by rw [List.set_comm _ _ (by omega : i + 1 ≠ i), List.set_set, List.set_set]
  generalize (l.map fun s => C.v (.string s)) = cs at *
  refine den_of Try.func24 rfl rfl (by simp [Try.ntmps24]) (fun X hX hO => ?_)
  rw [Try.ntmps24] at hX
  simp only [Try.results24]
  have hob : (ob.set i (bufO i (wsB s []))).set (i + 1) (bytO (wsB s [])) = ob := by
    show (ob.set i (bufO i s)).set (i + 1) (bytO s) = ob
    rw [hs1, hs2]
  repeat' (first 
   | (with_reducible first | refine awp_scope ?_ | refine awp_seq ?_ | refine awp_block ?_)
   | ((with_reducible first | refine awp_label ?_ | refine awp_skip ?_ | refine awp_exit ?_ | refine hother _ _ rfl ?_); try simp only [thenA, inBlockA, noGotoA, if_true, Nat.reduceEqDiff, if_false, ↓reduceIte])
   | ((with_reducible first | refine awp_reg 23 hX [0, 1, 4, 12] ?_ | refine DEv_cut _ _ _ _ _ _ _ _ _ _ _ _ (by kernel_rfl) ?_ | change postOf _ _ _ _ _); simp [-List.reduceReplicate, Nat.add_one_le_iff, -getElem?_pos, -getElem?_neg, iC])
   | ((first | (with_reducible refine awp_ret ?_; try simp only [thenA, inBlockA, noGotoA])); try simp [-List.reduceReplicate, Nat.add_one_le_iff, -getElem?_pos, -getElem?_neg, iC])
   | (with_reducible refine awp_if_b rfl (fun hc => ?_) (fun hc => ?_) <;> (try simp [-getElem?_pos, -getElem?_neg] at hc) <;> (try (exfalso; omega)))
   | ((with_reducible first | refine GuardK_b (fun hc => ?_) (fun hc => ?_) | refine DGuard_b _ _ _ _ _ _ _ _ _ _ (fun hc => ?_) (fun hc => ?_)) <;> (try simp only [Bool.not_eq_true', Bool.not_eq_false', decide_eq_true_eq, decide_eq_false_iff_not] at hc) <;> (first | (exfalso; omega) | skip) <;> simp [-List.reduceReplicate, Nat.add_one_le_iff, -getElem?_pos, -getElem?_neg, iC, hc])
   | (with_reducible refine And.intro (by omega) ?_)
   | fail)
  refine awp_forU [0, 1, 4] (fun k (_u : Unit) => [(4, .c (iC k))]) (fun k (_u : Unit) => (ob.set i (bufO i (wsB s (l.take k)))).set (i + 1) (bytO (wsB s (l.take k)))) (fun k (_u : Unit) => True) (l.length) (()) (by first | trivial | (simp; done) | omega | (intros; simp at *; done)) (by simp [-List.reduceReplicate, keep, iC, hob]) (by simp [-List.reduceReplicate, iC, hob]) ?_
  rintro k _u Q1 hi hH next hother
  conv => arg 5; arg 1; simp only [List.cons_append, List.nil_append, keep, get, Nat.reduceEqDiff, if_true, if_false, ↓reduceIte]
  have hwk := wrap_in ((k : Int) + 1) (by omega)
  by_cases hlt : k < l.length
  · obtain ⟨t, ht⟩ : ∃ t, l[k]? = some t := ⟨_, List.getElem?_eq_getElem hlt⟩
    have ha := hat k t ht
    have hw := writeString_den i (wsB s (l.take k)) t _ (g3 _ _) (g4 (bufO i (wsB s (l.take k))) (bytO (wsB s (l.take k)))) (by rw [wsB_size]; have := totB_take l k t ht; omega)
    rw [ss, ← wsB_take s l k t ht] at hw
    have ho1 := g3 (bufO i (wsB s (l.take k))) (bytO (wsB s (l.take k)))
    have hbo : bufO i (wsB s (l.take k)) = ⟨88, 2, false, 0, [addrM i (wsB s (l.take k)).w, .ms (i + 1) (wsB s (l.take k)).g 0 (wsB s (l.take k)).b.size], none⟩ := rfl
    generalize (ob.set i (bufO i (wsB s (l.take k)))).set (i + 1) (bytO (wsB s (l.take k))) = o1 at *
    generalize (ob.set i (bufO i (wsB s (l.take (k + 1))))).set (i + 1) (bytO (wsB s (l.take (k + 1)))) = o2 at *
    rw [hbo] at ho1
    have h3 : (k : Int) < l.length := by omega
    repeat' (first 
     | (with_reducible first | refine awp_scope ?_ | refine awp_seq ?_ | refine awp_block ?_)
     | ((with_reducible first | refine awp_label ?_ | refine awp_skip ?_ | refine awp_exit ?_ | refine hother _ _ rfl ?_); try simp only [thenA, inBlockA, noGotoA, if_true, Nat.reduceEqDiff, if_false, ↓reduceIte])
     | ((with_reducible first | refine awp_reg 23 hX [0, 1, 4, 12] ?_ | refine DEv_cut _ _ _ _ _ _ _ _ _ _ _ _ (by kernel_rfl) ?_ | change postOf _ _ _ _ _); simp [-List.reduceReplicate, Nat.add_one_le_iff, -getElem?_pos, -getElem?_neg, iC, hlt, hlm, ho1, h3, ha])
     | ((first | (with_reducible refine awp_ret ?_; try simp only [thenA, inBlockA, noGotoA])); try simp [-List.reduceReplicate, Nat.add_one_le_iff, -getElem?_pos, -getElem?_neg, iC, hlt, hlm, ho1, h3, ha])
     | (with_reducible refine awp_if_b rfl (fun hc => ?_) (fun hc => ?_) <;> (try simp [-getElem?_pos, -getElem?_neg] at hc) <;> (try (exfalso; omega)))
     | ((with_reducible first | refine GuardK_b (fun hc => ?_) (fun hc => ?_) | refine DGuard_b _ _ _ _ _ _ _ _ _ _ (fun hc => ?_) (fun hc => ?_)) <;> (try simp only [Bool.not_eq_true', Bool.not_eq_false', decide_eq_true_eq, decide_eq_false_iff_not] at hc) <;> (first | (exfalso; omega) | skip) <;> simp [-List.reduceReplicate, Nat.add_one_le_iff, -getElem?_pos, -getElem?_neg, iC, hlt, hlm, ho1, h3, ha, hc])
     | (with_reducible refine And.intro (by omega) ?_)
     | fail)
    refine awp_drwc (id := 3) 23 hX [0, 1, 4, 12] [7] Tab.mixed (by kernel_rfl) ?_
    simp [-List.reduceReplicate, -getElem?_pos, -getElem?_neg, List.getElem?_cons_zero, List.getElem?_cons_succ, iC, hlt, hlm, ho1, h3, ha]
    refine ⟨_, _, hw, fun h => by simp [mayB] at h, ?_⟩
    repeat' (first 
     | (with_reducible first | refine awp_scope ?_ | refine awp_seq ?_ | refine awp_block ?_)
     | ((with_reducible first | refine awp_label ?_ | refine awp_skip ?_ | refine awp_exit ?_ | refine hother _ _ rfl ?_); try simp only [thenA, inBlockA, noGotoA, if_true, Nat.reduceEqDiff, if_false, ↓reduceIte])
     | ((with_reducible first | refine awp_reg 23 hX [0, 1, 4, 12] ?_ | refine DEv_cut _ _ _ _ _ _ _ _ _ _ _ _ (by kernel_rfl) ?_ | change postOf _ _ _ _ _); simp [-List.reduceReplicate, Nat.add_one_le_iff, -getElem?_pos, -getElem?_neg, iC, hwk])
     | ((first | (with_reducible refine awp_ret ?_; try simp only [thenA, inBlockA, noGotoA])); try simp [-List.reduceReplicate, Nat.add_one_le_iff, -getElem?_pos, -getElem?_neg, iC, hwk])
     | (with_reducible refine awp_if_b rfl (fun hc => ?_) (fun hc => ?_) <;> (try simp [-getElem?_pos, -getElem?_neg] at hc) <;> (try (exfalso; omega)))
     | ((with_reducible first | refine GuardK_b (fun hc => ?_) (fun hc => ?_) | refine DGuard_b _ _ _ _ _ _ _ _ _ _ (fun hc => ?_) (fun hc => ?_)) <;> (try simp only [Bool.not_eq_true', Bool.not_eq_false', decide_eq_true_eq, decide_eq_false_iff_not] at hc) <;> (first | (exfalso; omega) | skip) <;> simp [-List.reduceReplicate, Nat.add_one_le_iff, -getElem?_pos, -getElem?_neg, iC, hwk, hc])
     | (with_reducible refine And.intro (by omega) ?_)
     | fail)
    refine next _ _ (()) (by omega) (by first | trivial | omega | assumption) (by simp [-List.reduceReplicate, keep, iC]) (by simp [-List.reduceReplicate, iC])
  · obtain rfl : k = l.length := by omega
    have h3 : ¬ (l.length : Int) < l.length := by omega
    have ho1 := g3 (bufO i (wsB s (l.take l.length))) (bytO (wsB s (l.take l.length)))
    have hbo : bufO i (wsB s (l.take l.length)) = ⟨88, 2, false, 0, [addrM i (wsB s (l.take l.length)).w, .ms (i + 1) (wsB s (l.take l.length)).g 0 (wsB s (l.take l.length)).b.size], none⟩ := rfl
    rw [List.take_length] at *
    generalize hO1 : (ob.set i (bufO i (wsB s l))).set (i + 1) (bytO (wsB s l)) = o1 at *
    rw [hbo] at ho1
    repeat' (first 
     | (with_reducible first | refine awp_scope ?_ | refine awp_seq ?_ | refine awp_block ?_)
     | ((with_reducible first | refine awp_label ?_ | refine awp_skip ?_ | refine awp_exit ?_ | refine hother _ _ rfl ?_); try simp only [thenA, inBlockA, noGotoA, if_true, Nat.reduceEqDiff, if_false, ↓reduceIte])
     | ((with_reducible first | refine awp_reg 23 hX [0, 1, 4, 12] ?_ | refine DEv_cut _ _ _ _ _ _ _ _ _ _ _ _ (by kernel_rfl) ?_ | change postOf _ _ _ _ _); simp [-List.reduceReplicate, Nat.add_one_le_iff, -getElem?_pos, -getElem?_neg, iC, hlm, ho1, h3])
     | ((first | (with_reducible refine awp_ret ?_; try simp only [thenA, inBlockA, noGotoA])); try simp [-List.reduceReplicate, Nat.add_one_le_iff, -getElem?_pos, -getElem?_neg, iC, hlm, ho1, h3])
     | (with_reducible refine awp_if_b rfl (fun hc => ?_) (fun hc => ?_) <;> (try simp [-getElem?_pos, -getElem?_neg] at hc) <;> (try (exfalso; omega)))
     | ((with_reducible first | refine GuardK_b (fun hc => ?_) (fun hc => ?_) | refine DGuard_b _ _ _ _ _ _ _ _ _ _ (fun hc => ?_) (fun hc => ?_)) <;> (try simp only [Bool.not_eq_true', Bool.not_eq_false', decide_eq_true_eq, decide_eq_false_iff_not] at hc) <;> (first | (exfalso; omega) | skip) <;> simp [-List.reduceReplicate, Nat.add_one_le_iff, -getElem?_pos, -getElem?_neg, iC, hlm, ho1, h3, hc])
     | (with_reducible refine And.intro (by omega) ?_)
     | fail)
    all_goals trace_state
end Go.Av

set_option exponentiation.threshold 1000
set_option linter.unusedVariables false
set_option linter.unusedSimpArgs false
set_option maxRecDepth 100000
set_option maxHeartbeats 4000000
namespace Go.Av
open Go Go.Proofs Go.Proofs.Ytpcnacknlgmmlaa Go.RowKit
attribute [local simp] List.getElem?_cons_zero List.getElem?_cons_succ
attribute [local simp] Try.underlying83 Try.underlying86 Try.underlying84 Try.underlying5 Try.underlying136 Try.underlying3 Try.underlying9 Try.underlying4 Try.underlying22 Try.underlying88 Try.underlying59 Try.underlying45 Try.underlying95
def setB (ob : List Ob) (i : Nat) (s : Bf) : List Ob := (ob.set i (bufO i s)).set (i + 1) (bytO s)
theorem setB_len (ob : List Ob) (i : Nat) (s : Bf) : (setB ob i s).length = ob.length := by simp [setB]
theorem setB_get0 (ob : List Ob) (i : Nat) (s : Bf) (h : i + 1 < ob.length) : (setB ob i s)[i]? = some (bufO i s) := by
  unfold setB
  rw [List.getElem?_set_ne (by omega)]
  simp [show i < ob.length by omega]
theorem setB_get1 (ob : List Ob) (i : Nat) (s : Bf) (h : i + 1 < ob.length) : (setB ob i s)[i + 1]? = some (bytO s) := by
  unfold setB
  simp [h]
theorem setB_twice (ob : List Ob) (i : Nat) (s t : Bf) : setB (setB ob i s) i t = setB ob i t := by
  unfold setB
  rw [List.set_comm _ _ (by omega : i + 1 ≠ i), List.set_set, List.set_set]
theorem setB_app (ob e : List Ob) (i : Nat) (s : Bf) (h : i + 1 < ob.length) : setB (ob ++ e) i s = setB ob i s ++ e := by
  unfold setB
  rw [List.set_append_left _ _ (by omega), List.set_append_left _ _ (by simpa using h)]
theorem setB_ok (ob : List Ob) (i : Nat) (s : Bf) (h : i + 1 < ob.length) (hok : okCu ob) : okCu (setB ob i s) := by
  unfold okCu at *
  rw [setB_len, List.all_eq_true] at *
  intro q hq
  unfold setB at hq
  rcases List.mem_or_eq_of_mem_set hq with h1 | rfl
  · rcases List.mem_or_eq_of_mem_set h1 with h2 | rfl
    · exact hok q h2
    · cases hw : s.w <;> simp [bufO, addrM, hw, ltB] <;> omega
  · simp only [bytO, up, List.all_map, List.all_eq_true, Function.comp]
    intro x _
    rfl
theorem setB_same (ob : List Ob) (i : Nat) (s : Bf) (h1 : ob[i]? = some (bufO i s)) (h2 : ob[i + 1]? = some (bytO s)) : setB ob i s = ob := by
  unfold setB
  rw [set_same ob i _ h1, set_same ob (i + 1) _ h2]
theorem bufRaw2_den (i : Nat) (s : Bf) (l : List ByteArray) (n : Nat) (hn : l.length = n) (full : Bool) (ob : List Ob) (h1 : ob[i]? = some (bufO i s)) (h2 : ob[i + 1]? = some (bytO s)) (hz : s.b.size + totB l ≤ 140737488355327) (hN : n ≤ 1000000) :
    Den Try.prog 24 [.mp i 0 0, .c (.sl (l.map fun s => .v (.string s)) n full)] ob (fun r ob' => r = .tup [] ∧ ob' = setB ob i (wsB s l)) := by
  subst hn
  exact bufRaw_den i s l full ob h1 h2 hz hN
theorem bufNum_den (i : Nat) (s : Bf) (x : Nat) (hx : x < 18446744073709551616) (ob : List Ob) (h1 : ob[i]? = some (bufO i s)) (h2 : ob[i + 1]? = some (bytO s)) (hz : s.b.size + 10 ≤ 140737488355327) :
    Den Try.prog 28 [.mp i 0 0, .c (u64C x)] ob (fun r ob' => r = .tup [] ∧ ob' = setB ob i (wB s (bsS (putV x)))) := by
  have p1 := num_put_den x hx
  have hl : (bsS (putV x)).size ≤ 10 := by rw [bs_size]; exact putV_len10 x hx
  have p2 := bufRaw2_den i s [bsS (putV x)] 1 rfl true ob h1 h2 (by simp [totB]; omega) (by omega)
  simp only [wsB, List.map_cons, List.map_nil] at p2
  generalize bsS (putV x) = t at *
  generalize setB ob i (wB s t) = o2 at *
  refine den_of Try.func28 rfl rfl (by simp [Try.ntmps28]) (fun X hX hO => ?_)
  rw [Try.ntmps28] at hX
  simp only [Try.results28]
  repeat' (first 
   | (with_reducible first | refine awp_scope ?_ | refine awp_seq ?_ | refine awp_block ?_)
   | ((with_reducible first | refine awp_label ?_ | refine awp_skip ?_ | refine awp_exit ?_); try simp only [thenA, inBlockA, noGotoA, if_true, Nat.reduceEqDiff, if_false, ↓reduceIte])
   | ((with_reducible first | refine awp_reg 9 hX [] ?_ | change postOf _ _ _ _ _); simp [-List.reduceReplicate, Nat.add_one_le_iff, -getElem?_pos, -getElem?_neg, u64C])
   | ((first | (with_reducible refine awp_ret ?_; try simp only [thenA, inBlockA, noGotoA]) | (refine (p1 _).det ?_) | (refine (p2).det ?_)); try simp [-List.reduceReplicate, Nat.add_one_le_iff, -getElem?_pos, -getElem?_neg, u64C])
   | (with_reducible refine awp_if_b rfl (fun hc => ?_) (fun hc => ?_) <;> (try simp [-getElem?_pos, -getElem?_neg] at hc) <;> (try (exfalso; omega)))
   | (with_reducible refine And.intro (by omega) ?_)
   | fail)
theorem bufHash_den (i : Nat) (s : Bf) (l : List H32) (n : Nat) (hn : l.length = n) (full : Bool) (ob : List Ob) (h1 : ob[i]? = some (bufO i s)) (h2 : ob[i + 1]? = some (bytO s)) (hok : okCu ob) (hz : s.b.size + totB (l.map fun h => bsS h.1) ≤ 140737488355327) (hN : n ≤ 1000000) :
    Den Try.prog 26 [.mp i 0 0, .c (.sl (hsC l) n full)] ob (fun r ob' => r = .tup [] ∧ ob' = setB ob i (wsB s (l.map fun h => bsS h.1))) := by
  subst hn
  have hil := (List.getElem?_eq_some_iff.1 h2).1
  have hlen := hsC_len l
  have hat := hsC_at l
  have hob : setB ob i (wsB s []) = ob := setB_same ob i s h1 h2
  have hlm : (l.map fun h => bsS h.1).length = l.length := by simp
  have hlg : ∀ (k : Nat) (h : H32), l[k]? = some h → (l.map fun h => bsS h.1)[k]? = some (bsS h.1) := fun k h hh => by rw [List.getElem?_map, hh]; rfl
  generalize (l.map fun h => bsS h.1) = L at *
  generalize hsC l = cs at *
  refine Den.forget (by rw [setB_len]; exact Nat.le_refl _) rfl (setB_ok ob i (wsB s L) hil hok) ?_
  refine den_of Try.func26 rfl rfl (by simp [Try.ntmps26]) (fun X hX hO => ?_)
  rw [Try.ntmps26] at hX
  simp only [Try.results26]
  repeat' (first 
   | (with_reducible first | refine awp_scope ?_ | refine awp_seq ?_ | refine awp_block ?_)
   | ((with_reducible first | refine awp_label ?_ | refine awp_skip ?_ | refine awp_exit ?_ | refine hother _ _ rfl ?_); try simp only [thenA, inBlockA, noGotoA, if_true, Nat.reduceEqDiff, if_false, ↓reduceIte])
   | ((with_reducible first | refine awp_reg 18 hX [0, 5, 6, 7, 8, 9] ?_ | change postOf _ _ _ _ _); simp [-List.reduceReplicate, Nat.add_one_le_iff, -getElem?_pos, -getElem?_neg, iC])
   | ((first | (with_reducible refine awp_ret ?_; try simp only [thenA, inBlockA, noGotoA])); try simp [-List.reduceReplicate, Nat.add_one_le_iff, -getElem?_pos, -getElem?_neg, iC])
   | (with_reducible refine awp_if_b rfl (fun hc => ?_) (fun hc => ?_) <;> (try simp [-getElem?_pos, -getElem?_neg] at hc) <;> (try (exfalso; omega)))
   | (with_reducible refine And.intro (by omega) ?_)
   | fail)
  refine awp_forU [0, 6, 7, 8] (fun k (gr : List Ob) => [(8, .c (iC k))]) (fun k (gr : List Ob) => setB ob i (wsB s (L.take k)) ++ gr) (fun k (gr : List Ob) => True) (l.length) ([]) (by first | trivial | (simp; done) | omega | (intros; simp at *; done)) (by simp [-List.reduceReplicate, keep, iC, hob]) (by simp [-List.reduceReplicate, iC, hob]) ?_
  rintro k gr Q1 hi hH next hother
  conv => arg 5; arg 1; simp only [List.cons_append, List.nil_append, keep, get, Nat.reduceEqDiff, if_true, if_false, ↓reduceIte]
  have hwk := wrap_in ((k : Int) + 1) (by omega)
  have hsl := setB_len ob i (wsB s (L.take k))
  by_cases hlt : k < l.length
  · obtain ⟨h, hh⟩ : ∃ h, l[k]? = some h := ⟨_, List.getElem?_eq_getElem hlt⟩
    have ha := hat k h hh
    have hLk := hlg k h hh
    have g0 := setB_get0 ob i (wsB s (L.take k)) hil
    have g1 := setB_get1 ob i (wsB s (L.take k)) hil
    have t2 := hash_take h.1 h.2
    have hb : 32 ≤ cs.length - k * 32 := by omega
    have hb2 : k * 32 + 32 ≤ cs.length := by omega
    have h3 : (k : Int) < l.length := by omega
    have hr := bufRaw2_den i (wsB s (L.take k)) [bsS h.1] 1 rfl true (setB ob i (wsB s (L.take k)) ++ (gr ++ [⟨45, 1, false, 0, up (h.1.map bC8), none⟩])) (by rw [List.getElem?_append_left (by omega)]; exact g0) (by rw [List.getElem?_append_left (by omega)]; exact g1) (by have := totB_take L k _ hLk; rw [wsB_size]; simp only [totB]; omega) (by omega)
    rw [setB_app _ _ _ _ (by omega), setB_twice] at hr
    simp only [wsB, List.map_cons, List.map_nil] at hr
    rw [← wsB_take s L k _ hLk] at hr
    generalize setB ob i (wsB s (L.take (k + 1))) = o2 at *
    generalize setB ob i (wsB s (L.take k)) = o1 at *
    have q1 : ∀ x, (o1 ++ (gr ++ [x]))[ob.length + gr.length]? = some x := fun x => by rw [← hsl, ← List.append_assoc, List.getElem?_append_right (by simp)]; simp
    have q2 : ∀ x y, (o1 ++ (gr ++ [x])).set (ob.length + gr.length) y = o1 ++ (gr ++ [y]) := fun x y => by rw [← hsl, ← List.append_assoc, List.set_append_right _ _ (by simp)]; simp
    have hbm : bytesM (up (h.1.map bC8)) = some h.1 := bytesM_bytes h.1
    have hhl : (h.1.map bC8).length = 32 := by simp [h.2]
    have hbs : (⟨h.1.toArray⟩ : ByteArray) = bsS h.1 := rfl
    generalize h.1.map bC8 = H at *
    repeat' (first 
     | (with_reducible first | refine awp_scope ?_ | refine awp_seq ?_ | refine awp_block ?_)
     | ((with_reducible first | refine awp_label ?_ | refine awp_skip ?_ | refine awp_exit ?_ | refine hother _ _ rfl ?_); try simp only [thenA, inBlockA, noGotoA, if_true, Nat.reduceEqDiff, if_false, ↓reduceIte])
     | ((with_reducible first | refine awp_reg 18 hX [0, 5, 6, 7, 8, 9] ?_ | change postOf _ _ _ _ _); simp [-List.reduceReplicate, Nat.add_one_le_iff, -getElem?_pos, -getElem?_neg, iC, hlt, hwk, ha, hb, hb2, t2, h3, q1, q2, hbm, hhl, hbs, hsl])
     | ((first | (with_reducible refine awp_ret ?_; try simp only [thenA, inBlockA, noGotoA]) | (refine (hr).det ?_)); try simp [-List.reduceReplicate, Nat.add_one_le_iff, -getElem?_pos, -getElem?_neg, iC, hlt, hwk, ha, hb, hb2, t2, h3, q1, q2, hbm, hhl, hbs, hsl])
     | (with_reducible refine awp_if_b rfl (fun hc => ?_) (fun hc => ?_) <;> (try simp [-getElem?_pos, -getElem?_neg] at hc) <;> (try (exfalso; omega)))
     | (with_reducible refine And.intro (by omega) ?_)
     | fail)
    refine next _ _ (gr ++ [⟨45, 1, false, 0, up H, none⟩]) (by omega) (by first | trivial | omega | assumption) (by simp [-List.reduceReplicate, keep, iC]) (by simp [-List.reduceReplicate, iC])
  · obtain rfl : k = l.length := by omega
    have hexit := hother; clear next hother
    have hLt : L.take l.length = L := List.take_of_length_le (by omega)
    rw [hLt] at *
    generalize setB ob i (wsB s L) = o1 at *
    repeat' (first 
     | (with_reducible first | refine awp_scope ?_ | refine awp_seq ?_ | refine awp_block ?_)
     | ((with_reducible first | refine awp_label ?_ | refine awp_skip ?_ | refine awp_exit ?_ | refine hother _ _ rfl ?_); try simp only [thenA, inBlockA, noGotoA, if_true, Nat.reduceEqDiff, if_false, ↓reduceIte])
     | ((with_reducible first | refine awp_reg 18 hX [0, 5, 6, 7, 8, 9] ?_ | change postOf _ _ _ _ _); simp [-List.reduceReplicate, Nat.add_one_le_iff, -getElem?_pos, -getElem?_neg, iC])
     | ((first | (with_reducible refine awp_ret ?_; try simp only [thenA, inBlockA, noGotoA])); try simp [-List.reduceReplicate, Nat.add_one_le_iff, -getElem?_pos, -getElem?_neg, iC])
     | (with_reducible refine awp_if_b rfl (fun hc => ?_) (fun hc => ?_) <;> (try simp [-getElem?_pos, -getElem?_neg] at hc) <;> (try (exfalso; omega)))
     | (with_reducible refine And.intro (by omega) ?_)
     | fail)
    refine hexit _ _ rfl ?_
    simp only [inBlockA, thenA, ↓reduceIte]
    clear hexit
    repeat' (first 
     | (with_reducible first | refine awp_scope ?_ | refine awp_seq ?_ | refine awp_block ?_)
     | ((with_reducible first | refine awp_label ?_ | refine awp_skip ?_ | refine awp_exit ?_ | refine hother _ _ rfl ?_); try simp only [thenA, inBlockA, noGotoA, if_true, Nat.reduceEqDiff, if_false, ↓reduceIte])
     | ((with_reducible first | refine awp_reg 18 hX [0, 5, 6, 7, 8, 9] ?_ | change postOf _ _ _ _ _); simp [-List.reduceReplicate, Nat.add_one_le_iff, -getElem?_pos, -getElem?_neg, iC])
     | ((first | (with_reducible refine awp_ret ?_; try simp only [thenA, inBlockA, noGotoA])); try simp [-List.reduceReplicate, Nat.add_one_le_iff, -getElem?_pos, -getElem?_neg, iC])
     | (with_reducible refine awp_if_b rfl (fun hc => ?_) (fun hc => ?_) <;> (try simp [-getElem?_pos, -getElem?_neg] at hc) <;> (try (exfalso; omega)))
     | (with_reducible refine And.intro (by omega) ?_)
     | fail)
end Go.Av

set_option exponentiation.threshold 1000
set_option linter.unusedVariables false
set_option linter.unusedSimpArgs false
set_option maxRecDepth 100000
set_option maxHeartbeats 4000000
namespace Go.Av
open Go Go.Proofs Go.Proofs.Ytpcnacknlgmmlaa Go.RowKit
attribute [local simp] List.getElem?_cons_zero List.getElem?_cons_succ
attribute [local simp] Try.underlying83 Try.underlying86 Try.underlying84 Try.underlying5 Try.underlying136 Try.underlying3 Try.underlying9 Try.underlying4 Try.underlying22 Try.underlying88 Try.underlying59 Try.underlying45 Try.underlying95
def endB (s : Bf) : Ob := if s.nl then bytO s else deadOb (bytO s)
def Bf.ok (s : Bf) : Prop := s.nl = decide (s.b.size = 0)
theorem wB_ok (s : Bf) (t : ByteArray) (h : s.ok) : (wB s t).ok := by
  unfold Bf.ok at *
  simp only [wB, h, ByteArray.size_append]
  rw [Bool.eq_iff_iff]
  simp
theorem wsB_ok (l : List ByteArray) : ∀ s : Bf, s.ok → (wsB s l).ok := by
  induction l with
  | nil => intro s h; exact h
  | cons t l ih => intro s h; exact ih _ (wB_ok s t h)
theorem wsB_b (l : List ByteArray) : ∀ s : Bf, (wsB s l).b = s.b ++ catB l := by
  induction l with
  | nil =>
    intro s
    show s.b = s.b ++ ByteArray.empty
    simp
  | cons t l ih => intro s; rw [wsB, ih]; simp [wB, catB, ByteArray.append_assoc]
theorem bString_den (i : Nat) (s : Bf) (hs : s.ok) (hz : s.b.size ≤ 9223372036854775807) (ob : List Ob) (h1 : ob[i]? = some (bufO i s)) (h2 : ob[i + 1]? = some (bytO s)) :
    Den Try.prog 46 [.mp i 0 0] ob (fun r ob' => r = .c (sC s.b) ∧ ob' = ob.set (i + 1) (endB s)) := by
  have hbl := bytsC_len s.b
  have hm := bytesM_bytes s.b.data.toList
  have hb : bytesC s.b.data.toList = bytsC s.b := rfl
  rw [hb] at hm
  have hbs : (⟨s.b.data.toList.toArray⟩ : ByteArray) = s.b := by cases s.b; simp
  have hsm := set_same ob (i + 1) _ h2
  unfold endB
  obtain ⟨w, g, nl, b⟩ := s
  unfold Bf.ok at hs
  simp only [bufO, bytO] at *
  have hz0 := size0_eq b
  have ht : (bytsC b).take b.size = bytsC b := List.take_of_length_le (by omega)
  refine den_of Try.func46 rfl rfl (by simp [Try.ntmps46]) (fun X hX hO => ?_)
  rw [Try.ntmps46] at hX
  simp only [Try.results46]
  by_cases h0 : b.size = 0
  · have hn : nl = true := by rw [hs]; simp [h0]
    subst hn
    obtain rfl := hz0.1 h0
    repeat' (first 
     | (with_reducible first | refine awp_scope ?_ | refine awp_seq ?_ | refine awp_block ?_)
     | ((with_reducible first | refine awp_label ?_ | refine awp_skip ?_ | refine awp_exit ?_); try simp only [thenA, inBlockA, noGotoA, if_true, Nat.reduceEqDiff, if_false, ↓reduceIte])
     | ((with_reducible first | refine awp_reg 14 hX [0, 2] ?_ | refine awp_drw 14 hX [0, 2] Tab.mixed (by kernel_rfl) ?_ | refine DEv_cut _ _ _ _ _ _ _ _ _ _ _ _ (by kernel_rfl) ?_ | change postOf _ _ _ _ _); simp [-List.reduceReplicate, Nat.add_one_le_iff, -getElem?_pos, -getElem?_neg, h1, h2, sC, hsm])
     | ((first | (with_reducible refine awp_ret ?_; try simp only [thenA, inBlockA, noGotoA])); try simp [-List.reduceReplicate, Nat.add_one_le_iff, -getElem?_pos, -getElem?_neg, h1, h2, sC, hsm])
     | (with_reducible refine awp_if_b rfl (fun hc => ?_) (fun hc => ?_) <;> (try simp [-getElem?_pos, -getElem?_neg] at hc) <;> (try (exfalso; omega)))
     | (with_reducible refine And.intro (by omega) ?_)
     | fail)
  · have hn : nl = false := by rw [hs]; simp [h0]
    subst hn
    have hp : 0 < b.size := by omega
    have hz1 : (b.size : Int) ≤ 9223372036854775807 := by omega
    repeat' (first 
     | (with_reducible first | refine awp_scope ?_ | refine awp_seq ?_ | refine awp_block ?_)
     | ((with_reducible first | refine awp_label ?_ | refine awp_skip ?_ | refine awp_exit ?_); try simp only [thenA, inBlockA, noGotoA, if_true, Nat.reduceEqDiff, if_false, ↓reduceIte])
     | ((with_reducible first | refine awp_reg 14 hX [0, 2] ?_ | refine awp_drw 14 hX [0, 2] Tab.mixed (by kernel_rfl) ?_ | refine DEv_cut _ _ _ _ _ _ _ _ _ _ _ _ (by kernel_rfl) ?_ | change postOf _ _ _ _ _); simp [-List.reduceReplicate, Nat.add_one_le_iff, -getElem?_pos, -getElem?_neg, h1, h2, sC, ht, hm, hp, h0, hbl, hbs, hz1])
     | ((first | (with_reducible refine awp_ret ?_; try simp only [thenA, inBlockA, noGotoA])); try simp [-List.reduceReplicate, Nat.add_one_le_iff, -getElem?_pos, -getElem?_neg, h1, h2, sC, ht, hm, hp, h0, hbl, hbs, hz1])
     | (with_reducible refine awp_if_b rfl (fun hc => ?_) (fun hc => ?_) <;> (try simp [-getElem?_pos, -getElem?_neg] at hc) <;> (try (exfalso; omega)))
     | (with_reducible refine And.intro (by omega) ?_)
     | fail)
theorem bufBytes_den (i : Nat) (s : Bf) (hs : s.ok) (hz : s.b.size ≤ 9223372036854775807) (ob : List Ob) (h1 : ob[i]? = some (bufO i s)) (h2 : ob[i + 1]? = some (bytO s)) :
    Den Try.prog 29 [.mp i 0 0] ob (fun r ob' => r = .c (sC s.b) ∧ ob' = ob.set (i + 1) (endB s)) := by
  have p1 := bString_den i s hs hz ob h1 h2
  generalize ob.set (i + 1) (endB s) = o2 at *
  simp only [bufO] at h1
  refine den_of Try.func29 rfl rfl (by simp [Try.ntmps29]) (fun X hX hO => ?_)
  rw [Try.ntmps29] at hX
  simp only [Try.results29]
  repeat' (first 
   | (with_reducible first | refine awp_scope ?_ | refine awp_seq ?_ | refine awp_block ?_)
   | ((with_reducible first | refine awp_label ?_ | refine awp_skip ?_ | refine awp_exit ?_); try simp only [thenA, inBlockA, noGotoA, if_true, Nat.reduceEqDiff, if_false, ↓reduceIte])
   | ((with_reducible first | refine awp_reg 9 hX [0, 2, 4] ?_ | change postOf _ _ _ _ _); simp [-List.reduceReplicate, Nat.add_one_le_iff, -getElem?_pos, -getElem?_neg, h1, sC])
   | ((first | (with_reducible refine awp_ret ?_; try simp only [thenA, inBlockA, noGotoA]) | (refine (p1).det ?_)); try simp [-List.reduceReplicate, Nat.add_one_le_iff, -getElem?_pos, -getElem?_neg, h1, sC])
   | (with_reducible refine awp_if_b rfl (fun hc => ?_) (fun hc => ?_) <;> (try simp [-getElem?_pos, -getElem?_neg] at hc) <;> (try (exfalso; omega)))
   | (with_reducible refine And.intro (by omega) ?_)
   | fail)
end Go.Av
