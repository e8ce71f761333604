/- 46 texts of the program logic over abstract values, joined: each is proved without any condition beyond its own words. -/
import Derived.Test.YtocccighdkdljaaGreatDoorAvWalk1
import Derived.Test.YtocccighdkdljaaGreatDoorAvShelf
import Derived.Test.YtocccighdkdljaaGreatDoorAvEngine4
import Derived.Test.YtocccighdkdljaaGreatDoorAvEngine3
import Derived.Test.YtocccighdkdljaaGreatDoorAvEngine1
set_option exponentiation.threshold 1000
set_option linter.unusedVariables false
set_option linter.unusedSimpArgs false
set_option maxRecDepth 100000
set_option maxHeartbeats 4000000
namespace Go.Av
open Go Go.Proofs Go.Proofs.YtocccighdkdljaaGreatDoor Go.RowKit
attribute [local simp] List.getElem?_cons_zero List.getElem?_cons_succ
theorem of_list (l : List UInt8) : (⟨l.toArray⟩ : ByteArray) = bsS l := rfl
def joinS (xs : List ByteArray) (sep : ByteArray) : List UInt8 := Lib.join (xs.map (·.data.toList)) sep.data.toList
theorem join_den (xs : List ByteArray) (sep : ByteArray) (n : Nat) (full : Bool) (hn : xs.length = n) (hN : n ≤ 1000000) (hlen : (joinS xs sep).length ≤ 140737488355328) :
    DenV Tryz.prog 259 [.c (.sl (xs.map fun s => .v (.string s)) n full), .c (.v (.string sep))] (.c (.v (.string (bsS (joinS xs sep))))) := by
  refine Den.of_below (by kernel_rfl) rfl fun w E vals hs ha hst => ?_
  have h1 := ha 1 _ rfl
  have h0 := ha 0 _ rfl
  rw [show (xs.map fun s => C.v (.string s)) = (xs.map Value.string).map C.v by simp] at h0
  obtain ⟨va, vb, rfl⟩ : ∃ va vb, vals = #[va, vb] := by
    obtain ⟨l⟩ := vals
    match l, hs with
    | [a, b], _ => exact ⟨a, b, rfl⟩
  obtain rfl : vb = .string sep := arg_v h1
  rcases arg_row (by simpa using hn) h0 with ⟨h, e⟩ | ⟨a, cap, e, hcap, hcell⟩
  · simp only [Array.getD_eq_getD_getElem?, List.getElem?_toArray, List.getElem?_cons_zero, Option.getD_some] at e
    subst e
    have : xs = [] := by rw [h] at hn; exact List.length_eq_zero_iff.1 hn
    subst this
    refine (Tryz.strings_Join_none none 0 sep w).mono fun e w' ⟨he, hw⟩ => ⟨?_, hw ▸ Below.refl _ _⟩
    rw [he]
    rfl
  · simp only [Array.getD_eq_getD_getElem?, List.getElem?_toArray, List.getElem?_cons_zero, Option.getD_some] at e
    subst e
    by_cases h : n = 0
    · have : xs = [] := by rw [h] at hn; exact List.length_eq_zero_iff.1 hn
      subst this
      subst h
      refine (Tryz.strings_Join_none (some a) cap sep w).mono fun e w' ⟨he, hw⟩ => ⟨?_, hw ▸ Below.refl _ _⟩
      rw [he]
      rfl
    · obtain ⟨s, hs0⟩ : ∃ s, xs[0]? = some s := ⟨_, List.getElem?_eq_getElem (by omega)⟩
      obtain ⟨hb, hc0⟩ := hcell 0 (.string s) (by simp [hs0])
      have hpl : a = ⟨a.block, a.off, none⟩ := by
        have : a.add 0 = a := by simp [Addr.add]
        rw [this] at hc0
        exact plain_of_cell hc0
      obtain ⟨blk, off, sp⟩ := a
      simp only [Addr.mk.injEq, true_and] at hpl
      subst hpl
      subst hn
      exact (Tryz.strings_Join blk off cap xs sep w (fun j x hx => by
        have := (hcell j (.string x) (by simp [hx])).2
        rwa [add_plain] at this) (hst _ hb) (by omega) hcap hlen).mono fun e w' h => h
theorem bs_toList (l : List UInt8) : (bsS l).toList = l := by rw [toList_data]; rfl
theorem ba_ext {a b : ByteArray} (h : a.data.toList = b.data.toList) : a = b := by
  obtain ⟨a⟩ := a
  obtain ⟨b⟩ := b
  simp only [ByteArray.mk.injEq]
  exact Array.toList_inj.1 h
theorem size_list (s : ByteArray) : s.size = s.data.toList.length := by simp
theorem hash_take (l : List UInt8) (h : l.length = 32) : (l.map bC8).take 32 = l.map bC8 := List.take_of_length_le (by simp [h])
end Go.Av

set_option exponentiation.threshold 1000
set_option linter.unusedVariables false
set_option linter.unusedSimpArgs false
set_option maxRecDepth 100000
set_option maxHeartbeats 4000000
namespace Go.Av
open Go Go.Proofs Go.Proofs.YtocccighdkdljaaGreatDoor Go.RowKit
attribute [local simp] List.getElem?_cons_zero List.getElem?_cons_succ
theorem join_two (a b : ByteArray) : joinS [a, b] ⟨#[]⟩ = a.data.toList ++ b.data.toList := by simp [joinS, Lib.join, List.intercalate]
theorem join_one' (a : ByteArray) : joinS [a] ⟨#[]⟩ = a.data.toList := by simp [joinS, Lib.join, List.intercalate]
theorem text_den (t : UInt8) (xs : List ByteArray) (n : Nat) (full : Bool) (hn : xs.length = n) (hN : n ≤ 1000000) (hl : (joinS xs ⟨#[]⟩).length ≤ 140737488355328) :
    DenV Tryz.prog 223 [.c (.v (.int .u8 (t.toNat : Int))), .c (.sl (xs.map fun s => .v (.string s)) n full)] (.c (.v (.string (bsS (t :: joinS xs ⟨#[]⟩))))) := by
  refine Den.frame rfl rfl ?_
  refine den_of Tryz.func223 rfl rfl (by simp [Tryz.ntmps223]) (fun X hX hO => ?_)
  rw [Tryz.ntmps223] at hX
  simp only [Tryz.results223]
  have h1 : (⟨#[t]⟩ : ByteArray) = bsS [t] := rfl
  have h2 := bs_append [t] (joinS xs ⟨#[]⟩)
  have h3 : 1 + (joinS xs ⟨#[]⟩).length ≤ 9223372036854775807 := by omega
  have h4 : UInt8.ofNat t.toNat = t := by simp
  repeat' (first 
   | (with_reducible first | refine awp_scope ?_ | refine awp_seq ?_ | refine awp_block ?_)
   | ((with_reducible first | refine awp_label ?_ | refine awp_skip ?_ | refine awp_exit ?_); try simp only [thenA, inBlockA, noGotoA, if_true, Nat.reduceEqDiff, if_false, ↓reduceIte])
   | ((with_reducible first | refine awp_reg 11 hX [0, 1, 4] ?_ | refine awp_drw 11 hX [0, 1, 4] Tab.mixed (by kernel_rfl) ?_ | refine DEv_cut _ _ _ _ _ _ _ _ _ _ _ _ (by kernel_rfl) ?_ | change postOf _ _ _ _ _); simp [-List.reduceReplicate, Nat.add_one_le_iff, -getElem?_pos, -getElem?_neg, h1, bs_append, bs_size, h3, h4])
   | ((first | (with_reducible refine awp_ret ?_; try simp only [thenA, inBlockA, noGotoA]) | ((with_reducible refine Den.at_ (f := 259) ?_); refine (join_den xs ⟨#[]⟩ n full hn hN hl _).det ?_) | ((with_reducible refine drawn_at (f := 259) ?_); refine ⟨_, _, join_den xs ⟨#[]⟩ n full hn hN hl _, fun _ => rfl, ?_⟩)); try simp [-List.reduceReplicate, Nat.add_one_le_iff, -getElem?_pos, -getElem?_neg, h1, bs_append, bs_size, h3, h4])
   | (with_reducible refine awp_if_b rfl (fun hc => ?_) (fun hc => ?_) <;> (try simp [-getElem?_pos, -getElem?_neg] at hc) <;> (try (exfalso; omega)))
   | (with_reducible refine And.intro (by omega) ?_)
   | fail)
def leafT (s : ByteArray) : List UInt8 := 0 :: s.data.toList
def headT (s : ByteArray) : List UInt8 := 3 :: s.data.toList
def nodeT (a b : List UInt8) : List UInt8 := 1 :: (a ++ b)
def rootT (n : Nat) (a : List UInt8) : List UInt8 := 2 :: (putN n 8 ++ a)
theorem headerText_den (s : ByteArray) (hs : s.size ≤ 140737488355328) : DenV Tryz.prog 154 [.c (.v (.string s))] (.c (.v (.string (bsS (headT s))))) := by
  refine Den.frame rfl rfl ?_
  refine den_of Tryz.func154 rfl rfl (by simp [Tryz.ntmps154]) (fun X hX hO => ?_)
  rw [Tryz.ntmps154] at hX
  simp only [Tryz.results154]
  have h := text_den 3 [s] 1 true rfl (by omega) (by rw [join_one', ← size_list]; exact hs)
  rw [join_one'] at h
  repeat' (first 
   | (with_reducible first | refine awp_scope ?_ | refine awp_seq ?_ | refine awp_block ?_)
   | ((with_reducible first | refine awp_label ?_ | refine awp_skip ?_ | refine awp_exit ?_); try simp only [thenA, inBlockA, noGotoA, if_true, Nat.reduceEqDiff, if_false, ↓reduceIte])
   | ((with_reducible first | refine awp_reg 6 hX [0, 2] ?_ | change postOf _ _ _ _ _); simp [-List.reduceReplicate, Nat.add_one_le_iff, -getElem?_pos, -getElem?_neg, headT])
   | ((first | (with_reducible refine awp_ret ?_; try simp only [thenA, inBlockA, noGotoA]) | (refine (h _).det ?_)); try simp [-List.reduceReplicate, Nat.add_one_le_iff, -getElem?_pos, -getElem?_neg, headT])
   | (with_reducible refine awp_if_b rfl (fun hc => ?_) (fun hc => ?_) <;> (try simp [-getElem?_pos, -getElem?_neg] at hc) <;> (try (exfalso; omega)))
   | (with_reducible refine And.intro (by omega) ?_)
   | fail)
theorem bs_list (l : List UInt8) : (bsS l).data.toList = l := rfl
theorem rootText_den (n : Nat) (a : List UInt8) (hn : n < 18446744073709551616) (ha : a.length = 32) : DenV Tryz.prog 214 [.c (u64C n), hashM a] (.c (.v (.string (bsS (rootT n a))))) := by
  refine Den.frame (by simp [ltBs, ltB, lt_hash]) rfl ?_
  refine den_of Tryz.func214 rfl rfl (by simp [Tryz.ntmps214]) (fun X hX hO => ?_)
  rw [Tryz.ntmps214] at hX
  simp only [Tryz.results214]
  have h := text_den 2 [bsS (putN n 8), bsS a] 2 true rfl (by omega) (by rw [join_two, bs_list, bs_list]; simp [ha, putN_len])
  rw [join_two, bs_list, bs_list] at h
  have h1 := bytesM_b8 a
  have t1 := hash_take a ha
  repeat' (first 
   | (with_reducible first | refine awp_scope ?_ | refine awp_seq ?_ | refine awp_block ?_)
   | ((with_reducible first | refine awp_label ?_ | refine awp_skip ?_ | refine awp_exit ?_); try simp only [thenA, inBlockA, noGotoA, if_true, Nat.reduceEqDiff, if_false, ↓reduceIte])
   | ((with_reducible first | refine awp_reg 11 hX [0, 3, 4] ?_ | refine awp_drw 11 hX [0, 3, 4] Tab.mixed (by kernel_rfl) ?_ | refine DEv_cut _ _ _ _ _ _ _ _ _ _ _ _ (by kernel_rfl) ?_ | change postOf _ _ _ _ _); simp [-List.reduceReplicate, Nat.add_one_le_iff, -getElem?_pos, -getElem?_neg, hashM, ha, h1, t1, rootT, u64C])
   | ((first | (with_reducible refine awp_ret ?_; try simp only [thenA, inBlockA, noGotoA]) | ((with_reducible refine Den.at_ (f := 156) ?_); refine (put64_den n hn _).det ?_) | ((with_reducible refine drawn_at (f := 156) ?_); refine ⟨_, _, put64_den n hn _, fun _ => rfl, ?_⟩) | (refine (h _).det ?_) | (refine ⟨_, _, h _, fun _ => rfl, ?_⟩)); try simp [-List.reduceReplicate, Nat.add_one_le_iff, -getElem?_pos, -getElem?_neg, hashM, ha, h1, t1, rootT, u64C])
   | (with_reducible refine awp_if_b rfl (fun hc => ?_) (fun hc => ?_) <;> (try simp [-getElem?_pos, -getElem?_neg] at hc) <;> (try (exfalso; omega)))
   | (with_reducible refine And.intro (by omega) ?_)
   | fail)
end Go.Av

set_option exponentiation.threshold 1000
set_option linter.unusedVariables false
set_option linter.unusedSimpArgs false
set_option maxRecDepth 100000
set_option maxHeartbeats 4000000
namespace Go.Av
open Go Go.Proofs Go.Proofs.YtocccighdkdljaaGreatDoor Go.RowKit
attribute [local simp] List.getElem?_cons_zero List.getElem?_cons_succ
def u32C (n : Nat) : C := .v (.int .u32 (n : Int))
theorem put32_den (x : Nat) (hx : x < 4294967296) : DenV Tryz.prog 155 [.c (u32C x)] (.c (.v (.string (bsS (putN x 4))))) := by
  refine Den.frame rfl rfl ?_
  refine den_of Tryz.func155 rfl rfl (by simp [Tryz.ntmps155]) (fun X hX hO => ?_)
  rw [Tryz.ntmps155] at hX
  simp only [Tryz.results155]
  have h := wrapU64 (x : Int) (by omega)
  repeat' (first 
   | (with_reducible first | refine awp_scope ?_ | refine awp_seq ?_ | refine awp_block ?_)
   | ((with_reducible first | refine awp_label ?_ | refine awp_skip ?_ | refine awp_exit ?_); try simp only [thenA, inBlockA, noGotoA, if_true, Nat.reduceEqDiff, if_false, ↓reduceIte])
   | ((with_reducible first | refine awp_reg 6 hX [0, 2] ?_ | change postOf _ _ _ _ _); simp [-List.reduceReplicate, Nat.add_one_le_iff, -getElem?_pos, -getElem?_neg, u32C, u64C, h])
   | ((first | (with_reducible refine awp_ret ?_; try simp only [thenA, inBlockA, noGotoA]) | ((with_reducible refine Den.at_ (f := 224) ?_); refine (put_den x 4 (by omega) (by omega) _).det ?_)); try simp [-List.reduceReplicate, Nat.add_one_le_iff, -getElem?_pos, -getElem?_neg, u32C, u64C, h])
   | (with_reducible refine awp_if_b rfl (fun hc => ?_) (fun hc => ?_) <;> (try simp [-getElem?_pos, -getElem?_neg] at hc) <;> (try (exfalso; omega)))
   | (with_reducible refine And.intro (by omega) ?_)
   | fail)
def byteI (b : ByteArray) (at_ : Int) (i : Nat) : Nat := if 0 ≤ at_ ∧ at_ + i < b.size then (b.data.toList.getD (at_ + i).toNat 0).toNat else 0
theorem byteI_lt (b : ByteArray) (at_ : Int) (i : Nat) : byteI b at_ i < 256 := by
  unfold byteI
  split
  · exact (b.data.toList.getD (at_ + i).toNat 0).toNat_lt
  · omega
def takeN (b : ByteArray) (at_ : Int) : Nat → Nat
  | 0 => 0
  | n + 1 => takeN b at_ n * 256 + byteI b at_ n
theorem takeN_lt (b : ByteArray) (at_ : Int) (n : Nat) : takeN b at_ n < 256 ^ n := by
  induction n with
  | zero => simp [takeN]
  | succ n ih =>
    have := byteI_lt b at_ n
    rw [takeN, Nat.pow_succ]
    omega
theorem takeN_u64 (b : ByteArray) (at_ : Int) (n : Nat) (h : n ≤ 8) : takeN b at_ n < 18446744073709551616 := by
  have h1 := takeN_lt b at_ n
  have h2 : 256 ^ n ≤ 256 ^ 8 := Nat.pow_le_pow_right (by omega) h
  have h3 : 256 ^ 8 = 18446744073709551616 := by decide
  omega
theorem take_den (b : ByteArray) (at_ : Int) (n : Nat) (hat : -9223372036854775808 ≤ at_ ∧ at_ ≤ 9223372036854775807) (hb : b.size ≤ 9223372036854775807) (hn : n ≤ 8) : DenV Tryz.prog 219 [.c (.v (.string b)), .c (iC at_), .c (iC n)] (.c (u64C (takeN b at_ n))) := by
  refine Den.frame rfl rfl ?_
  refine den_of Tryz.func219 rfl rfl (by simp [Tryz.ntmps219]) (fun X hX hO => ?_)
  rw [Tryz.ntmps219] at hX
  simp only [Tryz.results219]
  repeat' (first 
   | (with_reducible first | refine awp_scope ?_ | refine awp_seq ?_ | refine awp_block ?_)
   | ((with_reducible first | refine awp_label ?_ | refine awp_skip ?_ | refine awp_exit ?_ | refine hother _ _ rfl ?_); try simp only [thenA, inBlockA, noGotoA, if_true, Nat.reduceEqDiff, if_false, ↓reduceIte])
   | ((with_reducible first | refine awp_reg 41 hX [0, 1, 2, 6, 7, 8, 9, 10, 11, 30] ?_ | change postOf _ _ _ _ _); simp [-List.reduceReplicate, Nat.add_one_le_iff, -getElem?_pos, -getElem?_neg, u64C, iC])
   | ((first | (with_reducible refine awp_ret ?_; try simp only [thenA, inBlockA, noGotoA])); try simp [-List.reduceReplicate, Nat.add_one_le_iff, -getElem?_pos, -getElem?_neg, u64C, iC])
   | (with_reducible refine awp_if_b rfl (fun hc => ?_) (fun hc => ?_) <;> (try simp [-getElem?_pos, -getElem?_neg] at hc) <;> (try (exfalso; omega)))
   | ((with_reducible first | refine GuardK_b (fun hc => ?_) (fun hc => ?_)) <;> (try simp only [Bool.not_eq_true', Bool.not_eq_false', decide_eq_true_eq, decide_eq_false_iff_not] at hc) <;> (first | (exfalso; omega) | skip) <;> simp [-List.reduceReplicate, Nat.add_one_le_iff, -getElem?_pos, -getElem?_neg, u64C, iC, hc])
   | (with_reducible refine And.intro (by omega) ?_)
   | fail)
  refine awp_forU [0, 1, 7, 9, 10] (fun i (_u : Unit) => [(7, .c (u64C (takeN b at_ i))), (10, .c (iC i))]) (fun i (_u : Unit) => []) (fun i (_u : Unit) => True) (n) (()) (by first | trivial | (simp; done) | omega | (intros; simp at *; done)) (by simp [-List.reduceReplicate, keep, u64C, iC, takeN]) (by simp [-List.reduceReplicate, u64C, iC, takeN]) ?_
  rintro i _u Q1 hi hH next hother
  conv => arg 5; arg 1; simp only [List.cons_append, List.nil_append, keep, get, Nat.reduceEqDiff, if_true, if_false, ↓reduceIte]
  have hwi := wrap_in ((i : Int) + 1) (by omega)
  by_cases hlt : i < n
  · have h1 := takeN_u64 b at_ i (by omega)
    have h2 := takeN_u64 b at_ (i + 1) (by omega)
    have hbl := byteI_lt b at_ i
    have hst : takeN b at_ (i + 1) = takeN b at_ i * 256 + byteI b at_ i := rfl
    have hw : IntKind.u64.wrap (((takeN b at_ i : Nat) : Int) * 256) = ((takeN b at_ i * 256 : Nat) : Int) := (wrapU64 _ (by omega)).trans (by omega)
    have hor := orU .u64 (takeN b at_ i * 256) (byteI b at_ i) (by show _ < 2 ^ 64; omega) (by show _ < 2 ^ 64; omega) rfl
    rw [or_byte _ _ hbl, ← hst, show ((takeN b at_ i * 256 : Nat) : Int) = (takeN b at_ i : Int) * 256 by omega] at hor
    by_cases c1 : 0 ≤ at_
    · by_cases c2 : at_ < b.size
      · have w1 := wrap_in ((b.size : Int) - at_) (by omega)
        by_cases c3 : (i : Int) < (b.size : Int) - at_
        · have hby : byteI b at_ i = (b.toList.getD (at_ + i).toNat 0).toNat := by unfold byteI; rw [if_pos ⟨c1, by omega⟩, toList_data]
          have w2 := wrap_in (at_ + (i : Int)) (by omega)
          have hbi : byteAt b (at_ + i).toNat = (byteI b at_ i : Int) := by unfold byteAt; rw [hby]
          have w3 := wrapU64 ((byteI b at_ i : Nat) : Int) (by omega)
          have c4 : 0 ≤ at_ + (i : Int) := by omega
          have c5 : at_ + (i : Int) < b.size := by omega
          repeat' (first 
           | (with_reducible first | refine awp_scope ?_ | refine awp_seq ?_ | refine awp_block ?_)
           | ((with_reducible first | refine awp_label ?_ | refine awp_skip ?_ | refine awp_exit ?_ | refine hother _ _ rfl ?_); try simp only [thenA, inBlockA, noGotoA, if_true, Nat.reduceEqDiff, if_false, ↓reduceIte])
           | ((with_reducible first | refine awp_reg 41 hX [0, 1, 2, 6, 7, 8, 9, 10, 11, 30] ?_ | change postOf _ _ _ _ _); simp [-List.reduceReplicate, Nat.add_one_le_iff, -getElem?_pos, -getElem?_neg, u64C, iC, hlt, hwi, hw, c1, c2, c3, c4, c5, w1, w2, w3, hbi, hor, IntKind.bits])
           | ((first | (with_reducible refine awp_ret ?_; try simp only [thenA, inBlockA, noGotoA])); try simp [-List.reduceReplicate, Nat.add_one_le_iff, -getElem?_pos, -getElem?_neg, u64C, iC, hlt, hwi, hw, c1, c2, c3, c4, c5, w1, w2, w3, hbi, hor, IntKind.bits])
           | (with_reducible refine awp_if_b rfl (fun hc => ?_) (fun hc => ?_) <;> (try simp [-getElem?_pos, -getElem?_neg] at hc) <;> (try (exfalso; omega)))
           | ((with_reducible first | refine GuardK_b (fun hc => ?_) (fun hc => ?_)) <;> (try simp only [Bool.not_eq_true', Bool.not_eq_false', decide_eq_true_eq, decide_eq_false_iff_not] at hc) <;> (first | (exfalso; omega) | skip) <;> simp [-List.reduceReplicate, Nat.add_one_le_iff, -getElem?_pos, -getElem?_neg, u64C, iC, hlt, hwi, hw, c1, c2, c3, c4, c5, w1, w2, w3, hbi, hor, IntKind.bits, hc])
           | (with_reducible refine And.intro (by omega) ?_)
           | fail)
          refine next _ _ (()) (by omega) (by first | trivial | omega | assumption) (by simp [-List.reduceReplicate, keep, u64C, iC]) (by simp [-List.reduceReplicate, u64C, iC])
        · have hz : byteI b at_ i = 0 := by unfold byteI; rw [if_neg (by omega)]
          repeat' (first 
           | (with_reducible first | refine awp_scope ?_ | refine awp_seq ?_ | refine awp_block ?_)
           | ((with_reducible first | refine awp_label ?_ | refine awp_skip ?_ | refine awp_exit ?_ | refine hother _ _ rfl ?_); try simp only [thenA, inBlockA, noGotoA, if_true, Nat.reduceEqDiff, if_false, ↓reduceIte])
           | ((with_reducible first | refine awp_reg 41 hX [0, 1, 2, 6, 7, 8, 9, 10, 11, 30] ?_ | change postOf _ _ _ _ _); simp [-List.reduceReplicate, Nat.add_one_le_iff, -getElem?_pos, -getElem?_neg, u64C, iC, hlt, hwi, hw, c1, c2, c3, w1, IntKind.bits])
           | ((first | (with_reducible refine awp_ret ?_; try simp only [thenA, inBlockA, noGotoA])); try simp [-List.reduceReplicate, Nat.add_one_le_iff, -getElem?_pos, -getElem?_neg, u64C, iC, hlt, hwi, hw, c1, c2, c3, w1, IntKind.bits])
           | (with_reducible refine awp_if_b rfl (fun hc => ?_) (fun hc => ?_) <;> (try simp [-getElem?_pos, -getElem?_neg] at hc) <;> (try (exfalso; omega)))
           | ((with_reducible first | refine GuardK_b (fun hc => ?_) (fun hc => ?_)) <;> (try simp only [Bool.not_eq_true', Bool.not_eq_false', decide_eq_true_eq, decide_eq_false_iff_not] at hc) <;> (first | (exfalso; omega) | skip) <;> simp [-List.reduceReplicate, Nat.add_one_le_iff, -getElem?_pos, -getElem?_neg, u64C, iC, hlt, hwi, hw, c1, c2, c3, w1, IntKind.bits, hc])
           | (with_reducible refine And.intro (by omega) ?_)
           | fail)
          refine next _ _ (()) (by omega) (by first | trivial | omega | assumption) (by simp [-List.reduceReplicate, keep, u64C, iC, takeN, hz]) (by simp [-List.reduceReplicate, u64C, iC, takeN, hz])
      · have hz : byteI b at_ i = 0 := by unfold byteI; rw [if_neg (by omega)]
        repeat' (first 
         | (with_reducible first | refine awp_scope ?_ | refine awp_seq ?_ | refine awp_block ?_)
         | ((with_reducible first | refine awp_label ?_ | refine awp_skip ?_ | refine awp_exit ?_ | refine hother _ _ rfl ?_); try simp only [thenA, inBlockA, noGotoA, if_true, Nat.reduceEqDiff, if_false, ↓reduceIte])
         | ((with_reducible first | refine awp_reg 41 hX [0, 1, 2, 6, 7, 8, 9, 10, 11, 30] ?_ | change postOf _ _ _ _ _); simp [-List.reduceReplicate, Nat.add_one_le_iff, -getElem?_pos, -getElem?_neg, u64C, iC, hlt, hwi, hw, c1, c2, IntKind.bits])
         | ((first | (with_reducible refine awp_ret ?_; try simp only [thenA, inBlockA, noGotoA])); try simp [-List.reduceReplicate, Nat.add_one_le_iff, -getElem?_pos, -getElem?_neg, u64C, iC, hlt, hwi, hw, c1, c2, IntKind.bits])
         | (with_reducible refine awp_if_b rfl (fun hc => ?_) (fun hc => ?_) <;> (try simp [-getElem?_pos, -getElem?_neg] at hc) <;> (try (exfalso; omega)))
         | ((with_reducible first | refine GuardK_b (fun hc => ?_) (fun hc => ?_)) <;> (try simp only [Bool.not_eq_true', Bool.not_eq_false', decide_eq_true_eq, decide_eq_false_iff_not] at hc) <;> (first | (exfalso; omega) | skip) <;> simp [-List.reduceReplicate, Nat.add_one_le_iff, -getElem?_pos, -getElem?_neg, u64C, iC, hlt, hwi, hw, c1, c2, IntKind.bits, hc])
         | (with_reducible refine And.intro (by omega) ?_)
         | fail)
        refine next _ _ (()) (by omega) (by first | trivial | omega | assumption) (by simp [-List.reduceReplicate, keep, u64C, iC, takeN, hz]) (by simp [-List.reduceReplicate, u64C, iC, takeN, hz])
    · have hz : byteI b at_ i = 0 := by unfold byteI; rw [if_neg (by omega)]
      repeat' (first 
       | (with_reducible first | refine awp_scope ?_ | refine awp_seq ?_ | refine awp_block ?_)
       | ((with_reducible first | refine awp_label ?_ | refine awp_skip ?_ | refine awp_exit ?_ | refine hother _ _ rfl ?_); try simp only [thenA, inBlockA, noGotoA, if_true, Nat.reduceEqDiff, if_false, ↓reduceIte])
       | ((with_reducible first | refine awp_reg 41 hX [0, 1, 2, 6, 7, 8, 9, 10, 11, 30] ?_ | change postOf _ _ _ _ _); simp [-List.reduceReplicate, Nat.add_one_le_iff, -getElem?_pos, -getElem?_neg, u64C, iC, hlt, hwi, hw, c1, IntKind.bits])
       | ((first | (with_reducible refine awp_ret ?_; try simp only [thenA, inBlockA, noGotoA])); try simp [-List.reduceReplicate, Nat.add_one_le_iff, -getElem?_pos, -getElem?_neg, u64C, iC, hlt, hwi, hw, c1, IntKind.bits])
       | (with_reducible refine awp_if_b rfl (fun hc => ?_) (fun hc => ?_) <;> (try simp [-getElem?_pos, -getElem?_neg] at hc) <;> (try (exfalso; omega)))
       | ((with_reducible first | refine GuardK_b (fun hc => ?_) (fun hc => ?_)) <;> (try simp only [Bool.not_eq_true', Bool.not_eq_false', decide_eq_true_eq, decide_eq_false_iff_not] at hc) <;> (first | (exfalso; omega) | skip) <;> simp [-List.reduceReplicate, Nat.add_one_le_iff, -getElem?_pos, -getElem?_neg, u64C, iC, hlt, hwi, hw, c1, IntKind.bits, hc])
       | (with_reducible refine And.intro (by omega) ?_)
       | fail)
      refine next _ _ (()) (by omega) (by first | trivial | omega | assumption) (by simp [-List.reduceReplicate, keep, u64C, iC, takeN, hz]) (by simp [-List.reduceReplicate, u64C, iC, takeN, hz])
  · have hin : i = n := by omega
    subst hin
    repeat' (first 
     | (with_reducible first | refine awp_scope ?_ | refine awp_seq ?_ | refine awp_block ?_)
     | ((with_reducible first | refine awp_label ?_ | refine awp_skip ?_ | refine awp_exit ?_ | refine hother _ _ rfl ?_); try simp only [thenA, inBlockA, noGotoA, if_true, Nat.reduceEqDiff, if_false, ↓reduceIte])
     | ((with_reducible first | refine awp_reg 41 hX [0, 1, 2, 6, 7, 8, 9, 10, 11, 30] ?_ | change postOf _ _ _ _ _); simp [-List.reduceReplicate, Nat.add_one_le_iff, -getElem?_pos, -getElem?_neg, u64C, iC, hlt])
     | ((first | (with_reducible refine awp_ret ?_; try simp only [thenA, inBlockA, noGotoA])); try simp [-List.reduceReplicate, Nat.add_one_le_iff, -getElem?_pos, -getElem?_neg, u64C, iC, hlt])
     | (with_reducible refine awp_if_b rfl (fun hc => ?_) (fun hc => ?_) <;> (try simp [-getElem?_pos, -getElem?_neg] at hc) <;> (try (exfalso; omega)))
     | ((with_reducible first | refine GuardK_b (fun hc => ?_) (fun hc => ?_)) <;> (try simp only [Bool.not_eq_true', Bool.not_eq_false', decide_eq_true_eq, decide_eq_false_iff_not] at hc) <;> (first | (exfalso; omega) | skip) <;> simp [-List.reduceReplicate, Nat.add_one_le_iff, -getElem?_pos, -getElem?_neg, u64C, iC, hlt, hc])
     | (with_reducible refine And.intro (by omega) ?_)
     | fail)
theorem take32_den (b : ByteArray) (at_ : Int) (hat : -9223372036854775808 ≤ at_ ∧ at_ ≤ 9223372036854775807) (hb : b.size ≤ 9223372036854775807) : DenV Tryz.prog 260 [.c (.v (.string b)), .c (iC at_)] (.c (u32C (takeN b at_ 4))) := by
  refine Den.frame rfl rfl ?_
  refine den_of Tryz.func260 rfl rfl (by simp [Tryz.ntmps260]) (fun X hX hO => ?_)
  rw [Tryz.ntmps260] at hX
  simp only [Tryz.results260]
  have h1 := takeN_lt b at_ 4
  have h := wrapU32 (takeN b at_ 4 : Int) (by omega)
  repeat' (first 
   | (with_reducible first | refine awp_scope ?_ | refine awp_seq ?_ | refine awp_block ?_)
   | ((with_reducible first | refine awp_label ?_ | refine awp_skip ?_ | refine awp_exit ?_); try simp only [thenA, inBlockA, noGotoA, if_true, Nat.reduceEqDiff, if_false, ↓reduceIte])
   | ((with_reducible first | refine awp_reg 9 hX [0, 1, 4] ?_ | change postOf _ _ _ _ _); simp [-List.reduceReplicate, Nat.add_one_le_iff, -getElem?_pos, -getElem?_neg, u32C, u64C, iC, h])
   | ((first | (with_reducible refine awp_ret ?_; try simp only [thenA, inBlockA, noGotoA]) | ((with_reducible refine Den.at_ (f := 219) ?_); refine (take_den b at_ 4 hat hb (by omega) _).det ?_)); try simp [-List.reduceReplicate, Nat.add_one_le_iff, -getElem?_pos, -getElem?_neg, u32C, u64C, iC, h])
   | (with_reducible refine awp_if_b rfl (fun hc => ?_) (fun hc => ?_) <;> (try simp [-getElem?_pos, -getElem?_neg] at hc) <;> (try (exfalso; omega)))
   | (with_reducible refine And.intro (by omega) ?_)
   | fail)
end Go.Av

set_option exponentiation.threshold 1000
set_option linter.unusedVariables false
set_option linter.unusedSimpArgs false
set_option maxRecDepth 100000
set_option maxHeartbeats 4000000
namespace Go.Av
open Go Go.Proofs Go.Proofs.YtocccighdkdljaaGreatDoor Go.RowKit
attribute [local simp] List.getElem?_cons_zero List.getElem?_cons_succ
abbrev W := BitVec 32
def rotr (x : W) (n : Nat) : W := (x >>> n) ||| (x <<< (32 - n))
theorem rot_den (x : W) (n : Nat) (hn : n < 32) : DenV Tryz.prog 277 [.c (wC x), .c (iC n)] (.c (wC (rotr x n))) := by
  refine Den.frame rfl rfl ?_
  refine den_of Tryz.func277 rfl rfl (by simp [Tryz.ntmps277]) (fun X hX hO => ?_)
  rw [Tryz.ntmps277] at hX
  simp only [Tryz.results277]
  have h1 := wrapU64 (n : Int) (by omega)
  have h2 := andN .u64 n 31 (by show n < 2 ^ 64; omega) (by decide) (fun h => by simp [IntKind.signed] at h)
  have h3 : n &&& 31 = n := by
    have := Nat.and_two_pow_sub_one_eq_mod n 5
    simp at this
    rw [this]
    omega
  rw [h3] at h2
  have h4 : IntKind.u64.wrap (32 - (n : Int)) = ((32 - n : Nat) : Int) := (wrapU64 _ (by omega)).trans (by omega)
  have h5 : min n 32 = n := by omega
  have h6 : min (32 - n) 32 = 32 - n := by omega
  have h10 : ¬ ((32 - n : Nat) : Int) < 0 := by omega
  have h11 : ¬ (n : Int) < 0 := by omega
  have hr : rotr x n = (x >>> n) ||| (x <<< (32 - n)) := rfl
  generalize hk : 32 - n = k at *
  have h2' : andI IntKind.u64 (n : Int) 31 = (n : Int) := h2
  repeat' (first 
   | (with_reducible first | refine awp_scope ?_ | refine awp_seq ?_ | refine awp_block ?_)
   | ((with_reducible first | refine awp_label ?_ | refine awp_skip ?_ | refine awp_exit ?_); try simp only [thenA, inBlockA, noGotoA, if_true, Nat.reduceEqDiff, if_false, ↓reduceIte])
   | ((with_reducible first | refine awp_reg 17 hX [0, 1, 4, 5] ?_ | change postOf _ _ _ _ _); simp [-List.reduceReplicate, Nat.add_one_le_iff, -getElem?_pos, -getElem?_neg, wC, iC, h1, h2', h4, h5, h6, wI_shr, wI_shr', wI_shl, wI_or, h10, h11, IntKind.bits, hr])
   | ((first | (with_reducible refine awp_ret ?_; try simp only [thenA, inBlockA, noGotoA])); try simp [-List.reduceReplicate, Nat.add_one_le_iff, -getElem?_pos, -getElem?_neg, wC, iC, h1, h2', h4, h5, h6, wI_shr, wI_shr', wI_shl, wI_or, h10, h11, IntKind.bits, hr])
   | (with_reducible refine awp_if_b rfl (fun hc => ?_) (fun hc => ?_) <;> (try simp [-getElem?_pos, -getElem?_neg] at hc) <;> (try (exfalso; omega)))
   | (with_reducible refine And.intro (by omega) ?_)
   | fail)
def g0 (x : W) : W := rotr x 7 ^^^ rotr x 18 ^^^ (x >>> 3)
def g1 (x : W) : W := rotr x 17 ^^^ rotr x 19 ^^^ (x >>> 10)
def spStep (b : ByteArray) (l : List W) : W :=
  if l.length < 16 then BitVec.ofNat 32 (takeN b (4 * l.length : Nat) 4) else l.getD (l.length - 16) 0 + g0 (l.getD (l.length - 15) 0) + l.getD (l.length - 7) 0 + g1 (l.getD (l.length - 2) 0)
def spTo (b : ByteArray) : Nat → List W
  | 0 => []
  | n + 1 => spTo b n ++ [spStep b (spTo b n)]
theorem spTo_len (b : ByteArray) (n : Nat) : (spTo b n).length = n := by
  induction n with
  | zero => rfl
  | succ n ih => rw [spTo, List.length_append, ih]; rfl
def spread (b : ByteArray) : List W := spTo b 64
def spRow (b : ByteArray) (i : Nat) : List C := ((spTo b i) ++ List.replicate (64 - i) 0).map wC
theorem spRow_len (b : ByteArray) (i : Nat) (h : i ≤ 64) : (spRow b i).length = 64 := by simp [spRow, spTo_len]; omega
theorem spRow_get (b : ByteArray) (i j : Nat) (h : j < i) : (spRow b i)[j]? = some (wC ((spTo b i).getD j 0)) := by
  have hl := spTo_len b i
  unfold spRow
  rw [List.getElem?_map, List.getElem?_append_left (by omega), List.getD_eq_getElem?_getD, List.getElem?_eq_getElem (by omega)]
  rfl
theorem spRow_set (b : ByteArray) (i : Nat) (h : i < 64) : (spRow b i).set i (wC (spStep b (spTo b i))) = spRow b (i + 1) := by
  have hl := spTo_len b i
  unfold spRow
  rw [← List.map_set, show 64 - i = (64 - (i + 1)) + 1 by omega, List.replicate_succ, List.set_append_right _ _ (by omega), hl, show i - i = 0 by omega, spTo]
  simp
theorem spRow_zero (b : ByteArray) : List.replicate 64 (C.v (.int .u32 0)) = spRow b 0 := by
  unfold spRow
  rw [spTo, List.nil_append, List.map_replicate]
  rfl
theorem fd8 (x : W) : (wI x).fdiv 8 = wI (x >>> 3) := wI_shr x 3
theorem fd1024 (x : W) : (wI x).fdiv 1024 = wI (x >>> 10) := wI_shr x 10
theorem ofNat32 (n : Nat) (h : n < 4294967296) : ((BitVec.ofNat 32 n).toNat : Int) = (n : Int) := by rw [BitVec.toNat_ofNat]; omega
theorem take4_lt (b : ByteArray) (a : Int) : takeN b a 4 < 4294967296 := by have := takeN_lt b a 4; omega
theorem spread_den (b : ByteArray) (hb : b.size ≤ 9223372036854775807) : DenV Tryz.prog 275 [.c (.v (.string b))] (.agg (up ((spread b).map wC))) := by
  refine Den.frame rfl (by simp [ltB]) ?_
  refine den_of Tryz.func275 rfl rfl (by simp [Tryz.ntmps275]) (fun X hX hO => ?_)
  rw [Tryz.ntmps275] at hX
  simp only [Tryz.results275]
  repeat' (first 
   | (with_reducible first | refine awp_scope ?_ | refine awp_seq ?_ | refine awp_block ?_)
   | ((with_reducible first | refine awp_label ?_ | refine awp_skip ?_ | refine awp_exit ?_ | refine hother _ _ rfl ?_); try simp only [thenA, inBlockA, noGotoA, if_true, Nat.reduceEqDiff, if_false, ↓reduceIte])
   | ((with_reducible first | refine awp_reg 61 hX [0, 2, 3, 4, 5, 6, 7, 8, 9, 10, 13] ?_ | refine awp_drw 61 hX [0, 2, 3, 4, 5, 6, 7, 8, 9, 10, 13] Tab.mixed (by kernel_rfl) ?_ | refine DEv_cut _ _ _ _ _ _ _ _ _ _ _ _ (by kernel_rfl) ?_ | change postOf _ _ _ _ _); simp [-List.reduceReplicate, Nat.add_one_le_iff, -getElem?_pos, -getElem?_neg, spRow_zero b])
   | ((first | (with_reducible refine awp_ret ?_; try simp only [thenA, inBlockA, noGotoA])); try simp [-List.reduceReplicate, Nat.add_one_le_iff, -getElem?_pos, -getElem?_neg, spRow_zero b])
   | (with_reducible refine awp_if_b rfl (fun hc => ?_) (fun hc => ?_) <;> (try simp [-getElem?_pos, -getElem?_neg] at hc) <;> (try (exfalso; omega)))
   | (with_reducible refine And.intro (by omega) ?_)
   | fail)
  refine awp_forU [0, 2, 3, 9] (fun i (_u : Unit) => [(9, .c (iC i))]) (fun i (_u : Unit) => [⟨306, 1, false, 0, up (List.replicate 64 (.v (.int .u32 0))), none⟩, ⟨306, 1, false, 0, up (spRow b i), none⟩]) (fun i (_u : Unit) => True) (64) (()) (by first | trivial | (simp; done) | omega | (intros; simp at *; done)) (by simp [-List.reduceReplicate, keep, iC, spRow_zero b]) (by simp [-List.reduceReplicate, iC, spRow_zero b]) ?_
  rintro i _u Q1 hi hH next hother
  conv => arg 5; arg 1; simp only [List.cons_append, List.nil_append, keep, get, Nat.reduceEqDiff, if_true, if_false, ↓reduceIte]
  have hwi := wrap_in ((i : Int) + 1) (by omega)
  have hlen := spRow_len b i hi
  by_cases hlt : i < 64
  · have hset := spRow_set b i hlt
    have hl := spTo_len b i
    by_cases h16 : i < 16
    · have hw4 := wrap_in (4 * (i : Int)) (by omega)
      have hst : spStep b (spTo b i) = BitVec.ofNat 32 (takeN b (4 * (i : Int)) 4) := by unfold spStep; rw [hl, if_pos h16, Int.natCast_mul]; rfl
      have hx : wC (spStep b (spTo b i)) = .v (.int .u32 (takeN b (4 * (i : Int)) 4 : Int)) := by unfold wC wI; rw [hst, ofNat32 _ (take4_lt _ _)]
      rw [hx] at hset
      generalize spRow b i = r0 at *
      repeat' (first 
       | (with_reducible first | refine awp_scope ?_ | refine awp_seq ?_ | refine awp_block ?_)
       | ((with_reducible first | refine awp_label ?_ | refine awp_skip ?_ | refine awp_exit ?_ | refine hother _ _ rfl ?_); try simp only [thenA, inBlockA, noGotoA, if_true, Nat.reduceEqDiff, if_false, ↓reduceIte])
       | ((with_reducible first | refine awp_reg 61 hX [0, 2, 3, 4, 5, 6, 7, 8, 9, 10, 13] ?_ | refine awp_drw 61 hX [0, 2, 3, 4, 5, 6, 7, 8, 9, 10, 13] Tab.mixed (by kernel_rfl) ?_ | refine DEv_cut _ _ _ _ _ _ _ _ _ _ _ _ (by kernel_rfl) ?_ | change postOf _ _ _ _ _); simp [-List.reduceReplicate, Nat.add_one_le_iff, -getElem?_pos, -getElem?_neg, iC, hlt, h16, hwi, hw4, u32C, hlen])
       | ((first | (with_reducible refine awp_ret ?_; try simp only [thenA, inBlockA, noGotoA]) | ((with_reducible refine Den.at_ (f := 260) ?_); refine (take32_den b (4 * (i : Int)) (by omega) hb _).det ?_) | ((with_reducible refine drawn_at (f := 260) ?_); refine ⟨_, _, take32_den b (4 * (i : Int)) (by omega) hb _, fun _ => rfl, ?_⟩)); try simp [-List.reduceReplicate, Nat.add_one_le_iff, -getElem?_pos, -getElem?_neg, iC, hlt, h16, hwi, hw4, u32C, hlen])
       | (with_reducible refine awp_if_b rfl (fun hc => ?_) (fun hc => ?_) <;> (try simp [-getElem?_pos, -getElem?_neg] at hc) <;> (try (exfalso; omega)))
       | (with_reducible refine And.intro (by omega) ?_)
       | fail)
      refine next _ _ (()) (by omega) (by first | trivial | omega | assumption) (by simp [-List.reduceReplicate, keep, iC, ← hset]) (by simp [-List.reduceReplicate, iC, ← hset])
    · have i1 := wrap_in ((i : Int) - 15) (by omega)
      have i2 := wrap_in ((i : Int) - 2) (by omega)
      have i3 := wrap_in ((i : Int) - 16) (by omega)
      have i4 := wrap_in ((i : Int) - 7) (by omega)
      have j1 : ((i : Int) - 15).toNat = i - 15 := by omega
      have j2 : ((i : Int) - 2).toNat = i - 2 := by omega
      have j3 : ((i : Int) - 16).toNat = i - 16 := by omega
      have j4 : ((i : Int) - 7).toNat = i - 7 := by omega
      have k1 : 15 ≤ (i : Int) := by omega
      have k2 : 2 ≤ (i : Int) := by omega
      have k3 : 16 ≤ (i : Int) := by omega
      have k4 : 7 ≤ (i : Int) := by omega
      have m1 : (i : Int) - 15 < 64 := by omega
      have m2 : (i : Int) - 2 < 64 := by omega
      have m3 : (i : Int) - 16 < 64 := by omega
      have m4 : (i : Int) - 7 < 64 := by omega
      have n1 := spRow_get b i (i - 15) (by omega)
      have n2 := spRow_get b i (i - 2) (by omega)
      have n3 := spRow_get b i (i - 16) (by omega)
      have n4 := spRow_get b i (i - 7) (by omega)
      have hst : spStep b (spTo b i) = (spTo b i).getD (i - 16) 0 + g0 ((spTo b i).getD (i - 15) 0) + (spTo b i).getD (i - 7) 0 + g1 ((spTo b i).getD (i - 2) 0) := by unfold spStep; rw [hl, if_neg h16]
      rw [hst] at hset
      unfold g0 g1 at hset
      generalize (spTo b i).getD (i - 16) 0 = x16 at *
      generalize (spTo b i).getD (i - 15) 0 = x15 at *
      generalize (spTo b i).getD (i - 7) 0 = x7 at *
      generalize (spTo b i).getD (i - 2) 0 = x2 at *
      generalize spRow b i = r0 at *
      repeat' (first 
       | (with_reducible first | refine awp_scope ?_ | refine awp_seq ?_ | refine awp_block ?_)
       | ((with_reducible first | refine awp_label ?_ | refine awp_skip ?_ | refine awp_exit ?_ | refine hother _ _ rfl ?_); try simp only [thenA, inBlockA, noGotoA, if_true, Nat.reduceEqDiff, if_false, ↓reduceIte])
       | ((with_reducible first | refine awp_reg 61 hX [0, 2, 3, 4, 5, 6, 7, 8, 9, 10, 13] ?_ | refine awp_drw 61 hX [0, 2, 3, 4, 5, 6, 7, 8, 9, 10, 13] Tab.mixed (by kernel_rfl) ?_ | refine DEv_cut _ _ _ _ _ _ _ _ _ _ _ _ (by kernel_rfl) ?_ | change postOf _ _ _ _ _); simp [-List.reduceReplicate, Nat.add_one_le_iff, -getElem?_pos, -getElem?_neg, iC, hlt, h16, hwi, i1, i2, i3, i4, j1, j2, j3, j4, k1, k2, k3, k4, m1, m2, m3, m4, n1, n2, n3, n4, hlen, wC, wI_shr, wI_shr', wI_xor, wI_add, fd8, fd1024, IntKind.bits])
       | ((first | (with_reducible refine awp_ret ?_; try simp only [thenA, inBlockA, noGotoA]) | ((with_reducible refine Den.at_ (f := 277) ?_); refine (rot_den _ 7 (by omega) _).det ?_) | ((with_reducible refine drawn_at (f := 277) ?_); refine ⟨_, _, rot_den _ 7 (by omega) _, fun _ => rfl, ?_⟩) | ((with_reducible refine Den.at_ (f := 277) ?_); refine (rot_den _ 18 (by omega) _).det ?_) | ((with_reducible refine drawn_at (f := 277) ?_); refine ⟨_, _, rot_den _ 18 (by omega) _, fun _ => rfl, ?_⟩) | ((with_reducible refine Den.at_ (f := 277) ?_); refine (rot_den _ 17 (by omega) _).det ?_) | ((with_reducible refine drawn_at (f := 277) ?_); refine ⟨_, _, rot_den _ 17 (by omega) _, fun _ => rfl, ?_⟩) | ((with_reducible refine Den.at_ (f := 277) ?_); refine (rot_den _ 19 (by omega) _).det ?_) | ((with_reducible refine drawn_at (f := 277) ?_); refine ⟨_, _, rot_den _ 19 (by omega) _, fun _ => rfl, ?_⟩)); try simp [-List.reduceReplicate, Nat.add_one_le_iff, -getElem?_pos, -getElem?_neg, iC, hlt, h16, hwi, i1, i2, i3, i4, j1, j2, j3, j4, k1, k2, k3, k4, m1, m2, m3, m4, n1, n2, n3, n4, hlen, wC, wI_shr, wI_shr', wI_xor, wI_add, fd8, fd1024, IntKind.bits])
       | (with_reducible refine awp_if_b rfl (fun hc => ?_) (fun hc => ?_) <;> (try simp [-getElem?_pos, -getElem?_neg] at hc) <;> (try (exfalso; omega)))
       | (with_reducible refine And.intro (by omega) ?_)
       | fail)
      refine next _ _ (()) (by omega) (by first | trivial | omega | assumption) (by simp [-List.reduceReplicate, keep, iC, ← hset, wC]) (by simp [-List.reduceReplicate, iC, ← hset, wC])
  · have h64 : i = 64 := by omega
    subst h64
    have hfin : spRow b 64 = (spread b).map wC := by unfold spRow spread; simp
    rw [hfin] at hlen
    have htk : ((spread b).map wC).take 64 = (spread b).map wC := List.take_of_length_le (by omega)
    rw [hfin]
    repeat' (first 
     | (with_reducible first | refine awp_scope ?_ | refine awp_seq ?_ | refine awp_block ?_)
     | ((with_reducible first | refine awp_label ?_ | refine awp_skip ?_ | refine awp_exit ?_ | refine hother _ _ rfl ?_); try simp only [thenA, inBlockA, noGotoA, if_true, Nat.reduceEqDiff, if_false, ↓reduceIte])
     | ((with_reducible first | refine awp_reg 61 hX [0, 2, 3, 4, 5, 6, 7, 8, 9, 10, 13] ?_ | refine awp_drw 61 hX [0, 2, 3, 4, 5, 6, 7, 8, 9, 10, 13] Tab.mixed (by kernel_rfl) ?_ | refine DEv_cut _ _ _ _ _ _ _ _ _ _ _ _ (by kernel_rfl) ?_ | change postOf _ _ _ _ _); simp [-List.reduceReplicate, Nat.add_one_le_iff, -getElem?_pos, -getElem?_neg, iC, hlen, htk])
     | ((first | (with_reducible refine awp_ret ?_; try simp only [thenA, inBlockA, noGotoA])); try simp [-List.reduceReplicate, Nat.add_one_le_iff, -getElem?_pos, -getElem?_neg, iC, hlen, htk])
     | (with_reducible refine awp_if_b rfl (fun hc => ?_) (fun hc => ?_) <;> (try simp [-getElem?_pos, -getElem?_neg] at hc) <;> (try (exfalso; omega)))
     | (with_reducible refine And.intro (by omega) ?_)
     | fail)
end Go.Av

set_option exponentiation.threshold 1000
set_option linter.unusedVariables false
set_option linter.unusedSimpArgs false
set_option maxRecDepth 100000
set_option maxHeartbeats 4000000
namespace Go.Av
open Go Go.Proofs Go.Proofs.YtocccighdkdljaaGreatDoor Go.RowKit
attribute [local simp] List.getElem?_cons_zero List.getElem?_cons_succ
def kK : List W := [1116352408, 1899447441, 3049323471, 3921009573, 961987163, 1508970993, 2453635748, 2870763221, 3624381080, 310598401, 607225278, 1426881987, 1925078388, 2162078206, 2614888103, 3248222580, 3835390401, 4022224774, 264347078, 604807628, 770255983, 1249150122, 1555081692, 1996064986, 2554220882, 2821834349, 2952996808, 3210313671, 3336571891, 3584528711, 113926993, 338241895, 666307205, 773529912, 1294757372, 1396182291, 1695183700, 1986661051, 2177026350, 2456956037, 2730485921, 2820302411, 3259730800, 3345764771, 3516065817, 3600352804, 4094571909, 275423344, 430227734, 506948616, 659060556, 883997877, 958139571, 1322822218, 1537002063, 1747873779, 1955562222, 2024104815, 2227730452, 2361852424, 2428436474, 2756734187, 3204031479, 3329325298]
theorem rounds_den : DenV Tryz.prog 276 [] (.agg (up (kK.map wC))) := den_run 20 rfl (by simp [ltB]) (by kernel_rfl)
theorem kK_get (i : Nat) (h : i < 64) : (kK.map wC)[i]? = some (wC (kK.getD i 0)) := by
  have hl : kK.length = 64 := rfl
  rw [List.getElem?_map, List.getD_eq_getElem?_getD, List.getElem?_eq_getElem (by omega)]
  rfl
structure S8 where
  (a b c d e f g h : W)
def S8.l (s : S8) : List W := [s.a, s.b, s.c, s.d, s.e, s.f, s.g, s.h]
def S8.add (s t : S8) : S8 := ⟨s.a + t.a, s.b + t.b, s.c + t.c, s.d + t.d, s.e + t.e, s.f + t.f, s.g + t.g, s.h + t.h⟩
def S8.t1 (s : S8) (k w : W) : W := s.h + (rotr s.e 6 ^^^ rotr s.e 11 ^^^ rotr s.e 25) + ((s.e &&& s.f) ^^^ (~~~ s.e &&& s.g)) + k + w
def S8.t2 (s : S8) : W := rotr s.a 2 ^^^ rotr s.a 13 ^^^ rotr s.a 22
def S8.t3 (s : S8) : W := (s.a &&& s.b) ^^^ (s.a &&& s.c) ^^^ (s.b &&& s.c)
def S8.step (s : S8) (k w : W) : S8 := ⟨s.t1 k w + s.t2 + s.t3, s.a, s.b, s.c, s.d + s.t1 k w, s.e, s.f, s.g⟩
def mixTo (ws : List W) (s : S8) : Nat → S8
  | 0 => s
  | n + 1 => (mixTo ws s n).step (kK.getD n 0) (ws.getD n 0)
def mix (s : S8) (b : ByteArray) : S8 := s.add (mixTo (spread b) s 64)
def s8M (s : S8) : M := .agg (up (s.l.map wC))
theorem spread_len (b : ByteArray) : (spread b).length = 64 := spTo_len b 64
theorem ws_get (ws : List W) (i n : Nat) (h : i < n) (hl : ws.length = n) : (ws.map wC)[i]? = some (wC (ws.getD i 0)) := by
  rw [List.getElem?_map, List.getD_eq_getElem?_getD, List.getElem?_eq_getElem (by omega)]
  rfl
theorem set8 (z a b c d e f g h : C) : ((((((((List.replicate 8 z).set 0 a).set 1 b).set 2 c).set 3 d).set 4 e).set 5 f).set 6 g).set 7 h = [a, b, c, d, e, f, g, h] := rfl
set_option maxHeartbeats 2000000 in
theorem mix_den (s : S8) (b : ByteArray) (hb : b.size ≤ 9223372036854775807) : DenV Tryz.prog 257 [s8M s, .c (.v (.string b))] (s8M (mix s b)) := by
  obtain ⟨r, hr⟩ : ∃ r, r = mix s b := ⟨_, rfl⟩
  rw [← hr]
  refine Den.frame (by simp [ltBs, s8M, ltB]) (by simp [ltB, s8M]) ?_
  refine den_of Tryz.func257 rfl rfl (by simp [Tryz.ntmps257]) (fun X hX hO => ?_)
  rw [Tryz.ntmps257] at hX
  simp only [Tryz.results257]
  have hsl := spread_len b
  have hkl : kK.length = 64 := rfl
  repeat' (first 
   | (with_reducible first | refine awp_scope ?_ | refine awp_seq ?_ | refine awp_block ?_)
   | ((with_reducible first | refine awp_label ?_ | refine awp_skip ?_ | refine awp_exit ?_ | refine hother _ _ rfl ?_); try simp only [thenA, inBlockA, noGotoA, if_true, Nat.reduceEqDiff, if_false, ↓reduceIte])
   | ((with_reducible first | refine awp_reg 122 hX [1, 2, 4, 5, 6, 7, 8, 9, 10, 11, 12, 13, 18, 19, 109, 110] ?_ | refine awp_drw 122 hX [1, 2, 4, 5, 6, 7, 8, 9, 10, 11, 12, 13, 18, 19, 109, 110] Tab.mixed (by kernel_rfl) ?_ | refine DEv_cut _ _ _ _ _ _ _ _ _ _ _ _ (by kernel_rfl) ?_ | change postOf _ _ _ _ _); simp [-List.reduceReplicate, Nat.add_one_le_iff, -getElem?_pos, -getElem?_neg, s8M, S8.l, hsl, hkl])
   | ((first | (with_reducible refine awp_ret ?_; try simp only [thenA, inBlockA, noGotoA]) | ((with_reducible refine Den.at_ (f := 275) ?_); refine (spread_den b hb _).det ?_) | ((with_reducible refine drawn_at (f := 275) ?_); refine ⟨_, _, spread_den b hb _, fun _ => rfl, ?_⟩) | ((with_reducible refine Den.at_ (f := 276) ?_); refine (rounds_den _).det ?_) | ((with_reducible refine drawn_at (f := 276) ?_); refine ⟨_, _, rounds_den _, fun _ => rfl, ?_⟩)); try simp [-List.reduceReplicate, Nat.add_one_le_iff, -getElem?_pos, -getElem?_neg, s8M, S8.l, hsl, hkl])
   | (with_reducible refine awp_if_b rfl (fun hc => ?_) (fun hc => ?_) <;> (try simp [-getElem?_pos, -getElem?_neg] at hc) <;> (try (exfalso; omega)))
   | (with_reducible refine And.intro (by omega) ?_)
   | fail)
  refine awp_forU [2, 4, 5, 6, 7, 18] (fun i (_u : Unit) => [(18, .c (iC i))]) (fun i (_u : Unit) => [⟨352, 1, false, 0, up [wC s.a, wC s.b, wC s.c, wC s.d, wC s.e, wC s.f, wC s.g, wC s.h], none⟩, ⟨352, 1, false, 0, up (List.replicate 8 (C.v (Value.int IntKind.u32 0))), none⟩, ⟨306, 1, false, 0, up (List.map wC (spread b)), none⟩, ⟨306, 1, false, 0, up (List.map wC kK), none⟩, ⟨352, 1, false, 0, up ((mixTo (spread b) s i).l.map wC), none⟩]) (fun i (_u : Unit) => True) (64) (()) (by first | trivial | (simp; done) | omega | (intros; simp at *; done)) (by simp [-List.reduceReplicate, keep, iC, mixTo, S8.l]) (by simp [-List.reduceReplicate, iC, mixTo, S8.l]) ?_
  rintro i _u Q1 hi hH next hother
  conv => arg 5; arg 1; simp only [List.cons_append, List.nil_append, keep, get, Nat.reduceEqDiff, if_true, if_false, ↓reduceIte]
  have hwi := wrap_in ((i : Int) + 1) (by omega)
  by_cases hlt : i < 64
  · have hw := ws_get (spread b) i 64 hlt hsl
    have hk := kK_get i hlt
    have h64 : (i : Int) < 64 := by omega
    have hst : mixTo (spread b) s (i + 1) = (mixTo (spread b) s i).step (kK.getD i 0) ((spread b).getD i 0) := rfl
    rw [hst] at next
    generalize mixTo (spread b) s i = v at *
    generalize kK.getD i 0 = kk at *
    generalize (spread b).getD i 0 = ww at *
    clear hst
    repeat' (first 
     | (with_reducible first | refine awp_scope ?_ | refine awp_seq ?_ | refine awp_block ?_)
     | ((with_reducible first | refine awp_label ?_ | refine awp_skip ?_ | refine awp_exit ?_ | refine hother _ _ rfl ?_); try simp only [thenA, inBlockA, noGotoA, if_true, Nat.reduceEqDiff, if_false, ↓reduceIte])
     | ((with_reducible first | refine awp_reg 122 hX [1, 2, 4, 5, 6, 7, 8, 9, 10, 11, 12, 13, 18, 19, 109, 110] ?_ | refine awp_drw 122 hX [1, 2, 4, 5, 6, 7, 8, 9, 10, 11, 12, 13, 18, 19, 109, 110] Tab.mixed (by kernel_rfl) ?_ | refine DEv_cut _ _ _ _ _ _ _ _ _ _ _ _ (by kernel_rfl) ?_ | change postOf _ _ _ _ _); simp [-List.reduceReplicate, Nat.add_one_le_iff, -getElem?_pos, -getElem?_neg, S8.l, iC, hlt, h64, hwi, hw, hk, wC, wI_xor, wI_add, wI_and, wI_not, set8])
     | ((first | (with_reducible refine awp_ret ?_; try simp only [thenA, inBlockA, noGotoA]) | ((with_reducible refine Den.at_ (f := 277) ?_); refine (rot_den _ 6 (by omega) _).det ?_) | ((with_reducible refine drawn_at (f := 277) ?_); refine ⟨_, _, rot_den _ 6 (by omega) _, fun _ => rfl, ?_⟩) | ((with_reducible refine Den.at_ (f := 277) ?_); refine (rot_den _ 11 (by omega) _).det ?_) | ((with_reducible refine drawn_at (f := 277) ?_); refine ⟨_, _, rot_den _ 11 (by omega) _, fun _ => rfl, ?_⟩) | ((with_reducible refine Den.at_ (f := 277) ?_); refine (rot_den _ 25 (by omega) _).det ?_) | ((with_reducible refine drawn_at (f := 277) ?_); refine ⟨_, _, rot_den _ 25 (by omega) _, fun _ => rfl, ?_⟩) | ((with_reducible refine Den.at_ (f := 277) ?_); refine (rot_den _ 2 (by omega) _).det ?_) | ((with_reducible refine drawn_at (f := 277) ?_); refine ⟨_, _, rot_den _ 2 (by omega) _, fun _ => rfl, ?_⟩) | ((with_reducible refine Den.at_ (f := 277) ?_); refine (rot_den _ 13 (by omega) _).det ?_) | ((with_reducible refine drawn_at (f := 277) ?_); refine ⟨_, _, rot_den _ 13 (by omega) _, fun _ => rfl, ?_⟩) | ((with_reducible refine Den.at_ (f := 277) ?_); refine (rot_den _ 22 (by omega) _).det ?_) | ((with_reducible refine drawn_at (f := 277) ?_); refine ⟨_, _, rot_den _ 22 (by omega) _, fun _ => rfl, ?_⟩)); try simp [-List.reduceReplicate, Nat.add_one_le_iff, -getElem?_pos, -getElem?_neg, S8.l, iC, hlt, h64, hwi, hw, hk, wC, wI_xor, wI_add, wI_and, wI_not, set8])
     | (with_reducible refine awp_if_b rfl (fun hc => ?_) (fun hc => ?_) <;> (try simp [-getElem?_pos, -getElem?_neg] at hc) <;> (try (exfalso; omega)))
     | (with_reducible refine And.intro (by omega) ?_)
     | fail)
    refine next _ _ (()) (by omega) (by first | trivial | omega | assumption) (by simp [-List.reduceReplicate, keep, iC, wC, S8.l, S8.step, S8.t1, S8.t2, S8.t3]) (by simp [-List.reduceReplicate, iC, wC, S8.l, S8.step, S8.t1, S8.t2, S8.t3])
  · have hi64 : i = 64 := by omega
    subst hi64
    have hmix : r = s.add (mixTo (spread b) s 64) := hr
    generalize mixTo (spread b) s 64 = v at *
    clear next hwi
    subst hmix
    repeat' (first 
     | (with_reducible first | refine awp_scope ?_ | refine awp_seq ?_ | refine awp_block ?_)
     | ((with_reducible first | refine awp_label ?_ | refine awp_skip ?_ | refine awp_exit ?_ | refine hother _ _ rfl ?_); try simp only [thenA, inBlockA, noGotoA, if_true, Nat.reduceEqDiff, if_false, ↓reduceIte])
     | ((with_reducible first | refine awp_reg 122 hX [1, 2, 4, 5, 6, 7, 8, 9, 10, 11, 12, 13, 18, 19, 109, 110] ?_ | refine awp_drw 122 hX [1, 2, 4, 5, 6, 7, 8, 9, 10, 11, 12, 13, 18, 19, 109, 110] Tab.mixed (by kernel_rfl) ?_ | refine DEv_cut _ _ _ _ _ _ _ _ _ _ _ _ (by kernel_rfl) ?_ | change postOf _ _ _ _ _); simp [-List.reduceReplicate, Nat.add_one_le_iff, -getElem?_pos, -getElem?_neg, S8.l, iC])
     | ((first | (with_reducible refine awp_ret ?_; try simp only [thenA, inBlockA, noGotoA])); try simp [-List.reduceReplicate, Nat.add_one_le_iff, -getElem?_pos, -getElem?_neg, S8.l, iC])
     | (with_reducible refine awp_if_b rfl (fun hc => ?_) (fun hc => ?_) <;> (try simp [-getElem?_pos, -getElem?_neg] at hc) <;> (try (exfalso; omega)))
     | (with_reducible refine And.intro (by omega) ?_)
     | fail)
    refine awp_forU [2, 4, 7, 109] (fun i (_u : Unit) => [(109, .c (iC i))]) (fun i (_u : Unit) => [⟨352, 1, false, 0, up (((s.add v).l.take i ++ s.l.drop i).map wC), none⟩, ⟨352, 1, false, 0, up (List.replicate 8 (C.v (Value.int IntKind.u32 0))), none⟩, ⟨306, 1, false, 0, up (List.map wC (spread b)), none⟩, ⟨306, 1, false, 0, up (List.map wC kK), none⟩, ⟨352, 1, false, 0, up (v.l.map wC), none⟩]) (fun i (_u : Unit) => True) (8) (()) (by first | trivial | (simp; done) | omega | (intros; simp at *; done)) (by simp [-List.reduceReplicate, keep, iC, S8.l]) (by simp [-List.reduceReplicate, iC, S8.l]) ?_
    rintro i _u Q1 hi hH next hother
    conv => arg 5; arg 1; simp only [List.cons_append, List.nil_append, keep, get, Nat.reduceEqDiff, if_true, if_false, ↓reduceIte]
    by_cases hlt : i < 8
    · rcases (by omega : i = 0 ∨ i = 1 ∨ i = 2 ∨ i = 3 ∨ i = 4 ∨ i = 5 ∨ i = 6 ∨ i = 7) with e | e | e | e | e | e | e | e
      all_goals subst e
      all_goals
        repeat' (first 
         | (with_reducible first | refine awp_scope ?_ | refine awp_seq ?_ | refine awp_block ?_)
         | ((with_reducible first | refine awp_label ?_ | refine awp_skip ?_ | refine awp_exit ?_ | refine hother _ _ rfl ?_); try simp only [thenA, inBlockA, noGotoA, if_true, Nat.reduceEqDiff, if_false, ↓reduceIte])
         | ((with_reducible first | refine awp_reg 122 hX [1, 2, 4, 5, 6, 7, 8, 9, 10, 11, 12, 13, 18, 19, 109, 110] ?_ | refine awp_drw 122 hX [1, 2, 4, 5, 6, 7, 8, 9, 10, 11, 12, 13, 18, 19, 109, 110] Tab.mixed (by kernel_rfl) ?_ | refine DEv_cut _ _ _ _ _ _ _ _ _ _ _ _ (by kernel_rfl) ?_ | change postOf _ _ _ _ _); simp [-List.reduceReplicate, Nat.add_one_le_iff, -getElem?_pos, -getElem?_neg, S8.l, S8.add, iC, wC, wI_add])
         | ((first | (with_reducible refine awp_ret ?_; try simp only [thenA, inBlockA, noGotoA])); try simp [-List.reduceReplicate, Nat.add_one_le_iff, -getElem?_pos, -getElem?_neg, S8.l, S8.add, iC, wC, wI_add])
         | (with_reducible refine awp_if_b rfl (fun hc => ?_) (fun hc => ?_) <;> (try simp [-getElem?_pos, -getElem?_neg] at hc) <;> (try (exfalso; omega)))
         | (with_reducible refine And.intro (by omega) ?_)
         | fail)
        refine next _ _ (()) (by omega) (by first | trivial | omega | assumption) (by simp [-List.reduceReplicate, keep, iC, wC, S8.l, S8.add, IntKind.wrap, IntKind.bits, IntKind.signed]) (by simp [-List.reduceReplicate, iC, wC, S8.l, S8.add, IntKind.wrap, IntKind.bits, IntKind.signed])
    · have hi8 : i = 8 := by omega
      subst hi8
      repeat' (first 
       | (with_reducible first | refine awp_scope ?_ | refine awp_seq ?_ | refine awp_block ?_)
       | ((with_reducible first | refine awp_label ?_ | refine awp_skip ?_ | refine awp_exit ?_ | refine hother _ _ rfl ?_); try simp only [thenA, inBlockA, noGotoA, if_true, Nat.reduceEqDiff, if_false, ↓reduceIte])
       | ((with_reducible first | refine awp_reg 122 hX [1, 2, 4, 5, 6, 7, 8, 9, 10, 11, 12, 13, 18, 19, 109, 110] ?_ | refine awp_drw 122 hX [1, 2, 4, 5, 6, 7, 8, 9, 10, 11, 12, 13, 18, 19, 109, 110] Tab.mixed (by kernel_rfl) ?_ | refine DEv_cut _ _ _ _ _ _ _ _ _ _ _ _ (by kernel_rfl) ?_ | change postOf _ _ _ _ _); simp [-List.reduceReplicate, Nat.add_one_le_iff, -getElem?_pos, -getElem?_neg, S8.l, S8.add, iC])
       | ((first | (with_reducible refine awp_ret ?_; try simp only [thenA, inBlockA, noGotoA])); try simp [-List.reduceReplicate, Nat.add_one_le_iff, -getElem?_pos, -getElem?_neg, S8.l, S8.add, iC])
       | (with_reducible refine awp_if_b rfl (fun hc => ?_) (fun hc => ?_) <;> (try simp [-getElem?_pos, -getElem?_neg] at hc) <;> (try (exfalso; omega)))
       | (with_reducible refine And.intro (by omega) ?_)
       | fail)
def shl8 (l : List W) (i : Nat) : List W := l.take (8 - i) ++ (l.drop (7 - i)).take i
end Go.Av

set_option exponentiation.threshold 1000
set_option linter.unusedVariables false
set_option linter.unusedSimpArgs false
set_option maxRecDepth 100000
set_option maxHeartbeats 4000000
namespace Go.Av
open Go Go.Proofs Go.Proofs.YtocccighdkdljaaGreatDoor Go.RowKit
attribute [local simp] List.getElem?_cons_zero List.getElem?_cons_succ
def zerosB (n : Nat) : List UInt8 := List.replicate n 0
theorem repeat_zeros (n : Nat) : Lib.repeatL [0] n = zerosB n := by
  induction n with
  | zero => rfl
  | succ n ih => rw [Lib.repeatL, ih]; rfl
theorem repeat_den (n : Nat) (hn : n ≤ 1000000) : DenV Tryz.prog 278 [.c (.v (.string ⟨#[0]⟩)), .c (.v (.int .i64 (n : Int)))] (.c (.v (.string (bsS (zerosB n))))) := by
  refine Den.of_below (by kernel_rfl) rfl fun w E vals hs ha hst => ?_
  have h1 := ha 1 _ rfl
  have h0 := ha 0 _ rfl
  obtain ⟨va, vb, rfl⟩ : ∃ va vb, vals = #[va, vb] := by
    obtain ⟨l⟩ := vals
    match l, hs with
    | [a, b], _ => exact ⟨a, b, rfl⟩
  obtain rfl : va = .string ⟨#[0]⟩ := arg_v h0
  obtain rfl : vb = .int .i64 n := arg_v h1
  refine (Tryz.strings_Repeat ⟨#[0]⟩ n w (by omega) (by show 1 * n ≤ _; omega)).mono fun e w' ⟨he, hw⟩ => ⟨?_, hw⟩
  rw [he]
  have : Lib.repeatL (⟨#[0]⟩ : ByteArray).data.toList n = zerosB n := repeat_zeros n
  rw [this]
  rfl
def padL (n : Nat) : List UInt8 := 128 :: (zerosB ((119 - n % 64) % 64) ++ putN (8 * n % 18446744073709551616) 8)
theorem pad_den (n : Nat) (hn : n < 18446744073709551616) : DenV Tryz.prog 258 [.c (u64C n)] (.c (.v (.string (bsS (padL n))))) := by
  refine Den.frame rfl rfl ?_
  refine den_of Tryz.func258 rfl rfl (by simp [Tryz.ntmps258]) (fun X hX hO => ?_)
  rw [Tryz.ntmps258] at hX
  simp only [Tryz.results258]
  have h0 : ((n : Int)).tmod 64 = ((n % 64 : Nat) : Int) := rfl
  have h1 : IntKind.u64.wrap (119 - ((n % 64 : Nat) : Int)) = ((119 - n % 64 : Nat) : Int) := (wrapU64 _ (by omega)).trans (by omega)
  have h2 : (((119 - n % 64 : Nat) : Int)).tmod 64 = (((119 - n % 64) % 64 : Nat) : Int) := rfl
  have h3 := wrap_in (((119 - n % 64) % 64 : Nat) : Int) (by omega)
  have h4 : IntKind.u64.wrap (8 * (n : Int)) = ((8 * n % 18446744073709551616 : Nat) : Int) := (modU64 _).trans (by omega)
  have hm : 8 * n % 18446744073709551616 < 18446744073709551616 := Nat.mod_lt _ (by omega)
  have hg : (119 - n % 64) % 64 < 64 := Nat.mod_lt _ (by omega)
  have hp : padL n = 128 :: (zerosB ((119 - n % 64) % 64) ++ putN (8 * n % 18446744073709551616) 8) := rfl
  generalize n % 64 = a at *
  generalize 119 - a = a2 at *
  generalize a2 % 64 = gap at *
  generalize 8 * n % 18446744073709551616 = m8 at *
  have h5 : (⟨#[128]⟩ : ByteArray) = bsS [128] := rfl
  have l1 : (zerosB gap).length = gap := by simp [zerosB]
  have l2 := putN_len m8 8
  have c1 : gap < 9223372036854775806 := by omega
  have c2 : gap + 1 + 7 < 9223372036854775807 := by omega
  have c3 : 1 + gap ≤ 9223372036854775807 := by omega
  have c4 : gap + 1 + 8 ≤ 9223372036854775807 := by omega
  repeat' (first 
   | (with_reducible first | refine awp_scope ?_ | refine awp_seq ?_ | refine awp_block ?_)
   | ((with_reducible first | refine awp_label ?_ | refine awp_skip ?_ | refine awp_exit ?_); try simp only [thenA, inBlockA, noGotoA, if_true, Nat.reduceEqDiff, if_false, ↓reduceIte])
   | ((with_reducible first | refine awp_reg 16 hX [0, 2, 3] ?_ | change postOf _ _ _ _ _); simp [-List.reduceReplicate, Nat.add_one_le_iff, -getElem?_pos, -getElem?_neg, u64C, h0, h1, h2, h3, h4, h5, bs_append, bs_size, l1, l2, c1, c2, c3, c4, hp])
   | ((first | (with_reducible refine awp_ret ?_; try simp only [thenA, inBlockA, noGotoA]) | ((with_reducible refine Den.at_ (f := 278) ?_); refine (repeat_den gap (by omega) _).det ?_) | ((with_reducible refine Den.at_ (f := 156) ?_); refine (put64_den m8 hm _).det ?_)); try simp [-List.reduceReplicate, Nat.add_one_le_iff, -getElem?_pos, -getElem?_neg, u64C, h0, h1, h2, h3, h4, h5, bs_append, bs_size, l1, l2, c1, c2, c3, c4, hp])
   | (with_reducible refine awp_if_b rfl (fun hc => ?_) (fun hc => ?_) <;> (try simp [-getElem?_pos, -getElem?_neg] at hc) <;> (try (exfalso; omega)))
   | (with_reducible refine And.intro (by omega) ?_)
   | fail)
end Go.Av

set_option exponentiation.threshold 1000
set_option linter.unusedVariables false
set_option linter.unusedSimpArgs false
set_option maxRecDepth 100000
set_option maxHeartbeats 4000000
namespace Go.Av
open Go Go.Proofs Go.Proofs.YtocccighdkdljaaGreatDoor Go.RowKit
attribute [local simp] List.getElem?_cons_zero List.getElem?_cons_succ
def firstS : S8 := ⟨0x6a09e667, 0xbb67ae85, 0x3c6ef372, 0xa54ff53a, 0x510e527f, 0x9b05688c, 0x1f83d9ab, 0x5be0cd19⟩
theorem first_den : DenV Tryz.prog 256 [] (s8M firstS) := den_run 20 rfl (by simp [ltB, s8M]) (by kernel_rfl)
def blk (t : ByteArray) (i : Nat) : ByteArray := t.extract (64 * i) (64 * i + 64)
def blocksTo (s : S8) (t : ByteArray) : Nat → S8
  | 0 => s
  | i + 1 => mix (blocksTo s t i) (blk t i)
def stC (s : S8) (rest : ByteArray) (n : Nat) (on : Bool) : List C := [wC s.a, wC s.b, wC s.c, wC s.d, wC s.e, wC s.f, wC s.g, wC s.h, .v (.string rest), u64C n, bC on]
def stO (s : S8) (rest : ByteArray) (n : Nat) (on : Bool) : Ob := ⟨354, 11, false, 0, up (stC s rest n on), none⟩
def wS (s : S8) (on : Bool) : S8 := if on then s else firstS
theorem ext_size (t : ByteArray) (a b : Nat) (h : a ≤ b) (hb : b ≤ t.size) : (t.extract a b).size = b - a := by rw [ByteArray.size_extract]; omega
set_option maxHeartbeats 2000000 in
theorem write_den (pre suf : List Ob) (s : S8) (rest : ByteArray) (n : Nat) (on : Bool) (b : ByteArray) (hr : rest.size ≤ 1000000) (hb : b.size ≤ 1000000) (hn : n < 18446744073709551616) :
    Den Tryz.prog 221 [.mp pre.length 0 0, .c (.v (.string b))] (pre ++ stO s rest n on :: suf) (fun r ob' => r = .tup [] ∧
      ob' = pre ++ stO (blocksTo (wS s on) (rest ++ b) ((rest ++ b).size / 64)) ((rest ++ b).extract (64 * ((rest ++ b).size / 64)) (rest ++ b).size) ((n + b.size) % 18446744073709551616) true :: suf) := by
  refine den_of Tryz.func221 rfl rfl (by simp [Tryz.ntmps221]) (fun X hX hO => ?_)
  rw [Tryz.ntmps221] at hX
  simp only [Tryz.results221]
  have h1 := wrapU64 (b.size : Int) (by omega)
  have h2 : IntKind.u64.wrap ((n : Int) + (b.size : Int)) = (((n + b.size) % 18446744073709551616 : Nat) : Int) := (modU64 _).trans (by omega)
  have h3 : rest.size + b.size ≤ 9223372036854775807 := by omega
  have hts : (rest ++ b).size = rest.size + b.size := ByteArray.size_append
  have htl : (rest ++ b).size ≤ 2000000 := by omega
  obtain ⟨v0, hv0⟩ : ∃ v0, v0 = wS s on := ⟨_, rfl⟩
  rw [← hv0]
  generalize ht : rest ++ b = t at *
  generalize hn' : (n + b.size) % 18446744073709551616 = n' at *
  generalize hk : t.size / 64 = k at *
  rcases (Bool.eq_false_or_eq_true on) with hon | hon
  all_goals
    have hv1 := hv0
    unfold wS at hv1
    simp only [hon, if_true, Bool.false_eq_true, if_false] at hv1
    repeat' (first 
     | (with_reducible first | refine awp_scope ?_ | refine awp_seq ?_ | refine awp_block ?_)
     | ((with_reducible first | refine awp_label ?_ | refine awp_skip ?_ | refine awp_exit ?_ | refine hother _ _ rfl ?_); try simp only [thenA, inBlockA, noGotoA, if_true, Nat.reduceEqDiff, if_false, ↓reduceIte])
     | ((with_reducible first | refine awp_reg 72 hX [0, 1, 4, 6, 11, 44] ?_ | refine awp_drw 72 hX [0, 1, 4, 6, 11, 44] Tab.mixed (by kernel_rfl) ?_ | refine DEv_cut _ _ _ _ _ _ _ _ _ _ _ _ (by kernel_rfl) ?_ | change postOf _ _ _ _ _); simp [-List.reduceReplicate, Nat.add_one_le_iff, -getElem?_pos, -getElem?_neg, stO, stC, u64C, bC, h1, h2, h3, S8.l, s8M, hon, ht])
     | ((first | (with_reducible refine awp_ret ?_; try simp only [thenA, inBlockA, noGotoA]) | ((with_reducible refine Den.at_ (f := 256) ?_); refine (first_den _).det ?_) | ((with_reducible refine drawn_at (f := 256) ?_); refine ⟨_, _, first_den _, fun _ => rfl, ?_⟩)); try simp [-List.reduceReplicate, Nat.add_one_le_iff, -getElem?_pos, -getElem?_neg, stO, stC, u64C, bC, h1, h2, h3, S8.l, s8M, hon, ht])
     | (with_reducible refine awp_if_b rfl (fun hc => ?_) (fun hc => ?_) <;> (try simp [-getElem?_pos, -getElem?_neg] at hc) <;> (try (exfalso; omega)))
     | (with_reducible refine And.intro (by omega) ?_)
     | fail)
    refine awp_forU [0, 4] (fun i (_u : Unit) => [(4, .c (iC (64 * i : Nat)))]) (fun i (_u : Unit) => pre ++ stO (blocksTo v0 t i) t n' true :: suf) (fun i (_u : Unit) => True) (k) (()) (by first | trivial | (simp; done) | omega | (intros; simp at *; done)) (by simp [-List.reduceReplicate, keep, iC, stO, stC, blocksTo, u64C, bC, hv1, firstS]) (by simp [-List.reduceReplicate, iC, stO, stC, blocksTo, u64C, bC, hv1, firstS]) ?_
    rintro i _u Q1 hi hH next hother
    conv => arg 5; arg 1; simp only [List.cons_append, List.nil_append, keep, get, Nat.reduceEqDiff, if_true, if_false, ↓reduceIte]
    have hwi : IntKind.i64.wrap (64 * (i : Int) + 64) = 64 * (i : Int) + 64 := wrap_in _ (by omega)
    have hw2 : IntKind.i64.wrap ((t.size : Int) - 64 * (i : Int)) = (t.size : Int) - 64 * (i : Int) := wrap_in _ (by omega)
    have hst : blocksTo v0 t (i + 1) = mix (blocksTo v0 t i) (blk t i) := rfl
    by_cases hlt : i < k
    · have c1 : 64 ≤ (t.size : Int) - 64 * (i : Int) := by omega
      have c2 : 64 * (i : Int) + 64 ≤ t.size := by omega
      have t1 : (64 * (i : Int)).toNat = 64 * i := by omega
      have t2 : (64 * (i : Int) + 64).toNat = 64 * i + 64 := by omega
      have hbs : (blk t i).size ≤ 9223372036854775807 := by unfold blk; rw [ext_size _ _ _ (by omega) (by omega)]; omega
      have hbl : t.extract (64 * i) (64 * i + 64) = blk t i := rfl
      rw [hst] at next
      generalize blocksTo v0 t i = v at *
      repeat' (first 
       | (with_reducible first | refine awp_scope ?_ | refine awp_seq ?_ | refine awp_block ?_)
       | ((with_reducible first | refine awp_label ?_ | refine awp_skip ?_ | refine awp_exit ?_ | refine hother _ _ rfl ?_); try simp only [thenA, inBlockA, noGotoA, if_true, Nat.reduceEqDiff, if_false, ↓reduceIte])
       | ((with_reducible first | refine awp_reg 72 hX [0, 1, 4, 6, 11, 44] ?_ | refine awp_drw 72 hX [0, 1, 4, 6, 11, 44] Tab.mixed (by kernel_rfl) ?_ | refine DEv_cut _ _ _ _ _ _ _ _ _ _ _ _ (by kernel_rfl) ?_ | change postOf _ _ _ _ _); simp [-List.reduceReplicate, Nat.add_one_le_iff, -getElem?_pos, -getElem?_neg, stO, stC, S8.l, s8M, iC, u64C, bC, hwi, hw2, c1, c2, t1, t2, hbl])
       | ((first | (with_reducible refine awp_ret ?_; try simp only [thenA, inBlockA, noGotoA]) | ((with_reducible refine Den.at_ (f := 257) ?_); refine (mix_den v (blk t i) hbs _).det ?_) | ((with_reducible refine drawn_at (f := 257) ?_); refine ⟨_, _, mix_den v (blk t i) hbs _, fun _ => rfl, ?_⟩)); try simp [-List.reduceReplicate, Nat.add_one_le_iff, -getElem?_pos, -getElem?_neg, stO, stC, S8.l, s8M, iC, u64C, bC, hwi, hw2, c1, c2, t1, t2, hbl])
       | (with_reducible refine awp_if_b rfl (fun hc => ?_) (fun hc => ?_) <;> (try simp [-getElem?_pos, -getElem?_neg] at hc) <;> (try (exfalso; omega)))
       | (with_reducible refine And.intro (by omega) ?_)
       | fail)
      have hx : 64 * (i : Int) + 64 = 64 * ((i : Int) + 1) := by omega
      refine next _ _ (()) (by omega) (by first | trivial | omega | assumption) (by simp [-List.reduceReplicate, keep, iC, stO, stC, u64C, bC, hx]) (by simp [-List.reduceReplicate, iC, stO, stC, u64C, bC, hx])
    · obtain rfl : i = k := by omega
      have c1 : ¬ 64 ≤ (t.size : Int) - 64 * (i : Int) := by omega
      have c2 : 64 * (i : Int) ≤ t.size := by omega
      have t1 : (64 * (i : Int)).toNat = 64 * i := by omega
      generalize blocksTo v0 t i = v at *
      have c3 : 0 ≤ 64 * (i : Int) := by omega
      repeat' (first 
       | (with_reducible first | refine awp_scope ?_ | refine awp_seq ?_ | refine awp_block ?_)
       | ((with_reducible first | refine awp_label ?_ | refine awp_skip ?_ | refine awp_exit ?_ | refine hother _ _ rfl ?_); try simp only [thenA, inBlockA, noGotoA, if_true, Nat.reduceEqDiff, if_false, ↓reduceIte])
       | ((with_reducible first | refine awp_reg 72 hX [0, 1, 4, 6, 11, 44] ?_ | refine awp_drw 72 hX [0, 1, 4, 6, 11, 44] Tab.mixed (by kernel_rfl) ?_ | refine DEv_cut _ _ _ _ _ _ _ _ _ _ _ _ (by kernel_rfl) ?_ | change postOf _ _ _ _ _); simp [-List.reduceReplicate, Nat.add_one_le_iff, -getElem?_pos, -getElem?_neg, stO, stC, S8.l, s8M, iC, u64C, bC, hw2, c1, c2, c3, t1])
       | ((first | (with_reducible refine awp_ret ?_; try simp only [thenA, inBlockA, noGotoA])); try simp [-List.reduceReplicate, Nat.add_one_le_iff, -getElem?_pos, -getElem?_neg, stO, stC, S8.l, s8M, iC, u64C, bC, hw2, c1, c2, c3, t1])
       | (with_reducible refine awp_if_b rfl (fun hc => ?_) (fun hc => ?_) <;> (try simp [-getElem?_pos, -getElem?_neg] at hc) <;> (try (exfalso; omega)))
       | (with_reducible refine And.intro (by omega) ?_)
       | fail)
theorem stateNew_den (ob : List Ob) : Den Tryz.prog 220 [] ob (fun r ob' => r = .mp ob.length 0 0 ∧ ob' = ob ++ [stO ⟨0, 0, 0, 0, 0, 0, 0, 0⟩ ⟨#[]⟩ 0 false]) := by
  refine den_of Tryz.func220 rfl rfl (by simp [Tryz.ntmps220]) (fun X hX hO => ?_)
  rw [Tryz.ntmps220] at hX
  simp only [Tryz.results220]
  repeat' (first 
   | (with_reducible first | refine awp_scope ?_ | refine awp_seq ?_ | refine awp_block ?_)
   | ((with_reducible first | refine awp_label ?_ | refine awp_skip ?_ | refine awp_exit ?_); try simp only [thenA, inBlockA, noGotoA, if_true, Nat.reduceEqDiff, if_false, ↓reduceIte])
   | ((with_reducible first | refine awp_reg 3 hX [0] ?_ | change postOf _ _ _ _ _); simp [-List.reduceReplicate, Nat.add_one_le_iff, -getElem?_pos, -getElem?_neg, stO, stC, u64C, bC])
   | ((first | (with_reducible refine awp_ret ?_; try simp only [thenA, inBlockA, noGotoA])); try simp [-List.reduceReplicate, Nat.add_one_le_iff, -getElem?_pos, -getElem?_neg, stO, stC, u64C, bC])
   | (with_reducible refine awp_if_b rfl (fun hc => ?_) (fun hc => ?_) <;> (try simp [-getElem?_pos, -getElem?_neg] at hc) <;> (try (exfalso; omega)))
   | (with_reducible refine And.intro (by omega) ?_)
   | fail)
  rfl
def wBytes (l : List W) : List UInt8 := l.flatMap fun x => putN x.toNat 4
def sumS (s : S8) (rest : ByteArray) (n : Nat) (on : Bool) : List UInt8 := wBytes (blocksTo (wS s on) (rest ++ bsS (padL n)) ((rest ++ bsS (padL n)).size / 64)).l
theorem wBytes_len (l : List W) : (wBytes l).length = 4 * l.length := by
  induction l with
  | nil => rfl
  | cons x r ih => simp only [wBytes, List.flatMap_cons, List.length_append, putN_len, List.length_cons] at *; omega
theorem wBytes_app (a b : List W) : wBytes (a ++ b) = wBytes a ++ wBytes b := by simp [wBytes]
def outTo (l : List W) (i : Nat) : List C := (wBytes (l.take i)).map bC8 ++ List.replicate (32 - 4 * i) (bC8 0)
theorem outTo_len (l : List W) (i : Nat) (h : i ≤ 8) (hl : l.length = 8) : (outTo l i).length = 32 := by
  simp [outTo, wBytes_len, hl]; omega
theorem outTo_lay (l : List W) (i : Nat) (h : i < 8) (hl : l.length = 8) : lay (up (outTo l i)) (4 * i) (up ((putN (l.getD i 0).toNat 4).map bC8)) = up (outTo l (i + 1)) := by
  have h4 := putN_len (l.getD i 0).toNat 4
  have hw : (wBytes (l.take i)).length = 4 * i := by rw [wBytes_len, List.length_take]; omega
  have ht : l.take (i + 1) = l.take i ++ [l.getD i 0] := by
    rw [List.take_add_one, List.getElem?_eq_getElem (by omega), List.getD_eq_getElem?_getD, List.getElem?_eq_getElem (by omega)]
    rfl
  have e : wBytes (l.take (i + 1)) = wBytes (l.take i) ++ putN (l.getD i 0).toNat 4 := by rw [ht, wBytes_app]; simp [wBytes]
  rw [lay_app _ _ _ (by simp only [up, List.length_map, outTo_len l i (by omega) hl, h4]; omega)]
  unfold outTo
  rw [e]
  generalize putN (l.getD i 0).toNat 4 = p at *
  generalize wBytes (l.take i) = q at *
  have e1 : (q.map bC8).length = 4 * i := by rw [List.length_map, hw]
  simp only [up, ← List.map_take, ← List.map_drop, ← List.map_append, List.length_map, h4]
  congr 1
  rw [List.take_append_of_le_length (by omega), List.take_of_length_le (by omega), List.drop_append, e1, List.drop_of_length_le (by omega), List.nil_append, List.drop_replicate, List.map_append]
  simp only [List.append_assoc]
  congr 3
  omega
set_option maxHeartbeats 2000000 in
theorem stateSum_den (ob : List Ob) (p : Nat) (s : S8) (rest : ByteArray) (n : Nat) (on : Bool) (hget : ob[p]? = some (stO s rest n on)) (hr : rest.size ≤ 900000) (hn : n < 18446744073709551616) :
    Den Tryz.prog 222 [.mp p 0 0] ob (fun r ob' => r = hashM (sumS s rest n on) ∧ ob' = ob) := by
  refine Den.dropM (lt_hash _ _) ?_
  have hlt : p < ob.length := (List.getElem?_eq_some_iff.1 hget).1
  have hget2 : ∀ l, (ob ++ l)[p]? = some (stO s rest n on) := fun l => by rw [List.getElem?_append_left hlt, hget]
  obtain ⟨out, hout⟩ : ∃ out, out = sumS s rest n on := ⟨_, rfl⟩
  rw [← hout]
  refine den_of Tryz.func222 rfl rfl (by simp [Tryz.ntmps222]) (fun X hX hO => ?_)
  rw [Tryz.ntmps222] at hX
  simp only [Tryz.results222]
  have hW := write_den (ob ++ [⟨24, 1, false, 0, up (List.replicate 32 (C.v (Value.int IntKind.u8 0))), none⟩]) [] s rest n on (bsS (padL n)) (by omega) (by rw [bs_size]; simp [padL, zerosB, putN_len]; omega) hn
  unfold sumS at hout
  generalize blocksTo (wS s on) (rest ++ bsS (padL n)) ((rest ++ bsS (padL n)).size / 64) = v at *
  generalize (rest ++ bsS (padL n)).extract (64 * ((rest ++ bsS (padL n)).size / 64)) (rest ++ bsS (padL n)).size = r2 at *
  generalize (n + (bsS (padL n)).size) % 18446744073709551616 = n2 at *
  simp only [stO, stC] at hget hget2 hW
  simp [-List.reduceReplicate] at hW
  repeat' (first 
   | (with_reducible first | refine awp_scope ?_ | refine awp_seq ?_ | refine awp_block ?_)
   | ((with_reducible first | refine awp_label ?_ | refine awp_skip ?_ | refine awp_exit ?_ | refine hother _ _ rfl ?_); try simp only [thenA, inBlockA, noGotoA, if_true, Nat.reduceEqDiff, if_false, ↓reduceIte])
   | ((with_reducible first | refine awp_reg 37 hX [0, 2, 3, 4, 5, 6, 9, 18, 19, 20] ?_ | refine awp_drw 37 hX [0, 2, 3, 4, 5, 6, 9, 18, 19, 20] Tab.mixed (by kernel_rfl) ?_ | refine DEv_cut _ _ _ _ _ _ _ _ _ _ _ _ (by kernel_rfl) ?_ | change postOf _ _ _ _ _); simp [-List.reduceReplicate, Nat.add_one_le_iff, -getElem?_pos, -getElem?_neg, u64C, bC, hget, hget2, hlt])
   | ((first | (with_reducible refine awp_ret ?_; try simp only [thenA, inBlockA, noGotoA]) | ((with_reducible refine Den.at_ (f := 258) ?_); refine (pad_den n hn _).det ?_) | ((with_reducible refine drawn_at (f := 258) ?_); refine ⟨_, _, pad_den n hn _, fun _ => rfl, ?_⟩) | (refine (hW).det ?_) | (refine ⟨_, _, hW, fun _ => rfl, ?_⟩)); try simp [-List.reduceReplicate, Nat.add_one_le_iff, -getElem?_pos, -getElem?_neg, u64C, bC, hget, hget2, hlt])
   | (with_reducible refine awp_if_b rfl (fun hc => ?_) (fun hc => ?_) <;> (try simp [-getElem?_pos, -getElem?_neg] at hc) <;> (try (exfalso; omega)))
   | (with_reducible refine And.intro (by omega) ?_)
   | fail)
  refine awp_forU [2, 4, 18, 19] (fun i (_u : Unit) => [(19, .c (iC i))]) (fun i (_u : Unit) => ob ++ [⟨24, 1, false, 0, up (List.replicate 32 (C.v (Value.int IntKind.u8 0))), none⟩, ⟨354, 11, false, 0, up [wC v.a, wC v.b, wC v.c, wC v.d, wC v.e, wC v.f, wC v.g, wC v.h, C.v (Value.string r2), C.v (Value.int IntKind.u64 n2), C.v (Value.bool true)], none⟩, ⟨24, 1, false, 0, up (outTo v.l i), none⟩]) (fun i (_u : Unit) => True) (8) (()) (by first | trivial | (simp; done) | omega | (intros; simp at *; done)) (by simp [-List.reduceReplicate, keep, iC, outTo, wBytes, bC8]) (by simp [-List.reduceReplicate, iC, outTo, wBytes, bC8]) ?_
  rintro i _u Q1 hi hH next hother
  conv => arg 5; arg 1; simp only [List.cons_append, List.nil_append, keep, get, Nat.reduceEqDiff, if_true, if_false, ↓reduceIte]
  have hwi := wrap_in ((i : Int) + 1) (by omega)
  have hol := outTo_len v.l i (by show i ≤ 8; omega) rfl
  by_cases hlt : i < 8
  · have hlay := outTo_lay v.l i hlt rfl
    have hv : [wC v.a, wC v.b, wC v.c, wC v.d, wC v.e, wC v.f, wC v.g, wC v.h][i]? = some (wC (v.l.getD i 0)) := ws_get v.l i 8 hlt rfl
    have hw1 : IntKind.i64.wrap (4 * (i : Int)) = 4 * (i : Int) := wrap_in _ (by omega)
    have hw2 : IntKind.i64.wrap (4 * (i : Int) + 4) = 4 * (i : Int) + 4 := wrap_in _ (by omega)
    have h8 : (i : Int) < 8 := by omega
    have c1 : 0 ≤ 4 * (i : Int) := by omega
    have c2 : 4 * (i : Int) < 4 * (i : Int) + 4 := by omega
    have c3 : 4 * (i : Int) + 4 ≤ 32 := by omega
    have c4 : 4 * (i : Int) + 4 - 4 * (i : Int) = 4 := by omega
    have c5 : (4 * (i : Int)).toNat = 4 * i := by omega
    have c6 : 4 * i + 4 ≤ 32 := by omega
    have hpl := putN_len (v.l.getD i 0).toNat 4
    have hxl := (v.l.getD i 0).isLt
    have hbt := bs_toList (putN (v.l.getD i 0).toNat 4)
    have hbz := bs_size (putN (v.l.getD i 0).toNat 4)
    generalize v.l.getD i 0 = x at *
    have htk : ∀ f : UInt8 → C, ((putN x.toNat 4).map f).take 4 = (putN x.toNat 4).map f := fun f => List.take_of_length_le (by simp [hpl])
    have hfn : (fun b : UInt8 => C.v (.int .u8 (b.toNat : Int))) = bC8 := rfl
    repeat' (first 
     | (with_reducible first | refine awp_scope ?_ | refine awp_seq ?_ | refine awp_block ?_)
     | ((with_reducible first | refine awp_label ?_ | refine awp_skip ?_ | refine awp_exit ?_ | refine hother _ _ rfl ?_); try simp only [thenA, inBlockA, noGotoA, if_true, Nat.reduceEqDiff, if_false, ↓reduceIte])
     | ((with_reducible first | refine awp_reg 37 hX [0, 2, 3, 4, 5, 6, 9, 18, 19, 20] ?_ | refine awp_drw 37 hX [0, 2, 3, 4, 5, 6, 9, 18, 19, 20] Tab.mixed (by kernel_rfl) ?_ | refine DEv_cut _ _ _ _ _ _ _ _ _ _ _ _ (by kernel_rfl) ?_ | change postOf _ _ _ _ _); simp [-List.reduceReplicate, Nat.add_one_le_iff, -getElem?_pos, -getElem?_neg, iC, hlt, h8, hwi, hv, hw1, hw2, c1, c2, c3, c4, c5, c6, hol, hpl, hbt, hbz, htk, hfn])
     | ((first | (with_reducible refine awp_ret ?_; try simp only [thenA, inBlockA, noGotoA]) | ((with_reducible refine Den.at_ (f := 155) ?_); refine (put32_den x.toNat hxl _).det ?_) | ((with_reducible refine drawn_at (f := 155) ?_); refine ⟨_, _, put32_den x.toNat hxl _, fun _ => rfl, ?_⟩)); try simp [-List.reduceReplicate, Nat.add_one_le_iff, -getElem?_pos, -getElem?_neg, iC, hlt, h8, hwi, hv, hw1, hw2, c1, c2, c3, c4, c5, c6, hol, hpl, hbt, hbz, htk, hfn])
     | (with_reducible refine awp_if_b rfl (fun hc => ?_) (fun hc => ?_) <;> (try simp [-getElem?_pos, -getElem?_neg] at hc) <;> (try (exfalso; omega)))
     | (with_reducible refine And.intro (by omega) ?_)
     | fail)
    refine next _ _ (()) (by omega) (by first | trivial | omega | assumption) (by simp [-List.reduceReplicate, keep, iC, hlay]) (by simp [-List.reduceReplicate, iC, hlay])
  · obtain rfl : i = 8 := by omega
    have hfin : outTo v.l 8 = (wBytes v.l).map bC8 := by
      unfold outTo
      rw [List.take_of_length_le (by show 8 ≤ 8; omega)]
      simp
    have hl32 : (wBytes v.l).length = 32 := wBytes_len v.l
    have htk : ((wBytes v.l).map bC8).take 32 = (wBytes v.l).map bC8 := List.take_of_length_le (by simp [hl32])
    rw [hfin]
    repeat' (first 
     | (with_reducible first | refine awp_scope ?_ | refine awp_seq ?_ | refine awp_block ?_)
     | ((with_reducible first | refine awp_label ?_ | refine awp_skip ?_ | refine awp_exit ?_ | refine hother _ _ rfl ?_); try simp only [thenA, inBlockA, noGotoA, if_true, Nat.reduceEqDiff, if_false, ↓reduceIte])
     | ((with_reducible first | refine awp_reg 37 hX [0, 2, 3, 4, 5, 6, 9, 18, 19, 20] ?_ | refine awp_drw 37 hX [0, 2, 3, 4, 5, 6, 9, 18, 19, 20] Tab.mixed (by kernel_rfl) ?_ | refine DEv_cut _ _ _ _ _ _ _ _ _ _ _ _ (by kernel_rfl) ?_ | change postOf _ _ _ _ _); simp [-List.reduceReplicate, Nat.add_one_le_iff, -getElem?_pos, -getElem?_neg, iC, hl32, htk])
     | ((first | (with_reducible refine awp_ret ?_; try simp only [thenA, inBlockA, noGotoA])); try simp [-List.reduceReplicate, Nat.add_one_le_iff, -getElem?_pos, -getElem?_neg, iC, hl32, htk])
     | (with_reducible refine awp_if_b rfl (fun hc => ?_) (fun hc => ?_) <;> (try simp [-getElem?_pos, -getElem?_neg] at hc) <;> (try (exfalso; omega)))
     | (with_reducible refine And.intro (by omega) ?_)
     | fail)
    rw [hout]
    rfl
end Go.Av

set_option exponentiation.threshold 1000
set_option linter.unusedVariables false
set_option linter.unusedSimpArgs false
set_option maxRecDepth 100000
set_option maxHeartbeats 4000000
namespace Go.Av
open Go Go.Proofs Go.Proofs.YtocccighdkdljaaGreatDoor Go.RowKit
attribute [local simp] List.getElem?_cons_zero List.getElem?_cons_succ
theorem ext_list (t : ByteArray) (a b : Nat) : (t.extract a b).data.toList = (t.data.toList.drop a).take (b - a) := by
  rw [ByteArray.data_extract, Array.toList_extract]
theorem app_list (a b : ByteArray) : (a ++ b).data.toList = a.data.toList ++ b.data.toList := by simp
theorem blk_list (t : ByteArray) (i : Nat) : (blk t i).data.toList = (t.data.toList.drop (64 * i)).take 64 := by
  unfold blk
  rw [ext_list, show 64 * i + 64 - 64 * i = 64 by omega]
def restOf (t : ByteArray) : ByteArray := t.extract (64 * (t.size / 64)) t.size
theorem rest_list (t : ByteArray) : (restOf t).data.toList = t.data.toList.drop (64 * (t.size / 64)) := by
  unfold restOf
  rw [ext_list]
  exact List.take_of_length_le (by rw [List.length_drop, ← size_list]; omega)
theorem rest_size (t : ByteArray) : (restOf t).size = t.size % 64 := by rw [size_list, rest_list, List.length_drop, ← size_list]; omega
theorem blk_rest (t b : ByteArray) (i : Nat) : blk (t ++ b) (t.size / 64 + i) = blk (restOf t ++ b) i := by
  apply ba_ext
  rw [blk_list, blk_list, app_list, app_list, rest_list, Nat.mul_add, ← List.drop_drop, List.drop_append_of_le_length (by rw [← size_list]; omega)]
theorem blocks_congr (s : S8) (t t' : ByteArray) (n : Nat) (h : ∀ i, i < n → blk t i = blk t' i) : blocksTo s t n = blocksTo s t' n := by
  induction n with
  | zero => rfl
  | succ n ih => simp only [blocksTo]; rw [ih fun i hi => h i (by omega), h n (by omega)]
theorem blk_left (t b : ByteArray) (i : Nat) (h : i < t.size / 64) : blk (t ++ b) i = blk t i := by
  apply ba_ext
  rw [blk_list, blk_list, app_list, List.drop_append_of_le_length (by rw [← size_list]; omega), List.take_append_of_le_length (by rw [List.length_drop, ← size_list]; omega)]
theorem blocks_app (s : S8) (t b : ByteArray) (j : Nat) : blocksTo (blocksTo s t (t.size / 64)) (restOf t ++ b) j = blocksTo s (t ++ b) (t.size / 64 + j) := by
  induction j with
  | zero => exact (blocks_congr s _ _ _ fun i hi => blk_left t b i hi).symm
  | succ j ih => simp only [blocksTo]; rw [ih, ← blk_rest]; rfl
theorem count_app (t b : ByteArray) : (t ++ b).size / 64 = t.size / 64 + (restOf t ++ b).size / 64 := by
  rw [ByteArray.size_append, ByteArray.size_append, rest_size]; omega
def stT (t : ByteArray) : Ob := stO (blocksTo firstS t (t.size / 64)) (restOf t) t.size true
def st0 : Ob := stO ⟨0, 0, 0, 0, 0, 0, 0, 0⟩ ⟨#[]⟩ 0 false
def shaL (t : ByteArray) : List UInt8 := wBytes (blocksTo firstS (t ++ bsS (padL t.size)) ((t ++ bsS (padL t.size)).size / 64)).l
theorem empty_app (b : ByteArray) : (⟨#[]⟩ : ByteArray) ++ b = b := by apply ba_ext; simp
theorem write0_den (pre suf : List Ob) (b : ByteArray) (hb : b.size ≤ 1000000) :
    Den Tryz.prog 221 [.mp pre.length 0 0, .c (.v (.string b))] (pre ++ st0 :: suf) (fun r ob' => r = .tup [] ∧ ob' = pre ++ stT b :: suf) := by
  have h := write_den pre suf ⟨0, 0, 0, 0, 0, 0, 0, 0⟩ ⟨#[]⟩ 0 false b (by decide) hb (by omega)
  have hw : wS ⟨0, 0, 0, 0, 0, 0, 0, 0⟩ false = firstS := rfl
  have e2 : (0 + b.size) % 18446744073709551616 = b.size := by omega
  rw [hw, empty_app, e2] at h
  exact h
theorem sumT_den (ob : List Ob) (p : Nat) (t : ByteArray) (hget : ob[p]? = some (stT t)) (ht : t.size ≤ 800000) :
    Den Tryz.prog 222 [.mp p 0 0] ob (fun r ob' => r = hashM (shaL t) ∧ ob' = ob) := by
  have h := stateSum_den ob p _ _ _ _ hget (by rw [rest_size]; omega) (by omega)
  have e : sumS (blocksTo firstS t (t.size / 64)) (restOf t) t.size true = shaL t := by
    unfold sumS shaL
    have hw : wS (blocksTo firstS t (t.size / 64)) true = blocksTo firstS t (t.size / 64) := rfl
    rw [hw, blocks_app, ← count_app]
  rw [e] at h
  exact h
theorem sha_den (b : ByteArray) (hb : b.size ≤ 800000) : DenV Tryz.prog 153 [.c (.v (.string b))] (hashM (shaL b)) := by
  refine Den.frame rfl (lt_hash _ _) ?_
  obtain ⟨out, hout⟩ : ∃ out, out = shaL b := ⟨_, rfl⟩
  rw [← hout]
  refine den_of Tryz.func153 rfl rfl (by simp [Tryz.ntmps153]) (fun X hX hO => ?_)
  rw [Tryz.ntmps153] at hX
  simp only [Tryz.results153]
  have h1 := stateNew_den [⟨24, 1, false, 0, up (List.replicate 32 (C.v (Value.int IntKind.u8 0))), none⟩]
  have h2 := write0_den [⟨24, 1, false, 0, up (List.replicate 32 (C.v (Value.int IntKind.u8 0))), none⟩] [] b (by omega)
  have h3 := sumT_den [⟨24, 1, false, 0, up (List.replicate 32 (C.v (Value.int IntKind.u8 0))), none⟩, stT b] 1 b rfl hb
  rw [← hout] at h3
  have hl : out.length = 32 := by rw [hout]; exact wBytes_len _
  have htk : (out.map bC8).take 32 = out.map bC8 := List.take_of_length_le (by simp [hl])
  change Den Tryz.prog _ _ _ (fun r ob' => r = _ ∧ ob' = _ ++ [st0]) at h1
  simp [-List.reduceReplicate] at h1 h2
  repeat' (first 
   | (with_reducible first | refine awp_scope ?_ | refine awp_seq ?_ | refine awp_block ?_)
   | ((with_reducible first | refine awp_label ?_ | refine awp_skip ?_ | refine awp_exit ?_); try simp only [thenA, inBlockA, noGotoA, if_true, Nat.reduceEqDiff, if_false, ↓reduceIte])
   | ((with_reducible first | refine awp_reg 10 hX [0, 2, 3] ?_ | change postOf _ _ _ _ _); simp [-List.reduceReplicate, Nat.add_one_le_iff, -getElem?_pos, -getElem?_neg, hashM, hl, htk])
   | ((first | (with_reducible refine awp_ret ?_; try simp only [thenA, inBlockA, noGotoA]) | (refine (h1).det ?_) | (refine (h2).det ?_) | (refine (h3).det ?_)); try simp [-List.reduceReplicate, Nat.add_one_le_iff, -getElem?_pos, -getElem?_neg, hashM, hl, htk])
   | (with_reducible refine awp_if_b rfl (fun hc => ?_) (fun hc => ?_) <;> (try simp [-getElem?_pos, -getElem?_neg] at hc) <;> (try (exfalso; omega)))
   | (with_reducible refine And.intro (by omega) ?_)
   | fail)
end Go.Av

set_option exponentiation.threshold 1000
set_option linter.unusedVariables false
set_option linter.unusedSimpArgs false
set_option maxRecDepth 100000
set_option maxHeartbeats 4000000
namespace Go.Av
open Go Go.Proofs Go.Proofs.YtocccighdkdljaaGreatDoor Go.RowKit
attribute [local simp] List.getElem?_cons_zero List.getElem?_cons_succ
def outTo2 (l : List W) (j : Nat) (p : List UInt8) (q : Nat) : List C := (wBytes (l.take j) ++ p.take q).map bC8 ++ List.replicate (32 - 4 * j - q) (bC8 0)
end Go.Av

set_option exponentiation.threshold 1000
set_option linter.unusedVariables false
set_option linter.unusedSimpArgs false
set_option maxRecDepth 100000
set_option maxHeartbeats 4000000
namespace Go.Av
open Go Go.Proofs Go.Proofs.YtocccighdkdljaaGreatDoor Go.RowKit
attribute [local simp] List.getElem?_cons_zero List.getElem?_cons_succ
theorem shaL_len (t : ByteArray) : (shaL t).length = 32 := wBytes_len _
def primes8 : List Nat := [2, 3, 5, 7, 11, 13, 17, 19]
end Go.Av

set_option exponentiation.threshold 1000
set_option linter.unusedVariables false
set_option linter.unusedSimpArgs false
set_option maxRecDepth 100000
set_option maxHeartbeats 4000000
namespace Go.Av
open Go Go.Proofs Go.Proofs.YtocccighdkdljaaGreatDoor Go.RowKit
attribute [local simp] List.getElem?_cons_zero List.getElem?_cons_succ
def OpensW (P : Program) (t : TypeId) {A : Type} (enc : A → List C) (Hyp : A → Prop) : Prop :=
  ∀ (H : Type) (e0 : TypeId × Value → H) (W : World) (fuel : Nat) (cs : List Value) (x : DataW H × List MemPlace), (x.1.weights P t).all (· ≤ reachBytes) = true → DataW.trod e0 P W 0 (fun _ => true) true fuel t cs = some x → ∃ a, Hyp a ∧ Reads W (enc a) cs
theorem OpensW.conv {P : Program} {t : TypeId} {A B : Type} {enc : A → List C} {Hyp : A → Prop} {enc' : B → List C} {Hyp' : B → Prop} (h : OpensW P t enc Hyp) (hc : ∀ a, Hyp a → ∃ b, Hyp' b ∧ enc' b = enc a) : OpensW P t enc' Hyp' := fun H e0 W fuel cs x hw hx => by
  obtain ⟨a, ha, hr⟩ := h H e0 W fuel cs x hw hx
  obtain ⟨b, hb, he⟩ := hc a ha
  exact ⟨b, hb, by rw [he]; exact hr⟩
abbrev H32 := {l : List UInt8 // l.length = 32}
theorem opens_hash {P : Program} {t e : TypeId} (ht : P.underlying t = some (.array 32 e)) (he : P.underlying e = some (.int .u8)) (hc : P.cellsOf e = 1) (hct : P.cellsOf t = 32) :
    Opens P t (fun h : H32 => h.1.map bC8) (fun _ => True) :=
  (opens_array ht (by rw [hct, hc]) (by simp [hc]) (opens_int he)).conv fun l ⟨hl, hw⟩ => by
    refine ⟨⟨l.map fun n => UInt8.ofNat n.toNat, by simp [hl]⟩, trivial, ?_⟩
    have key : ∀ l' : List Int, (∀ n ∈ l', (Lit.int .u8 n).wf = true) → (l'.map fun n => UInt8.ofNat n.toNat).map bC8 = l'.flatMap fun n => [C.v (.int .u8 n)] := fun l' => by
      induction l' with
      | nil => intro _; rfl
      | cons n r ih =>
        intro hw
        have h : 0 ≤ n ∧ n ≤ 255 := by simpa [Lit.wf, IntKind.min, IntKind.max, IntKind.signed, IntKind.bits] using hw n (by simp)
        simp only [List.map_cons, List.flatMap_cons]
        rw [ih fun x hx => hw x (by simp [hx])]
        simp only [List.singleton_append, bC8, UInt8.toNat_ofNat']
        congr 4
        omega
    exact key l hw
end Go.Av

set_option exponentiation.threshold 1000
set_option linter.unusedVariables false
set_option linter.unusedSimpArgs false
set_option maxRecDepth 100000
set_option maxHeartbeats 4000000
namespace Go.Av
open Go Go.Proofs Go.Proofs.YtocccighdkdljaaGreatDoor Go.RowKit
attribute [local simp] List.getElem?_cons_zero List.getElem?_cons_succ
end Go.Av

set_option exponentiation.threshold 1000
set_option linter.unusedVariables false
set_option linter.unusedSimpArgs false
set_option maxRecDepth 100000
set_option maxHeartbeats 4000000
namespace Go.Av
open Go Go.Proofs Go.Proofs.YtocccighdkdljaaGreatDoor Go.RowKit
attribute [local simp] List.getElem?_cons_zero List.getElem?_cons_succ
theorem headerSum_den (s : ByteArray) (hs : s.size ≤ 500000) : DenV Tryz.prog 95 [.c (.v (.string s))] (hashM (shaL (bsS (headT s)))) := by
  have h1 : (bsS (headT s)).size = s.size + 1 := by rw [bs_size]; simp [headT]
  have h := sha_den (bsS (headT s)) (by omega)
  have ht := headerText_den s (by omega)
  have hl := shaL_len (bsS (headT s))
  generalize shaL (bsS (headT s)) = x at *
  generalize bsS (headT s) = y at *
  refine Den.frame rfl (lt_hash _ _) ?_
  refine den_of Tryz.func95 rfl rfl (by simp [Tryz.ntmps95]) (fun X hX hO => ?_)
  rw [Tryz.ntmps95] at hX
  simp only [Tryz.results95]
  have t1 := hash_take x hl
  repeat' (first 
   | (with_reducible first | refine awp_scope ?_ | refine awp_seq ?_ | refine awp_block ?_)
   | ((with_reducible first | refine awp_label ?_ | refine awp_skip ?_ | refine awp_exit ?_); try simp only [thenA, inBlockA, noGotoA, if_true, Nat.reduceEqDiff, if_false, ↓reduceIte])
   | ((with_reducible first | refine awp_reg 6 hX [0, 2] ?_ | change postOf _ _ _ _ _); simp [-List.reduceReplicate, Nat.add_one_le_iff, -getElem?_pos, -getElem?_neg, hashM, hl, t1])
   | ((first | (with_reducible refine awp_ret ?_; try simp only [thenA, inBlockA, noGotoA]) | (refine (ht _).det ?_) | (refine (h _).det ?_)); try simp [-List.reduceReplicate, Nat.add_one_le_iff, -getElem?_pos, -getElem?_neg, hashM, hl, t1])
   | (with_reducible refine awp_if_b rfl (fun hc => ?_) (fun hc => ?_) <;> (try simp [-getElem?_pos, -getElem?_neg] at hc) <;> (try (exfalso; omega)))
   | (with_reducible refine And.intro (by omega) ?_)
   | fail)
theorem rootSum_den (n : Nat) (a : List UInt8) (hn : n < 18446744073709551616) (ha : a.length = 32) : DenV Tryz.prog 148 [.c (u64C n), hashM a] (hashM (shaL (bsS (rootT n a)))) := by
  have h1 : (bsS (rootT n a)).size = 41 := by rw [bs_size]; simp [rootT, ha, putN_len]
  have h := sha_den (bsS (rootT n a)) (by omega)
  have ht := rootText_den n a hn ha
  have hl := shaL_len (bsS (rootT n a))
  generalize shaL (bsS (rootT n a)) = x at *
  generalize bsS (rootT n a) = y at *
  refine Den.frame (by simp [ltBs, ltB, lt_hash]) (lt_hash _ _) ?_
  refine den_of Tryz.func148 rfl rfl (by simp [Tryz.ntmps148]) (fun X hX hO => ?_)
  rw [Tryz.ntmps148] at hX
  simp only [Tryz.results148]
  have t1 := hash_take x hl
  have t2 := hash_take a ha
  repeat' (first 
   | (with_reducible first | refine awp_scope ?_ | refine awp_seq ?_ | refine awp_block ?_)
   | ((with_reducible first | refine awp_label ?_ | refine awp_skip ?_ | refine awp_exit ?_); try simp only [thenA, inBlockA, noGotoA, if_true, Nat.reduceEqDiff, if_false, ↓reduceIte])
   | ((with_reducible first | refine awp_reg 9 hX [0, 3, 4] ?_ | change postOf _ _ _ _ _); simp [-List.reduceReplicate, Nat.add_one_le_iff, -getElem?_pos, -getElem?_neg, hashM, hl, ha, t1, t2, u64C])
   | ((first | (with_reducible refine awp_ret ?_; try simp only [thenA, inBlockA, noGotoA]) | (refine (ht _).det ?_) | (refine (h _).det ?_)); try simp [-List.reduceReplicate, Nat.add_one_le_iff, -getElem?_pos, -getElem?_neg, hashM, hl, ha, t1, t2, u64C])
   | (with_reducible refine awp_if_b rfl (fun hc => ?_) (fun hc => ?_) <;> (try simp [-getElem?_pos, -getElem?_neg] at hc) <;> (try (exfalso; omega)))
   | (with_reducible refine And.intro (by omega) ?_)
   | fail)
end Go.Av

set_option exponentiation.threshold 1000
set_option linter.unusedVariables false
set_option linter.unusedSimpArgs false
set_option maxRecDepth 100000
set_option maxHeartbeats 4000000
namespace Go.Av
open Go Go.Proofs Go.Proofs.YtocccighdkdljaaGreatDoor Go.RowKit
attribute [local simp] List.getElem?_cons_zero List.getElem?_cons_succ
theorem data_inj (a b : ByteArray) : a.data.toList = b.data.toList ↔ a = b := ⟨ba_ext, fun h => by rw [h]⟩
def textAt (s : ByteArray) (a b : List UInt8) (n : Nat) : List (List UInt8) := [leafT s, nodeT a b, rootT n a, headT s]
def sameAt (s t : ByteArray) (a b c d : List UInt8) (n m : Nat) : List Bool := [decide (s = t), decide (a = c) && decide (b = d), decide (n = m) && decide (a = c), decide (s = t)]
theorem toList_inj (x y : ByteArray) : x.toList = y.toList ↔ x = y := by rw [toList_data, toList_data]; exact data_inj x y
end Go.Av

set_option exponentiation.threshold 1000
set_option linter.unusedVariables false
set_option linter.unusedSimpArgs false
set_option maxRecDepth 100000
set_option maxHeartbeats 4000000
namespace Go.Av
open Go Go.Proofs Go.Proofs.YtocccighdkdljaaGreatDoor Go.RowKit
attribute [local simp] List.getElem?_cons_zero List.getElem?_cons_succ
structure HD where
  v : Nat
  a : H32
  b : H32
  n : Nat
def u32v (n : Nat) : C := .v (.int .u32 (n : Int))
def hdC (h : HD) : List C := u32v h.v :: (h.a.1.map bC8 ++ (h.b.1.map bC8 ++ [u64C h.n]))
def HDok (h : HD) : Prop := h.v < 4294967296 ∧ h.n < 18446744073709551616
def hdL (h : HD) : List UInt8 := putN h.v 4 ++ (h.a.1 ++ (h.b.1 ++ putN h.n 8))
def hdM (h : HD) : M := .agg (up (hdC h))
theorem hdC_len (h : HD) : (hdC h).length = 66 := by simp [hdC, h.a.2, h.b.2]
theorem hdL_len (h : HD) : (hdL h).length = 76 := by simp [hdL, h.a.2, h.b.2, putN_len]
theorem hdC_0 (h : HD) : (hdC h)[0]? = some (u32v h.v) := rfl
theorem hdC_1 (h : HD) : ((hdC h).drop 1).take 32 = h.a.1.map bC8 := by
  simp only [hdC, List.drop_succ_cons, List.drop_zero]
  rw [List.take_append_of_le_length (by simp [h.a.2]), List.take_of_length_le (by simp [h.a.2])]
theorem hdC_33 (h : HD) : ((hdC h).drop 33).take 32 = h.b.1.map bC8 := by
  simp only [hdC, List.drop_succ_cons, List.drop_zero]
  rw [List.drop_append_of_le_length (by simp [h.a.2]), List.drop_of_length_le (by simp [h.a.2]), List.nil_append, List.take_append_of_le_length (by simp [h.b.2]), List.take_of_length_le (by simp [h.b.2])]
theorem hdC_65 (h : HD) : (hdC h)[65]? = some (u64C h.n) := by
  simp only [hdC, List.getElem?_cons_succ]
  rw [List.getElem?_append_right (by simp [h.a.2]), List.getElem?_append_right (by simp [h.a.2, h.b.2])]
  simp [h.a.2, h.b.2]
theorem hdC_66 (h : HD) : (hdC h).take 66 = hdC h := List.take_of_length_le (by rw [hdC_len]; exact Nat.le_refl _)
theorem hdC_up1 (h : HD) : List.take 32 (up (hdC h)).tail = up (h.a.1.map bC8) := by
  have := hdC_1 h
  simp only [List.drop_one] at this
  simp only [up, ← List.map_tail, ← List.map_take]
  rw [this]
theorem headBytes_den (h : HD) (hok : HDok h) : DenV Tryz.prog 96 [hdM h] (.c (.v (.string (bsS (hdL h))))) := by
  refine Den.frame (by simp [ltBs, ltB, hdM, ltBs_up]) rfl ?_
  have c0 := hdC_0 h
  have c1 := hdC_1 h
  have c1' := hdC_up1 h
  have c2 := hdC_33 h
  have c3 := hdC_65 h
  have c4 := hdC_len h
  have c5 := hdC_66 h
  have l4 := putN_len h.v 4
  have l8 := putN_len h.n 8
  have b1 := bytesM_b8 h.a.1
  have b2 := bytesM_b8 h.b.1
  have la := h.a.2
  have lb := h.b.2
  have p1 := put32_den h.v hok.1
  have p2 := put64_den h.n hok.2
  unfold hdM hdL
  generalize hdC h = hd at *
  refine den_of Tryz.func96 rfl rfl (by simp [Tryz.ntmps96]) (fun X hX hO => ?_)
  rw [Tryz.ntmps96] at hX
  simp only [Tryz.results96]
  repeat' (first 
   | (with_reducible first | refine awp_scope ?_ | refine awp_seq ?_ | refine awp_block ?_)
   | ((with_reducible first | refine awp_label ?_ | refine awp_skip ?_ | refine awp_exit ?_); try simp only [thenA, inBlockA, noGotoA, if_true, Nat.reduceEqDiff, if_false, ↓reduceIte])
   | ((with_reducible first | refine awp_reg 18 hX [1, 2] ?_ | refine awp_drw 18 hX [1, 2] Tab.mixed (by kernel_rfl) ?_ | refine DEv_cut _ _ _ _ _ _ _ _ _ _ _ _ (by kernel_rfl) ?_ | change postOf _ _ _ _ _); simp [-List.reduceReplicate, Nat.add_one_le_iff, -getElem?_pos, -getElem?_neg, c0, c1, c1', c2, c3, c4, c5, u32v, u64C, b1, b2, la, lb, l4, l8, bs_append, bs_size, of_list])
   | ((first | (with_reducible refine awp_ret ?_; try simp only [thenA, inBlockA, noGotoA]) | (refine (p1 _).det ?_) | (refine ⟨_, _, p1 _, fun _ => rfl, ?_⟩) | (refine (p2 _).det ?_) | (refine ⟨_, _, p2 _, fun _ => rfl, ?_⟩)); try simp [-List.reduceReplicate, Nat.add_one_le_iff, -getElem?_pos, -getElem?_neg, c0, c1, c1', c2, c3, c4, c5, u32v, u64C, b1, b2, la, lb, l4, l8, bs_append, bs_size, of_list])
   | (with_reducible refine awp_if_b rfl (fun hc => ?_) (fun hc => ?_) <;> (try simp [-getElem?_pos, -getElem?_neg] at hc) <;> (try (exfalso; omega)))
   | (with_reducible refine And.intro (by omega) ?_)
   | fail)
end Go.Av

set_option linter.unusedVariables false
set_option linter.unusedSimpArgs false
namespace Go.Av
open Go Go.Proofs
attribute [local simp] List.getElem?_cons_zero List.getElem?_cons_succ
attribute [local simp] Tryz.underlying44 Tryz.underlying53 Tryz.underlying3
def row (v : List (List Int)) (i : Int) : List Int := (v[i.toNat]?).getD []
def beats (v : List (List Int)) (i k : Int) : Bool := decide (0 ≤ i) && decide (i < v.length) && decide (0 ≤ k) && decide (k < (row v i).length) && decide (0 < ((row v i)[k.toNat]?).getD 0)
set_option maxRecDepth 100000 in
set_option maxHeartbeats 2000000 in
theorem beats_den (v : List (List Int)) (i k : Int) (ob : List Ob) : Den Tryz.prog 113 [.c (rowsC v), .c (iC i), .c (iC k)] ob (fun r ob' => r = .c (bC (beats v i k)) ∧ ob' = ob) := by
  refine den_of Tryz.func113 rfl rfl (by simp [Tryz.ntmps113]) (fun X hX hO => ?_)
  rw [Tryz.ntmps113] at hX
  simp only [Tryz.results113]
  refine awp_seq (awp_region ?_)
  rw [hX]
  simp [iC, rowsC]
  refine awp_seq (awp_region ?_)
  rw [hX]
  have fin : ∀ (fr : List (Nat × M)) (b : Bool), get fr 6 = some (.c (bC b)) → b = beats v i k → thenA (Awp Tryz.prog X Code.ret (postOf Tryz.prog [ResultVar.tmp 6] fun r ob' => r = .c (bC (beats v i k)) ∧ ob' = ob)) (postOf Tryz.prog [ResultVar.tmp 6] fun r ob' => r = .c (bC (beats v i k)) ∧ ob' = ob) Exit.normal ⟨fr, ob⟩ := by
    intro fr b h1 h2
    refine awp_ret ?_
    simp [h1, h2]
  generalize hQ : (thenA _ _ _ : St → Prop) = K at fin
  clear hQ
  by_cases h1 : 0 ≤ i
  · by_cases h2 : i < v.length
    · obtain ⟨r, hr⟩ := getI v i h1 h2
      by_cases h3 : 0 ≤ k
      · by_cases h4 : k < r.length
        · obtain ⟨x, hx⟩ := getI r k h3 h4
          simp [-getElem?_pos, iC, rowsC, h1, h2, h3, h4, hr, intsC, hx]
          exact fin _ (decide (0 < x)) (by simp [bC]) (by simp [-getElem?_pos, beats, row, hr, h1, h2, h3, h4, hx])
        · simp [-getElem?_pos, iC, rowsC, h1, h2, h3, h4, hr, intsC]
          exact fin _ false (by simp [bC]) (by simp [-getElem?_pos, beats, row, hr, h1, h2, h3, h4])
      · simp [-getElem?_pos, iC, rowsC, h1, h2, h3]
        exact fin _ false (by simp [bC]) (by simp [beats, h3])
    · simp [-getElem?_pos, iC, rowsC, h1, h2]
      exact fin _ false (by simp [bC]) (by simp [beats, h2])
  · simp [-getElem?_pos, iC, rowsC, h1]
    exact fin _ false (by simp [bC]) (by simp [beats, h1])
end Go.Av

set_option linter.unusedVariables false
set_option linter.unusedSimpArgs false
namespace Go.Av
open Go Go.Proofs
attribute [local simp] List.getElem?_cons_zero List.getElem?_cons_succ
def isTop (v : List (List Int)) (i : Nat) : Bool := (List.range v.length).all fun k => decide (k = i) || beats v i k
def topsTo (v : List (List Int)) (m : Nat) : List Int := ((List.range m).filter (isTop v)).map Int.ofNat
def tops (v : List (List Int)) : List Int := topsTo v v.length
end Go.Av

set_option linter.unusedVariables false
set_option linter.unusedSimpArgs false
namespace Go.Av
open Go Go.Proofs Go.Proofs.YtocccighdkdljaaGreatDoor
attribute [local simp] List.getElem?_cons_zero List.getElem?_cons_succ
attribute [local simp] Tryz.underlying44 Tryz.underlying53 Tryz.underlying3
def winsTo (v : List (List Int)) (i : Int) (m : Nat) : Nat := ((List.range m).filter fun (k : Nat) => !decide ((k : Int) = i) && beats v i k).length
theorem winsTo_succ (v : List (List Int)) (i : Int) (m : Nat) : winsTo v i (m + 1) = winsTo v i m + if (!decide ((m : Int) = i) && beats v i m) = true then 1 else 0 := by
  unfold winsTo
  rw [List.range_succ, List.filter_append, List.length_append]
  congr 1
  simp only [List.filter_cons, List.filter_nil]
  split <;> rfl
theorem winsTo_le (v : List (List Int)) (i : Int) (m : Nat) : winsTo v i m ≤ m := by
  unfold winsTo
  exact Nat.le_trans (List.length_filter_le _ _) (by simp)
end Go.Av

set_option linter.unusedVariables false
set_option linter.unusedSimpArgs false
namespace Go.Av
open Go Go.Proofs Go.Proofs.YtocccighdkdljaaGreatDoor
attribute [local simp] List.getElem?_cons_zero List.getElem?_cons_succ
attribute [local simp] Tryz.underlying44 Tryz.underlying53 Tryz.underlying3
def foldTo (v : List (List Int)) (o : List Int) : Nat → Int
  | 0 => -1
  | m + 1 => if m = 0 ∨ beats v ((o[m]?).getD 0) (foldTo v o m) = true then (o[m]?).getD 0 else foldTo v o m
def great (v : List (List Int)) : Bool := ((v.take 30).any fun r => decide (30 < r.length)) || decide (20 < v.length)
end Go.Av

set_option linter.unusedVariables false
set_option linter.unusedSimpArgs false
namespace Go.Av
open Go Go.Proofs Go.Proofs.YtocccighdkdljaaGreatDoor
attribute [local simp] List.getElem?_cons_zero List.getElem?_cons_succ
attribute [local simp] Tryz.underlying44 Tryz.underlying53 Tryz.underlying3
def foldTopsWant (v : List (List Int)) (m : Nat) : List Int := ((List.range m).filter fun (i : Nat) => decide ((winsTo v i v.length : Int) = v.length - 1)).map Int.ofNat
end Go.Av

set_option linter.unusedVariables false
set_option linter.unusedSimpArgs false
namespace Go.Av
open Go Go.Proofs Go.Proofs.YtocccighdkdljaaGreatDoor
attribute [local simp] List.getElem?_cons_zero List.getElem?_cons_succ
end Go.Av

set_option linter.unusedVariables false
set_option linter.unusedSimpArgs false
namespace Go.Av
open Go Go.Proofs Go.Proofs.YtocccighdkdljaaGreatDoor
attribute [local simp] List.getElem?_cons_zero List.getElem?_cons_succ
attribute [local simp] Tryz.underlying44 Tryz.underlying53 Tryz.underlying3 Tryz.underlying4
def rowN (v : List (List Int)) (i : Nat) : List Int := (v[i]?).getD []
def cellN (v : List (List Int)) (i k : Nat) : Int := ((rowN v i)[k]?).getD 0
def duelAt (v : List (List Int)) (i k : Nat) : Bool :=
  decide ((rowN v k).length = v.length) && (decide (cellN v i k = IntKind.i64.wrap (-cellN v k i)) && (decide (-1 ≤ cellN v i k) && decide (cellN v i k ≤ 1)))
def duelTo (v : List (List Int)) (i : Nat) (m : Nat) : Bool := (List.range m).all (duelAt v i)
def duelRow (v : List (List Int)) (i : Nat) : Bool := (decide ((rowN v i).length = v.length) && decide (cellN v i i = 0)) && duelTo v i (rowN v i).length
def duelB (v : List (List Int)) : Bool := (List.range v.length).all (duelRow v)
end Go.Av

set_option linter.unusedVariables false
set_option linter.unusedSimpArgs false
namespace Go.Av
open Go Go.Proofs Go.Proofs.YtocccighdkdljaaGreatDoor
attribute [local simp] List.getElem?_cons_zero List.getElem?_cons_succ
attribute [local simp] Tryz.underlying44 Tryz.underlying53 Tryz.underlying3 Tryz.underlying4 Tryz.underlying43 Tryz.underlying9
def sC (s : ByteArray) : C := .v (.string s)
def strsC (l : List ByteArray) : C := .sl (l.map sC) l.length false
def less (a b : ByteArray) : Bool := Op.bytesLess a.toList b.toList
def winsAll (v : List (List Int)) (m : Nat) : List Int := (List.range m).map fun (i : Nat) => (winsTo v i v.length : Int)
theorem winsAll_succ (v : List (List Int)) (m : Nat) : winsAll v (m + 1) = winsAll v m ++ [(winsTo v m v.length : Int)] := by
  simp [winsAll, List.range_succ]
theorem winsAll_len (v : List (List Int)) (m : Nat) : (winsAll v m).length = m := by simp [winsAll]
theorem winsAll_get (v : List (List Int)) (m i : Nat) (h : i < m) : (winsAll v m)[i]? = some (winsTo v i v.length : Int) := by simp [winsAll, h]
set_option maxRecDepth 100000 in
set_option maxHeartbeats 4000000 in
theorem cupWins_own (v : List (List Int)) (ob : List Ob) (hn : v.length ≤ 1000000) : Den Tryz.prog 66 [.c (rowsC v)] ob (fun r ob' => ∃ g o, r = .ms ob.length g 0 (winsAll v v.length).length ∧ ob' = ob ++ [o] ∧ o.gen = g ∧ o.cs = up ((winsAll v v.length).map iC)) := by
  refine den_of Tryz.func66 rfl rfl (by simp [Tryz.ntmps66]) (fun X hX hO => ?_)
  rw [Tryz.ntmps66] at hX
  simp only [Tryz.results66]
  generalize hQ : (fun (r : M) (ob' : List Ob) => ∃ g o, r = .ms ob.length g 0 (winsAll v v.length).length ∧ ob' = ob ++ [o] ∧ o.gen = g ∧ o.cs = up ((winsAll v v.length).map iC)) = Q
  repeat' (first 
   | (with_reducible first | refine awp_scope ?_ | refine awp_seq ?_ | refine awp_block ?_)
   | ((with_reducible first | refine awp_label ?_ | refine awp_skip ?_ | refine awp_exit ?_ | refine hother _ _ rfl ?_ | refine hother2 _ _ rfl ?_); try simp only [thenA, inBlockA, noGotoA, if_true, Nat.reduceEqDiff, if_false, ↓reduceIte])
   | ((with_reducible first | refine awp_reg 35 hX [0, 2, 3, 4, 5, 6, 8, 9, 10, 13, 14, 15, 25] ?_ | change postOf _ _ _ _ _); simp [-List.reduceReplicate, Nat.add_one_le_iff, -getElem?_pos, -getElem?_neg, rowsC, iC])
   | ((first | (with_reducible refine awp_ret ?_; try simp only [thenA, inBlockA, noGotoA])); try simp [-List.reduceReplicate, Nat.add_one_le_iff, -getElem?_pos, -getElem?_neg, rowsC, iC])
   | (with_reducible refine awp_if_b rfl (fun hc => ?_) (fun hc => ?_) <;> (try simp [-getElem?_pos, -getElem?_neg] at hc) <;> (try (exfalso; omega)))
   | ((with_reducible first | refine GuardK_b (fun hc => ?_) (fun hc => ?_)) <;> (try simp only [Bool.not_eq_true', Bool.not_eq_false', decide_eq_true_eq, decide_eq_false_iff_not] at hc) <;> (first | (exfalso; omega) | skip) <;> simp [-List.reduceReplicate, Nat.add_one_le_iff, -getElem?_pos, -getElem?_neg, rowsC, iC, hc])
   | (with_reducible refine And.intro (by omega) ?_)
   | fail)
  refine awp_nil 3 3 1 (by simp) ?_
  simp
  refine awp_for [0, 3, 8, 9] (fun i (p : Nat × Bool) => ⟨[(0, .c (rowsC v)), (3, .ms ob.length p.1 0 (winsAll v i).length), (8, .c (iC v.length)), (9, .c (iC i))], ob ++ [⟨3, 1, p.2, p.1, up ((winsAll v i).map iC), none⟩]⟩) (fun i _ => True) v.length (0, true) trivial (by simp [rowsC, winsAll, iC, up]) ?_
  rintro i ⟨g, b⟩ Q1 hi - next hother
  have hwi := wrap_in ((i : Int) + 1) (by omega)
  have hl := winsAll_len v i
  by_cases hlt : i < v.length
  · repeat' (first 
     | (with_reducible first | refine awp_scope ?_ | refine awp_seq ?_ | refine awp_block ?_)
     | ((with_reducible first | refine awp_label ?_ | refine awp_skip ?_ | refine awp_exit ?_ | refine hother _ _ rfl ?_ | refine hother2 _ _ rfl ?_); try simp only [thenA, inBlockA, noGotoA, if_true, Nat.reduceEqDiff, if_false, ↓reduceIte])
     | ((with_reducible first | refine awp_reg 35 hX [0, 2, 3, 4, 5, 6, 8, 9, 10, 13, 14, 15, 25] ?_ | change postOf _ _ _ _ _); simp [-List.reduceReplicate, Nat.add_one_le_iff, -getElem?_pos, -getElem?_neg, rowsC, iC, bC, hlt, hl])
     | ((first | (with_reducible refine awp_ret ?_; try simp only [thenA, inBlockA, noGotoA])); try simp [-List.reduceReplicate, Nat.add_one_le_iff, -getElem?_pos, -getElem?_neg, rowsC, iC, bC, hlt, hl])
     | (with_reducible refine awp_if_b rfl (fun hc => ?_) (fun hc => ?_) <;> (try simp [-getElem?_pos, -getElem?_neg] at hc) <;> (try (exfalso; omega)))
     | ((with_reducible first | refine GuardK_b (fun hc => ?_) (fun hc => ?_)) <;> (try simp only [Bool.not_eq_true', Bool.not_eq_false', decide_eq_true_eq, decide_eq_false_iff_not] at hc) <;> (first | (exfalso; omega) | skip) <;> simp [-List.reduceReplicate, Nat.add_one_le_iff, -getElem?_pos, -getElem?_neg, rowsC, iC, bC, hlt, hl, hc])
     | (with_reducible refine And.intro (by omega) ?_)
     | fail)
    refine awp_for [0, 3, 4, 5, 8, 9, 13, 14] (fun k (_ : Unit) => ⟨[(0, .c (rowsC v)), (3, .ms ob.length g 0 i), (4, .c (iC i)), (5, .c (iC (winsTo v i k))), (8, .c (iC v.length)), (9, .c (iC i)), (13, .c (iC v.length)), (14, .c (iC k))], ob ++ [⟨3, 1, b, g, up ((winsAll v i).map iC), none⟩]⟩) (fun _ _ => True) v.length () trivial (by simp [rowsC, iC, winsTo]) ?_
    rintro k - Q2 hk - next2 hother2
    have hw := winsTo_le v i k
    have hwk := wrap_in ((k : Int) + 1) (by omega)
    have hww := wrap_in ((winsTo v i k : Int) + 1) (by omega)
    have hs := winsTo_succ v i k
    by_cases hkl : k < v.length
    · repeat' (first 
       | (with_reducible first | refine awp_scope ?_ | refine awp_seq ?_ | refine awp_block ?_)
       | ((with_reducible first | refine awp_label ?_ | refine awp_skip ?_ | refine awp_exit ?_ | refine hother _ _ rfl ?_ | refine hother2 _ _ rfl ?_); try simp only [thenA, inBlockA, noGotoA, if_true, Nat.reduceEqDiff, if_false, ↓reduceIte])
       | ((with_reducible first | refine awp_reg 35 hX [0, 2, 3, 4, 5, 6, 8, 9, 10, 13, 14, 15, 25] ?_ | change postOf _ _ _ _ _); simp [-List.reduceReplicate, Nat.add_one_le_iff, -getElem?_pos, -getElem?_neg, rowsC, iC, bC, hwk, hww, hkl])
       | ((first | (with_reducible refine awp_ret ?_; try simp only [thenA, inBlockA, noGotoA]) | ((with_reducible refine Den.at_ (f := 113) ?_); refine (beats_den _ _ _ _).det ?_)); try simp [-List.reduceReplicate, Nat.add_one_le_iff, -getElem?_pos, -getElem?_neg, rowsC, iC, bC, hwk, hww, hkl])
       | (with_reducible refine awp_if_b rfl (fun hc => ?_) (fun hc => ?_) <;> (try simp [-getElem?_pos, -getElem?_neg] at hc) <;> (try (exfalso; omega)))
       | ((with_reducible first | refine GuardK_b (fun hc => ?_) (fun hc => ?_)) <;> (try simp only [Bool.not_eq_true', Bool.not_eq_false', decide_eq_true_eq, decide_eq_false_iff_not] at hc) <;> (first | (exfalso; omega) | skip) <;> simp [-List.reduceReplicate, Nat.add_one_le_iff, -getElem?_pos, -getElem?_neg, rowsC, iC, bC, hwk, hww, hkl, hc])
       | (with_reducible refine And.intro (by omega) ?_)
       | fail)
      · refine next2 _ () (by omega) trivial ?_; simp_all [rowsC, iC]
      · refine next2 _ () (by omega) trivial ?_; simp_all [rowsC, iC]
      · refine next2 _ () (by omega) trivial ?_; simp_all [rowsC, iC]
    · have hkv : k = v.length := by omega
      subst hkv
      repeat' (first 
       | (with_reducible first | refine awp_scope ?_ | refine awp_seq ?_ | refine awp_block ?_)
       | ((with_reducible first | refine awp_label ?_ | refine awp_skip ?_ | refine awp_exit ?_ | refine hother _ _ rfl ?_ | refine hother2 _ _ rfl ?_); try simp only [thenA, inBlockA, noGotoA, if_true, Nat.reduceEqDiff, if_false, ↓reduceIte])
       | ((with_reducible first | refine awp_reg 35 hX [0, 2, 3, 4, 5, 6, 8, 9, 10, 13, 14, 15, 25] ?_ | change postOf _ _ _ _ _); simp [-List.reduceReplicate, Nat.add_one_le_iff, -getElem?_pos, -getElem?_neg, rowsC, iC, bC, hwi, hkl, hl, roomB])
       | ((first | (with_reducible refine awp_ret ?_; try simp only [thenA, inBlockA, noGotoA])); try simp [-List.reduceReplicate, Nat.add_one_le_iff, -getElem?_pos, -getElem?_neg, rowsC, iC, bC, hwi, hkl, hl, roomB])
       | (with_reducible refine awp_if_b rfl (fun hc => ?_) (fun hc => ?_) <;> (try simp [-getElem?_pos, -getElem?_neg] at hc) <;> (try (exfalso; omega)))
       | ((with_reducible first | refine GuardK_b (fun hc => ?_) (fun hc => ?_)) <;> (try simp only [Bool.not_eq_true', Bool.not_eq_false', decide_eq_true_eq, decide_eq_false_iff_not] at hc) <;> (first | (exfalso; omega) | skip) <;> simp [-List.reduceReplicate, Nat.add_one_le_iff, -getElem?_pos, -getElem?_neg, rowsC, iC, bC, hwi, hkl, hl, roomB, hc])
       | (with_reducible refine And.intro (by omega) ?_)
       | fail)
      refine next _ (g + 1, false) (by omega) trivial ?_
      rw [winsAll_succ]
      simp [rowsC, iC, hl]
  · repeat' (first 
     | (with_reducible first | refine awp_scope ?_ | refine awp_seq ?_ | refine awp_block ?_)
     | ((with_reducible first | refine awp_label ?_ | refine awp_skip ?_ | refine awp_exit ?_ | refine hother _ _ rfl ?_ | refine hother2 _ _ rfl ?_); try simp only [thenA, inBlockA, noGotoA, if_true, Nat.reduceEqDiff, if_false, ↓reduceIte])
     | ((with_reducible first | refine awp_reg 35 hX [0, 2, 3, 4, 5, 6, 8, 9, 10, 13, 14, 15, 25] ?_ | change postOf _ _ _ _ _); simp [-List.reduceReplicate, Nat.add_one_le_iff, -getElem?_pos, -getElem?_neg, rowsC, iC, bC, hlt])
     | ((first | (with_reducible refine awp_ret ?_; try simp only [thenA, inBlockA, noGotoA])); try simp [-List.reduceReplicate, Nat.add_one_le_iff, -getElem?_pos, -getElem?_neg, rowsC, iC, bC, hlt])
     | (with_reducible refine awp_if_b rfl (fun hc => ?_) (fun hc => ?_) <;> (try simp [-getElem?_pos, -getElem?_neg] at hc) <;> (try (exfalso; omega)))
     | ((with_reducible first | refine GuardK_b (fun hc => ?_) (fun hc => ?_)) <;> (try simp only [Bool.not_eq_true', Bool.not_eq_false', decide_eq_true_eq, decide_eq_false_iff_not] at hc) <;> (first | (exfalso; omega) | skip) <;> simp [-List.reduceReplicate, Nat.add_one_le_iff, -getElem?_pos, -getElem?_neg, rowsC, iC, bC, hlt, hc])
     | (with_reducible refine And.intro (by omega) ?_)
     | fail)
    have e : i = v.length := by omega
    subst e
    subst hQ
    exact ⟨g, _, rfl, rfl, rfl, rfl⟩
theorem cupWins_den (v : List (List Int)) (ob : List Ob) (hn : v.length ≤ 1000000) : Den Tryz.prog 66 [.c (rowsC v)] ob (fun r ob' => r = .c (intsC (winsAll v v.length)) ∧ ob' = ob) :=
  (cupWins_own v ob hn).freeze fun r ob' ⟨g, o, h1, h2, h3, h4⟩ => ⟨g, _, o, _, h1, h2, h3, h4, by simp [intsC], rfl⟩
def keyN (keys : List ByteArray) (i : Nat) : ByteArray := (keys[i]?).getD ByteArray.empty
def worse (keys : List ByteArray) (v : List (List Int)) (at_ i : Nat) : Bool :=
  decide (winsTo v at_ v.length < winsTo v i v.length) || (decide (winsTo v i v.length = winsTo v at_ v.length) && less (keyN keys i) (keyN keys at_))
def awins (keys : List ByteArray) (v : List (List Int)) (a : Int) : Bool :=
  (((decide (0 ≤ a) && decide (a < keys.length)) && decide (v.length = keys.length)) && (List.range v.length).all fun i => !worse keys v a.toNat i) && (tops v).all fun t => decide (t = a)
end Go.Av

set_option exponentiation.threshold 1000
set_option linter.unusedVariables false
set_option linter.unusedSimpArgs false
set_option maxRecDepth 100000
set_option maxHeartbeats 4000000
namespace Go.Av
open Go Go.Proofs Go.Proofs.YtocccighdkdljaaGreatDoor Go.RowKit
attribute [local simp] List.getElem?_cons_zero List.getElem?_cons_succ
attribute [local simp] Tryz.underlying9 Tryz.underlying3 Tryz.underlying4 Tryz.underlying32
structure Cu where
  b : ByteArray
  e : Int
def e0 : ByteArray := ⟨#[]⟩
def cuC (c : Cu) : List C := [.v (.string c.b), iC c.e]
def cuM (c : Cu) : M := .agg (up (cuC c))
def failC (c : Cu) (e : Int) : Cu := if c.e = 0 ∧ e ≠ 0 then ⟨e0, e⟩ else c
def doneC (c : Cu) : Int := if c.e = 0 ∧ c.b.size ≠ 0 then 2 else c.e
def cutC (c : Cu) (n : Nat) : ByteArray × Cu := if c.e ≠ 0 then (e0, c) else if c.b.size < n then (e0, ⟨e0, 1⟩) else (c.b.extract 0 n, ⟨c.b.extract n c.b.size, 0⟩)
def rawC (c : Cu) (n : Int) : ByteArray × Cu := if n < 0 then (e0, failC c 3) else cutC c n.toNat
def numC (c : Cu) (most : Nat) : Nat × Cu :=
  if c.e ≠ 0 then (0, c) else if (takeV c.b).2.2 ≠ 0 then (0, ⟨e0, (takeV c.b).2.2⟩) else if most < (takeV c.b).1 then (0, ⟨e0, 3⟩) else ((takeV c.b).1, ⟨c.b.extract (takeV c.b).2.1 c.b.size, 0⟩)
end Go.Av

set_option exponentiation.threshold 1000
set_option linter.unusedVariables false
set_option linter.unusedSimpArgs false
set_option maxRecDepth 100000
set_option maxHeartbeats 4000000
namespace Go.Av
open Go Go.Proofs Go.Proofs.YtocccighdkdljaaGreatDoor Go.RowKit
attribute [local simp] List.getElem?_cons_zero List.getElem?_cons_succ
attribute [local simp] Tryz.underlying9 Tryz.underlying3 Tryz.underlying4 Tryz.underlying32
def curO (c : Cu) : Ob := ⟨252, 2, false, 0, up (cuC c), none⟩
end Go.Av

set_option exponentiation.threshold 1000
set_option linter.unusedVariables false
set_option linter.unusedSimpArgs false
set_option maxRecDepth 100000
set_option maxHeartbeats 4000000
namespace Go.Av
open Go Go.Proofs Go.Proofs.YtocccighdkdljaaGreatDoor Go.RowKit
attribute [local simp] List.getElem?_cons_zero List.getElem?_cons_succ
attribute [local simp] Tryz.underlying9 Tryz.underlying3 Tryz.underlying4 Tryz.underlying32 Tryz.underlying24
end Go.Av

set_option exponentiation.threshold 1000
set_option linter.unusedVariables false
set_option linter.unusedSimpArgs false
set_option maxRecDepth 100000
set_option maxHeartbeats 4000000
namespace Go.Av
open Go Go.Proofs Go.Proofs.YtocccighdkdljaaGreatDoor Go.RowKit
attribute [local simp] List.getElem?_cons_zero List.getElem?_cons_succ
attribute [local simp] Tryz.underlying9 Tryz.underlying3 Tryz.underlying4 Tryz.underlying32 Tryz.underlying24
def okCu (ob : List Ob) : Prop := ob.all (fun q => q.cs.all (ltB ob.length)) = true
def h32 (s : ByteArray) (off : Nat) : H32 := ⟨(s.data.toList.drop off ++ List.replicate 32 0).take 32, by simp⟩
def hashC (c : Cu) : H32 × Cu := (h32 (rawC c 32).1 0, (rawC c 32).2)
def zH : Ob := ⟨24, 1, false, 0, up (List.replicate 32 (C.v (Value.int .u8 0))), none⟩
end Go.Av

set_option exponentiation.threshold 1000
set_option linter.unusedVariables false
set_option linter.unusedSimpArgs false
set_option maxRecDepth 100000
set_option maxHeartbeats 4000000
namespace Go.Av
open Go Go.Proofs Go.Proofs.YtocccighdkdljaaGreatDoor Go.RowKit
attribute [local simp] List.getElem?_cons_zero List.getElem?_cons_succ
def idL (h : HD) : List UInt8 := shaL (bsS (3 :: hdL h))
theorem head_bs (h : HD) : headT (bsS (hdL h)) = 3 :: hdL h := rfl
theorem identId_den (h : HD) (hok : HDok h) : DenV Tryz.prog 56 [hdM h] (hashM (idL h)) := by
  refine Den.frame (by simp [ltBs, ltB, hdM, ltBs_up]) (lt_hash _ _) ?_
  have c4 := hdC_len h
  have c5 := hdC_66 h
  have p1 := headBytes_den h hok
  have p2 := headerSum_den (bsS (hdL h)) (by rw [bs_size, hdL_len]; omega)
  rw [head_bs] at p2
  have hl : (idL h).length = 32 := shaL_len _
  have t1 := hash_take _ hl
  unfold idL at *
  unfold hdM at *
  generalize shaL (bsS (3 :: hdL h)) = y at *
  generalize hdC h = hd at *
  generalize bsS (hdL h) = x at *
  refine den_of Tryz.func56 rfl rfl (by simp [Tryz.ntmps56]) (fun X hX hO => ?_)
  rw [Tryz.ntmps56] at hX
  simp only [Tryz.results56]
  repeat' (first 
   | (with_reducible first | refine awp_scope ?_ | refine awp_seq ?_ | refine awp_block ?_)
   | ((with_reducible first | refine awp_label ?_ | refine awp_skip ?_ | refine awp_exit ?_); try simp only [thenA, inBlockA, noGotoA, if_true, Nat.reduceEqDiff, if_false, ↓reduceIte])
   | ((with_reducible first | refine awp_reg 6 hX [1, 2] ?_ | change postOf _ _ _ _ _); simp [-List.reduceReplicate, Nat.add_one_le_iff, -getElem?_pos, -getElem?_neg, c4, c5, hashM, hl, t1])
   | ((first | (with_reducible refine awp_ret ?_; try simp only [thenA, inBlockA, noGotoA]) | (refine (p1 _).det ?_) | (refine (p2 _).det ?_)); try simp [-List.reduceReplicate, Nat.add_one_le_iff, -getElem?_pos, -getElem?_neg, c4, c5, hashM, hl, t1])
   | (with_reducible refine awp_if_b rfl (fun hc => ?_) (fun hc => ?_) <;> (try simp [-getElem?_pos, -getElem?_neg] at hc) <;> (try (exfalso; omega)))
   | (with_reducible refine And.intro (by omega) ?_)
   | fail)
def hsC (l : List H32) : List C := l.flatMap fun h => h.1.map bC8
def fstI : List H32 → List UInt8 → Nat → Int
  | [], _, _ => -1
  | x :: r, id, k => if x.1 = id then (k : Int) else fstI r id (k + 1)
end Go.Av

set_option exponentiation.threshold 1000
set_option linter.unusedVariables false
set_option linter.unusedSimpArgs false
set_option maxRecDepth 100000
set_option maxHeartbeats 4000000
namespace Go.Av
open Go Go.Proofs Go.Proofs.YtocccighdkdljaaGreatDoor Go.RowKit
attribute [local simp] List.getElem?_cons_zero List.getElem?_cons_succ
def hdsC (l : List HD) : List C := l.flatMap hdC
def idH (h : HD) : H32 := ⟨idL h, shaL_len _⟩
def idsTo (l : List HD) (i : Nat) : List C := hsC ((l.take i).map idH)
end Go.Av

set_option exponentiation.threshold 1000
set_option linter.unusedVariables false
set_option linter.unusedSimpArgs false
set_option maxRecDepth 100000
set_option maxHeartbeats 4000000
namespace Go.Av
open Go Go.Proofs Go.Proofs.YtocccighdkdljaaGreatDoor Go.RowKit
attribute [local simp] List.getElem?_cons_zero List.getElem?_cons_succ
def Z32 : H32 := ⟨List.replicate 32 0, by simp⟩
def H0 : HD := ⟨0, Z32, Z32, 0⟩
def H1 : HD := ⟨0, Z32, Z32, 1⟩
end Go.Av

set_option exponentiation.threshold 1000
set_option linter.unusedVariables false
set_option linter.unusedSimpArgs false
set_option maxRecDepth 100000
set_option maxHeartbeats 4000000
namespace Go.Av
open Go Go.Proofs Go.Proofs.YtocccighdkdljaaGreatDoor Go.RowKit
attribute [local simp] List.getElem?_cons_zero List.getElem?_cons_succ
def B64 : Nat := 18446744073709551616
def lim (x i : Nat) : Nat := x / 2 ^ (64 * i) % 18446744073709551616
def limC (k x : Nat) : List C := (List.range k).map fun i => u64C (lim x i)
theorem limC_len (k x : Nat) : (limC k x).length = k := by simp [limC]
theorem limC_get (k x i : Nat) (h : i < k) : (limC k x)[i]? = some (u64C (lim x i)) := by simp [limC, h]
theorem lim_split (x i : Nat) : x / 2 ^ (64 * i) = 18446744073709551616 * (x / 2 ^ (64 * (i + 1))) + lim x i := by
  have h1 : x / 2 ^ (64 * (i + 1)) = x / 2 ^ (64 * i) / 18446744073709551616 := by
    rw [Nat.div_div_eq_div_mul, show 64 * (i + 1) = 64 * i + 64 by omega, Nat.pow_add]
  rw [h1]
  exact (Nat.div_add_mod _ _).symm
theorem lim_lt_of {x y i : Nat} (h : x / 2 ^ (64 * (i + 1)) = y / 2 ^ (64 * (i + 1))) (hl : lim x i < lim y i) : x < y := by
  have h1 := lim_split x i
  have h2 := lim_split y i
  rw [h] at h1
  rcases Nat.lt_or_ge x y with c | c
  · exact c
  · have := Nat.div_le_div_right (c := 2 ^ (64 * i)) c
    omega
theorem lim_eq_of {x y i : Nat} (h : x / 2 ^ (64 * (i + 1)) = y / 2 ^ (64 * (i + 1))) (hl : lim x i = lim y i) : x / 2 ^ (64 * i) = y / 2 ^ (64 * i) := by
  rw [lim_split x i, lim_split y i, h, hl]
def cmpN (x y : Nat) : Int := if x < y then -1 else if y < x then 1 else 0
theorem cmpN_lt {x y : Nat} (h : x < y) : cmpN x y = -1 := by simp [cmpN, h]
theorem cmpN_gt {x y : Nat} (h : y < x) : cmpN x y = 1 := by
  have : ¬ x < y := by omega
  simp [cmpN, h, this]
theorem cmpN_eq (x : Nat) : cmpN x x = 0 := by simp [cmpN]
def bl (x : Nat) : Nat := if x = 0 then 0 else Nat.log2 x + 1
end Go.Av

set_option exponentiation.threshold 1000
set_option linter.unusedVariables false
set_option linter.unusedSimpArgs false
set_option maxRecDepth 100000
set_option maxHeartbeats 4000000
namespace Go.Av
open Go Go.Proofs Go.Proofs.YtocccighdkdljaaGreatDoor Go.RowKit
attribute [local simp] List.getElem?_cons_zero List.getElem?_cons_succ
def hv (l : List UInt8) : Nat := l.foldl (fun a b => a * 256 + b.toNat) 0
theorem hv_app (a : List UInt8) (x : UInt8) : hv (a ++ [x]) = hv a * 256 + x.toNat := by simp [hv]
theorem hv_lt : ∀ (n : Nat) (l : List UInt8), l.length = n → hv l < 256 ^ n
  | 0, l, h => by
    obtain rfl := List.length_eq_zero_iff.1 h
    simp [hv]
  | n + 1, l, h => by
    have hd : l = l.dropLast ++ [l.getLast (by intro e; subst e; simp at h)] := (List.dropLast_concat_getLast _).symm
    rw [hd, hv_app]
    have := hv_lt n l.dropLast (by simp; omega)
    have h2 := (l.getLast (by intro e; subst e; simp at h)).toNat_lt
    rw [Nat.pow_succ]
    omega
theorem hv_take : ∀ (k m : Nat) (l : List UInt8), l.length = m + k → hv (l.take m) = hv l / 256 ^ k
  | 0, m, l, h => by rw [List.take_of_length_le (by omega)]; simp
  | k + 1, m, l, h => by
    have hd : l = l.dropLast ++ [l.getLast (by intro e; subst e; simp at h)] := (List.dropLast_concat_getLast _).symm
    have ih := hv_take k m l.dropLast (by simp; omega)
    have e1 : l.take m = l.dropLast.take m := by
      conv => lhs; rw [hd]
      rw [List.take_append_of_le_length (by simp; omega)]
    have e2 : hv l = hv l.dropLast * 256 + (l.getLast (by intro e; subst e; simp at h)).toNat := by
      conv => lhs; rw [hd]
      exact hv_app _ _
    have h2 := (l.getLast (by intro e; subst e; simp at h)).toNat_lt
    rw [e1, ih, Nat.pow_succ, Nat.mul_comm (256 ^ k), ← Nat.div_div_eq_div_mul, e2]
    congr 1
    omega
theorem takeN_hv (l : List UInt8) (at_ n : Nat) (h : at_ + n ≤ l.length) : hv (l.take (at_ + n)) = hv (l.take at_) * 256 ^ n + takeN ⟨l.toArray⟩ at_ n := by
  induction n with
  | zero => simp [takeN]
  | succ n ih =>
    have ih := ih (by omega)
    obtain ⟨x, hx⟩ : ∃ x, l[at_ + n]? = some x := ⟨_, List.getElem?_eq_getElem (by omega)⟩
    have e1 : l.take (at_ + (n + 1)) = l.take (at_ + n) ++ [x] := by
      rw [show at_ + (n + 1) = at_ + n + 1 by omega, List.take_add_one, hx]; rfl
    have e2 : byteI ⟨l.toArray⟩ at_ n = x.toNat := by
      unfold byteI
      have hs : (ByteArray.mk l.toArray).size = l.length := by simp [ByteArray.size]
      rw [if_pos ⟨by omega, by rw [hs]; omega⟩]
      have e3 : ((at_ : Int) + (n : Int)).toNat = at_ + n := by omega
      rw [e3]
      simp only [List.getD, hx, Option.getD_some]
    rw [e1, hv_app, ih, takeN, e2, Nat.pow_succ]
    rw [Nat.add_mul, Nat.mul_assoc, Nat.add_assoc]
theorem take_lim (l : List UInt8) (hl : l.length = 32) (i : Nat) (hi : i < 4) : takeN ⟨l.toArray⟩ ((8 * i : Nat) : Int) 8 = lim (hv l) (3 - i) := by
  have h1 := takeN_hv l (8 * i) 8 (by omega)
  have h2 := takeN_lt ⟨l.toArray⟩ ((8 * i : Nat) : Int) 8
  rw [hv_take (24 - 8 * i) (8 * i + 8) l (by omega)] at h1
  unfold lim
  have e : (2 : Nat) ^ (64 * (3 - i)) = 256 ^ (24 - 8 * i) := by
    rw [show (256 : Nat) = 2 ^ 8 by rfl, ← Nat.pow_mul]; congr 1; omega
  rw [e, h1]
  have e2 : (256 : Nat) ^ 8 = 18446744073709551616 := by decide
  rw [e2] at *
  rw [Nat.mul_add_mod_self_right, Nat.mod_eq_of_lt h2]
def bitsL (x : Nat) : List Bool := (List.range 256).map fun j => x.testBit j
def lvF (x t : Nat) : Nat → Nat → Nat
  | 0, k => k
  | f + 1, k => if x ≤ t / 2 ^ k then lvF x t f (k + 1) else k
def lvN (x t : Nat) : Nat := lvF x t 256 0
end Go.Av

set_option exponentiation.threshold 1000
set_option linter.unusedVariables false
set_option linter.unusedSimpArgs false
set_option maxRecDepth 100000
set_option maxHeartbeats 4000000
namespace Go.Av
open Go Go.Proofs Go.Proofs.YtocccighdkdljaaGreatDoor Go.RowKit
attribute [local simp] List.getElem?_cons_zero List.getElem?_cons_succ
def largeM (x : Nat) : M := .agg (up (limC 5 x))
def shlF (y i : Nat) : List C := (List.range 5).map fun t => u64C (if t < i then lim y t else 0)
end Go.Av

set_option exponentiation.threshold 1000
set_option linter.unusedVariables false
set_option linter.unusedSimpArgs false
set_option maxRecDepth 100000
set_option maxHeartbeats 4000000
namespace Go.Av
open Go Go.Proofs Go.Proofs.YtocccighdkdljaaGreatDoor Go.RowKit
attribute [local simp] List.getElem?_cons_zero List.getElem?_cons_succ
def wideM (x : Nat) : M := .agg (up (limC 4 x))
theorem take64_den (b : ByteArray) (at_ : Int) (hat : -9223372036854775808 ≤ at_ ∧ at_ ≤ 9223372036854775807) (hb : b.size ≤ 9223372036854775807) : DenV Tryz.prog 152 [.c (.v (.string b)), .c (iC at_)] (.c (u64C (takeN b at_ 8))) := by
  refine Den.frame rfl rfl ?_
  have p := take_den b at_ 8 hat hb (by omega)
  generalize takeN b at_ 8 = r at *
  refine den_of Tryz.func152 rfl rfl (by simp [Tryz.ntmps152]) (fun X hX hO => ?_)
  rw [Tryz.ntmps152] at hX
  simp only [Tryz.results152]
  repeat' (first 
   | (with_reducible first | refine awp_scope ?_ | refine awp_seq ?_ | refine awp_block ?_)
   | ((with_reducible first | refine awp_label ?_ | refine awp_skip ?_ | refine awp_exit ?_); try simp only [thenA, inBlockA, noGotoA, if_true, Nat.reduceEqDiff, if_false, ↓reduceIte])
   | ((with_reducible first | refine awp_reg 8 hX [0, 1, 4] ?_ | change postOf _ _ _ _ _); simp [-List.reduceReplicate, Nat.add_one_le_iff, -getElem?_pos, -getElem?_neg, u64C, iC])
   | ((first | (with_reducible refine awp_ret ?_; try simp only [thenA, inBlockA, noGotoA]) | (refine (p _).det ?_)); try simp [-List.reduceReplicate, Nat.add_one_le_iff, -getElem?_pos, -getElem?_neg, u64C, iC])
   | (with_reducible refine awp_if_b rfl (fun hc => ?_) (fun hc => ?_) <;> (try simp [-getElem?_pos, -getElem?_neg] at hc) <;> (try (exfalso; omega)))
   | (with_reducible refine And.intro (by omega) ?_)
   | fail)
set_option maxHeartbeats 4000000 in
theorem wcmp_den (x y : Nat) (hx : x < 2 ^ (64 * 4)) (hy : y < 2 ^ (64 * 4)) : DenV Tryz.prog 93 [wideM x, wideM y] (.c (iC (cmpN x y))) := by
  refine Den.frame (by simp [wideM, ltBs, ltB]) rfl ?_
  have gx := limC_get 4 x
  have gy := limC_get 4 y
  have lx := limC_len 4 x
  have ly := limC_len 4 y
  have hs := fun i => @lim_lt_of x y i
  have hs2 := fun i => @lim_lt_of y x i
  have he := fun i => @lim_eq_of x y i
  have h0 : x / 2 ^ (64 * (4 - 0)) = y / 2 ^ (64 * (4 - 0)) := by rw [Nat.div_eq_of_lt hx, Nat.div_eq_of_lt hy]
  have hend : x / 2 ^ (64 * 0) = y / 2 ^ (64 * 0) → x = y := fun h => by simpa using h
  unfold wideM
  generalize limC 4 x = cx at *
  generalize limC 4 y = cy at *
  generalize lim x = fx at *
  generalize lim y = fy at *
  obtain ⟨Ef, hE⟩ : ∃ Ef : Nat → Prop, Ef = fun j => x / 2 ^ (64 * j) = y / 2 ^ (64 * j) := ⟨_, rfl⟩
  have hs' : ∀ i, Ef (i + 1) → fx i < fy i → x < y := by rw [hE]; exact hs
  have hs2' : ∀ i, Ef (i + 1) → fy i < fx i → y < x := by rw [hE]; exact fun i h => hs2 i h.symm
  have he' : ∀ i, Ef (i + 1) → fx i = fy i → Ef i := by rw [hE]; exact he
  have h0' : Ef (4 - 0) := by rw [hE]; exact h0
  have hend' : Ef 0 → x = y := by rw [hE]; exact hend
  clear hs hs2 he h0 hend hE hx hy
  refine den_of Tryz.func93 rfl rfl (by simp [Tryz.ntmps93]) (fun X hX hO => ?_)
  rw [Tryz.ntmps93] at hX
  simp only [Tryz.results93]
  repeat' (first 
   | (with_reducible first | refine awp_scope ?_ | refine awp_seq ?_ | refine awp_block ?_)
   | ((with_reducible first | refine awp_label ?_ | refine awp_skip ?_ | refine awp_exit ?_ | refine hother _ _ rfl ?_); try simp only [thenA, inBlockA, noGotoA, if_true, Nat.reduceEqDiff, if_false, ↓reduceIte])
   | ((with_reducible first | refine awp_reg 28 hX [2, 3, 4, 5, 6, 7, 8, 9, 19, 23] ?_ | refine awp_drw 28 hX [2, 3, 4, 5, 6, 7, 8, 9, 19, 23] Tab.mixed (by kernel_rfl) ?_ | refine DEv_cut _ _ _ _ _ _ _ _ _ _ _ _ (by kernel_rfl) ?_ | change postOf _ _ _ _ _); simp [-List.reduceReplicate, Nat.add_one_le_iff, -getElem?_pos, -getElem?_neg, iC, lx, ly])
   | ((first | (with_reducible refine awp_ret ?_; try simp only [thenA, inBlockA, noGotoA])); try simp [-List.reduceReplicate, Nat.add_one_le_iff, -getElem?_pos, -getElem?_neg, iC, lx, ly])
   | (with_reducible refine awp_if_b rfl (fun hc => ?_) (fun hc => ?_) <;> (try simp [-getElem?_pos, -getElem?_neg] at hc) <;> (try (exfalso; omega)))
   | (with_reducible refine And.intro (by omega) ?_)
   | fail)
  refine awp_forU [2, 3, 8] (fun i (_u : Unit) => [(8, .c (iC i))]) (fun i (_u : Unit) => [⟨177, 1, false, 0, up cx, none⟩, ⟨177, 1, false, 0, up cy, none⟩]) (fun i (_u : Unit) => Ef (4 - i)) (4) (()) (h0') (by simp [-List.reduceReplicate, keep, iC]) (by simp [-List.reduceReplicate, iC]) ?_
  rintro i _u Q1 hi hH next hother
  conv => arg 5; arg 1; simp only [List.cons_append, List.nil_append, keep, get, Nat.reduceEqDiff, if_true, if_false, ↓reduceIte]
  have hwi := wrap_in ((i : Int) + 1) (by omega)
  by_cases hlt : i < 4
  · obtain ⟨j, hj⟩ : ∃ j, 3 - i = j := ⟨_, rfl⟩
    have hij : (3 - (i : Int)) = (j : Int) := by omega
    have e1 : 4 - i = j + 1 := by omega
    have e2 : 4 - (i + 1) = j := by omega
    have wj := wrap_in (j : Int) (by omega)
    have hj4 : j < 4 := by omega
    have hi2 : (i : Int) < 4 := by omega
    rw [e1] at hH
    rw [e2] at next
    have g1 := gx j hj4
    have g2 := gy j hj4
    by_cases c : fx j < fy j
    · have hcm := (cmpN_lt (hs' j hH c)).symm
      repeat' (first 
       | (with_reducible first | refine awp_scope ?_ | refine awp_seq ?_ | refine awp_block ?_)
       | ((with_reducible first | refine awp_label ?_ | refine awp_skip ?_ | refine awp_exit ?_ | refine hother _ _ rfl ?_); try simp only [thenA, inBlockA, noGotoA, if_true, Nat.reduceEqDiff, if_false, ↓reduceIte])
       | ((with_reducible first | refine awp_reg 28 hX [2, 3, 4, 5, 6, 7, 8, 9, 19, 23] ?_ | refine awp_drw 28 hX [2, 3, 4, 5, 6, 7, 8, 9, 19, 23] Tab.mixed (by kernel_rfl) ?_ | refine DEv_cut _ _ _ _ _ _ _ _ _ _ _ _ (by kernel_rfl) ?_ | change postOf _ _ _ _ _); simp [-List.reduceReplicate, Nat.add_one_le_iff, -getElem?_pos, -getElem?_neg, iC, bC, u64C, hi2, hij, wj, hj4, g1, g2, lx, ly, c])
       | ((first | (with_reducible refine awp_ret ?_; try simp only [thenA, inBlockA, noGotoA])); try simp [-List.reduceReplicate, Nat.add_one_le_iff, -getElem?_pos, -getElem?_neg, iC, bC, u64C, hi2, hij, wj, hj4, g1, g2, lx, ly, c])
       | (with_reducible refine awp_if_b rfl (fun hc => ?_) (fun hc => ?_) <;> (try simp [-getElem?_pos, -getElem?_neg] at hc) <;> (try (exfalso; omega)))
       | (with_reducible refine And.intro (by omega) ?_)
       | fail)
      exact hcm
    · by_cases c2 : fy j < fx j
      · have hcm := (cmpN_gt (hs2' j hH c2)).symm
        repeat' (first 
         | (with_reducible first | refine awp_scope ?_ | refine awp_seq ?_ | refine awp_block ?_)
         | ((with_reducible first | refine awp_label ?_ | refine awp_skip ?_ | refine awp_exit ?_ | refine hother _ _ rfl ?_); try simp only [thenA, inBlockA, noGotoA, if_true, Nat.reduceEqDiff, if_false, ↓reduceIte])
         | ((with_reducible first | refine awp_reg 28 hX [2, 3, 4, 5, 6, 7, 8, 9, 19, 23] ?_ | refine awp_drw 28 hX [2, 3, 4, 5, 6, 7, 8, 9, 19, 23] Tab.mixed (by kernel_rfl) ?_ | refine DEv_cut _ _ _ _ _ _ _ _ _ _ _ _ (by kernel_rfl) ?_ | change postOf _ _ _ _ _); simp [-List.reduceReplicate, Nat.add_one_le_iff, -getElem?_pos, -getElem?_neg, iC, bC, u64C, hi2, hij, wj, hj4, g1, g2, lx, ly, c, c2])
         | ((first | (with_reducible refine awp_ret ?_; try simp only [thenA, inBlockA, noGotoA])); try simp [-List.reduceReplicate, Nat.add_one_le_iff, -getElem?_pos, -getElem?_neg, iC, bC, u64C, hi2, hij, wj, hj4, g1, g2, lx, ly, c, c2])
         | (with_reducible refine awp_if_b rfl (fun hc => ?_) (fun hc => ?_) <;> (try simp [-getElem?_pos, -getElem?_neg] at hc) <;> (try (exfalso; omega)))
         | (with_reducible refine And.intro (by omega) ?_)
         | fail)
        exact hcm
      · have nx := he' j hH (by omega)
        repeat' (first 
         | (with_reducible first | refine awp_scope ?_ | refine awp_seq ?_ | refine awp_block ?_)
         | ((with_reducible first | refine awp_label ?_ | refine awp_skip ?_ | refine awp_exit ?_ | refine hother _ _ rfl ?_); try simp only [thenA, inBlockA, noGotoA, if_true, Nat.reduceEqDiff, if_false, ↓reduceIte])
         | ((with_reducible first | refine awp_reg 28 hX [2, 3, 4, 5, 6, 7, 8, 9, 19, 23] ?_ | refine awp_drw 28 hX [2, 3, 4, 5, 6, 7, 8, 9, 19, 23] Tab.mixed (by kernel_rfl) ?_ | refine DEv_cut _ _ _ _ _ _ _ _ _ _ _ _ (by kernel_rfl) ?_ | change postOf _ _ _ _ _); simp [-List.reduceReplicate, Nat.add_one_le_iff, -getElem?_pos, -getElem?_neg, iC, bC, u64C, hi2, hij, wj, hj4, g1, g2, lx, ly, hwi, c, c2])
         | ((first | (with_reducible refine awp_ret ?_; try simp only [thenA, inBlockA, noGotoA])); try simp [-List.reduceReplicate, Nat.add_one_le_iff, -getElem?_pos, -getElem?_neg, iC, bC, u64C, hi2, hij, wj, hj4, g1, g2, lx, ly, hwi, c, c2])
         | (with_reducible refine awp_if_b rfl (fun hc => ?_) (fun hc => ?_) <;> (try simp [-getElem?_pos, -getElem?_neg] at hc) <;> (try (exfalso; omega)))
         | (with_reducible refine And.intro (by omega) ?_)
         | fail)
        refine next _ _ (()) (by omega) (by first | trivial | omega | assumption) (by simp [-List.reduceReplicate, keep, iC]) (by simp [-List.reduceReplicate, iC])
  · have hi3 : i = 4 := by omega
    subst hi3
    have hxy := hend' hH
    subst hxy
    have hcm := (cmpN_eq x).symm
    repeat' (first 
     | (with_reducible first | refine awp_scope ?_ | refine awp_seq ?_ | refine awp_block ?_)
     | ((with_reducible first | refine awp_label ?_ | refine awp_skip ?_ | refine awp_exit ?_ | refine hother _ _ rfl ?_); try simp only [thenA, inBlockA, noGotoA, if_true, Nat.reduceEqDiff, if_false, ↓reduceIte])
     | ((with_reducible first | refine awp_reg 28 hX [2, 3, 4, 5, 6, 7, 8, 9, 19, 23] ?_ | refine awp_drw 28 hX [2, 3, 4, 5, 6, 7, 8, 9, 19, 23] Tab.mixed (by kernel_rfl) ?_ | refine DEv_cut _ _ _ _ _ _ _ _ _ _ _ _ (by kernel_rfl) ?_ | change postOf _ _ _ _ _); simp [-List.reduceReplicate, Nat.add_one_le_iff, -getElem?_pos, -getElem?_neg, iC])
     | ((first | (with_reducible refine awp_ret ?_; try simp only [thenA, inBlockA, noGotoA])); try simp [-List.reduceReplicate, Nat.add_one_le_iff, -getElem?_pos, -getElem?_neg, iC])
     | (with_reducible refine awp_if_b rfl (fun hc => ?_) (fun hc => ?_) <;> (try simp [-getElem?_pos, -getElem?_neg] at hc) <;> (try (exfalso; omega)))
     | (with_reducible refine And.intro (by omega) ?_)
     | fail)
    exact hcm
def revF (y i : Nat) : List C := (List.range 4).map fun t => u64C (if 4 - i ≤ t then lim y t else 0)
theorem revF_facts (y : Nat) : revF y 0 = [C.v (.int .u64 0), C.v (.int .u64 0), C.v (.int .u64 0), C.v (.int .u64 0)] ∧ revF y 4 = limC 4 y ∧ (∀ i, (revF y i).length = 4) ∧ ∀ i, i < 4 → (revF y i).set (3 - i) (u64C (lim y (3 - i))) = revF y (i + 1) := by
  refine ⟨by simp [revF, List.range_succ, u64C], ?_, fun i => by simp [revF], fun i hi => ?_⟩
  · unfold revF limC
    refine List.map_congr_left fun t ht => ?_
    rw [if_pos (by omega)]
  · unfold revF
    apply List.ext_getElem (by simp)
    intro t h1 h2
    simp at h1
    rw [List.getElem_set]
    simp only [List.getElem_map, List.getElem_range]
    by_cases c : 3 - i = t
    · subst c
      rw [if_pos rfl, if_pos (by omega)]
    · rw [if_neg c]
      by_cases d : 4 - i ≤ t
      · rw [if_pos d, if_pos (by omega)]
      · rw [if_neg d, if_neg (by omega)]
set_option maxHeartbeats 4000000 in
theorem wof_den (l : List UInt8) (hl : l.length = 32) : DenV Tryz.prog 94 [hashM l] (wideM (hv l)) := by
  refine Den.frame (by simp [ltBs, ltB, lt_hash]) (by simp [wideM, ltB, ltBs]) ?_
  have hsz : (ByteArray.mk l.toArray).size = 32 := by simp [ByteArray.size, hl]
  have tk := fun (i : Nat) (h : i < 4) => take64_den ⟨l.toArray⟩ ((8 * i : Nat) : Int) (by omega) (by omega)
  have tl := fun i h => take_lim l hl i h
  have hb8 : bytesM (up (l.map bC8)) = some l := bytesM_b8 l
  have t32 : (l.map bC8).take 32 = l.map bC8 := List.take_of_length_le (by simp [hl])
  obtain ⟨F0, F4, FL, FS⟩ := revF_facts (hv l)
  have FT : ∀ i, (revF (hv l) i).take 4 = revF (hv l) i := fun i => List.take_of_length_le (by rw [FL]; omega)
  have z0 : zeroT Tryz.prog 177 = some (up (revF (hv l) 0)) := by rw [F0]; kernel_rfl
  unfold wideM
  rw [← F4]
  generalize revF (hv l) = F at *
  generalize lim (hv l) = fx at *
  have lb : (l.map bC8).length = 32 := by simp [hl]
  clear F0 F4
  unfold hashM
  generalize l.map bC8 = cb at *
  refine den_of Tryz.func94 rfl rfl (by simp [Tryz.ntmps94]) (fun X hX hO => ?_)
  rw [Tryz.ntmps94] at hX
  simp only [Tryz.results94]
  repeat' (first 
   | (with_reducible first | refine awp_scope ?_ | refine awp_seq ?_ | refine awp_block ?_)
   | ((with_reducible first | refine awp_label ?_ | refine awp_skip ?_ | refine awp_exit ?_ | refine hother _ _ rfl ?_); try simp only [thenA, inBlockA, noGotoA, if_true, Nat.reduceEqDiff, if_false, ↓reduceIte])
   | ((with_reducible first | refine awp_reg 18 hX [1, 2, 3, 4, 5, 6] ?_ | change postOf _ _ _ _ _); simp [-List.reduceReplicate, Nat.add_one_le_iff, -getElem?_pos, -getElem?_neg, iC, lb, z0, -Tab.zero177])
   | ((first | (with_reducible refine awp_ret ?_; try simp only [thenA, inBlockA, noGotoA])); try simp [-List.reduceReplicate, Nat.add_one_le_iff, -getElem?_pos, -getElem?_neg, iC, lb, z0, -Tab.zero177])
   | (with_reducible refine awp_if_b rfl (fun hc => ?_) (fun hc => ?_) <;> (try simp [-getElem?_pos, -getElem?_neg] at hc) <;> (try (exfalso; omega)))
   | (with_reducible refine And.intro (by omega) ?_)
   | fail)
  refine awp_forU [1, 2, 3, 5] (fun i (_u : Unit) => [(5, .c (iC i))]) (fun i (_u : Unit) => [⟨24, 1, false, 0, up cb, none⟩, ⟨177, 1, false, 0, up (F 0), none⟩, ⟨177, 1, false, 0, up (F i), none⟩]) (fun i (_u : Unit) => True) (4) (()) (by first | trivial | (simp; done) | omega | (intros; simp at *; done)) (by simp [-List.reduceReplicate, keep, iC]) (by simp [-List.reduceReplicate, iC]) ?_
  rintro i _u Q1 hi hH next hother
  conv => arg 5; arg 1; simp only [List.cons_append, List.nil_append, keep, get, Nat.reduceEqDiff, if_true, if_false, ↓reduceIte]
  have hwi := wrap_in ((i : Int) + 1) (by omega)
  by_cases hlt : i < 4
  · have hi2 : (i : Int) < 4 := by omega
    have q1 := tk i hlt
    rw [tl i hlt] at q1
    have q2 : ((8 * i : Nat) : Int) = 8 * (i : Int) := by omega
    rw [q2] at q1
    have fs := FS i hlt
    obtain ⟨j, hj⟩ : ∃ j, 3 - i = j := ⟨_, rfl⟩
    rw [hj] at fs q1
    have hij : (3 - (i : Int)) = (j : Int) := by omega
    have wj := wrap_in (j : Int) (by omega)
    have w8 := wrap_in (8 * (i : Int)) (by omega)
    have hj4 : j < 4 := by omega
    have fl := FL i
    have hset : (up (F i)).set j (M.c (u64C (fx j))) = up (F (i + 1)) := by rw [← fs]; simp [up, List.map_set]
    generalize fx j = z at *
    unfold u64C at *
    repeat' (first 
     | (with_reducible first | refine awp_scope ?_ | refine awp_seq ?_ | refine awp_block ?_)
     | ((with_reducible first | refine awp_label ?_ | refine awp_skip ?_ | refine awp_exit ?_ | refine hother _ _ rfl ?_); try simp only [thenA, inBlockA, noGotoA, if_true, Nat.reduceEqDiff, if_false, ↓reduceIte])
     | ((with_reducible first | refine awp_reg 18 hX [1, 2, 3, 4, 5, 6] ?_ | change postOf _ _ _ _ _); simp [-List.reduceReplicate, Nat.add_one_le_iff, -getElem?_pos, -getElem?_neg, iC, bC, hi2, hij, wj, w8, hj4, fl, lb, hb8, t32, hset, hwi])
     | ((first | (with_reducible refine awp_ret ?_; try simp only [thenA, inBlockA, noGotoA]) | (refine (q1 _).det ?_)); try simp [-List.reduceReplicate, Nat.add_one_le_iff, -getElem?_pos, -getElem?_neg, iC, bC, hi2, hij, wj, w8, hj4, fl, lb, hb8, t32, hset, hwi])
     | (with_reducible refine awp_if_b rfl (fun hc => ?_) (fun hc => ?_) <;> (try simp [-getElem?_pos, -getElem?_neg] at hc) <;> (try (exfalso; omega)))
     | (with_reducible refine And.intro (by omega) ?_)
     | fail)
    refine next _ _ (()) (by omega) (by first | trivial | omega | assumption) (by simp [-List.reduceReplicate, keep, iC]) (by simp [-List.reduceReplicate, iC])
  · have hi3 : i = 4 := by omega
    subst hi3
    repeat' (first 
     | (with_reducible first | refine awp_scope ?_ | refine awp_seq ?_ | refine awp_block ?_)
     | ((with_reducible first | refine awp_label ?_ | refine awp_skip ?_ | refine awp_exit ?_ | refine hother _ _ rfl ?_); try simp only [thenA, inBlockA, noGotoA, if_true, Nat.reduceEqDiff, if_false, ↓reduceIte])
     | ((with_reducible first | refine awp_reg 18 hX [1, 2, 3, 4, 5, 6] ?_ | change postOf _ _ _ _ _); simp [-List.reduceReplicate, Nat.add_one_le_iff, -getElem?_pos, -getElem?_neg, iC, FL, FT])
     | ((first | (with_reducible refine awp_ret ?_; try simp only [thenA, inBlockA, noGotoA])); try simp [-List.reduceReplicate, Nat.add_one_le_iff, -getElem?_pos, -getElem?_neg, iC, FL, FT])
     | (with_reducible refine awp_if_b rfl (fun hc => ?_) (fun hc => ?_) <;> (try simp [-getElem?_pos, -getElem?_neg] at hc) <;> (try (exfalso; omega)))
     | (with_reducible refine And.intro (by omega) ?_)
     | fail)
def wF (y i : Nat) : List C := (List.range 4).map fun t => u64C (if t < i then lim y t else 0)
end Go.Av

set_option exponentiation.threshold 1000
set_option linter.unusedVariables false
set_option linter.unusedSimpArgs false
set_option maxRecDepth 100000
set_option maxHeartbeats 4000000
namespace Go.Av
open Go Go.Proofs Go.Proofs.YtocccighdkdljaaGreatDoor Go.RowKit
attribute [local simp] List.getElem?_cons_zero List.getElem?_cons_succ
attribute [local simp] Tryz.underlying9 Tryz.underlying3 Tryz.underlying4 Tryz.underlying32 Tryz.underlying24 Tryz.underlying27
def getHD (s : ByteArray) : HD := ⟨takeN s 0 4, h32 s 4, h32 s 36, takeN s 68 8⟩
def headC (c : Cu) : HD × Cu := (getHD (rawC c 76).1, (rawC c 76).2)
def hdX (v : Nat) (A B : List C) (n : Nat) : List C := u32v v :: (A ++ (B ++ [u64C n]))
end Go.Av

set_option exponentiation.threshold 1000
set_option linter.unusedVariables false
set_option linter.unusedSimpArgs false
set_option maxRecDepth 100000
set_option maxHeartbeats 4000000
namespace Go.Av
open Go Go.Proofs Go.Proofs.YtocccighdkdljaaGreatDoor Go.RowKit
attribute [local simp] List.getElem?_cons_zero List.getElem?_cons_succ
attribute [local simp] Tryz.underlying9 Tryz.underlying3 Tryz.underlying4 Tryz.underlying32 Tryz.underlying24 Tryz.underlying43 Tryz.underlying81
def nilM : M := .c (.v (.slice none 0 0))
def z32 : List UInt8 := List.replicate 32 0
def rootNil : List UInt8 := shaL (bsS (rootT 0 z32))
theorem rootNil_len : rootNil.length = 32 := shaL_len _
theorem textsNil_den : DenV Tryz.prog 92 [nilM] nilM := by
  refine Den.frame rfl rfl ?_
  refine den_of Tryz.func92 rfl rfl (by simp [Tryz.ntmps92]) (fun X hX hO => ?_)
  rw [Tryz.ntmps92] at hX
  simp only [Tryz.results92]
  repeat' (first 
   | (with_reducible first | refine awp_scope ?_ | refine awp_seq ?_ | refine awp_block ?_)
   | ((with_reducible first | refine awp_label ?_ | refine awp_skip ?_ | refine awp_exit ?_ | refine hother _ _ rfl ?_); try simp only [thenA, inBlockA, noGotoA, if_true, Nat.reduceEqDiff, if_false, ↓reduceIte])
   | ((with_reducible first | refine awp_reg 19 hX [0, 2, 3, 5, 6, 7, 8, 9] ?_ | change postOf _ _ _ _ _); simp [-List.reduceReplicate, Nat.add_one_le_iff, -getElem?_pos, -getElem?_neg, nilM])
   | ((first | (with_reducible refine awp_ret ?_; try simp only [thenA, inBlockA, noGotoA])); try simp [-List.reduceReplicate, Nat.add_one_le_iff, -getElem?_pos, -getElem?_neg, nilM])
   | (with_reducible refine awp_if_b rfl (fun hc => ?_) (fun hc => ?_) <;> (try simp [-getElem?_pos, -getElem?_neg] at hc) <;> (try (exfalso; omega)))
   | (with_reducible refine And.intro (by omega) ?_)
   | fail)
  refine awp_forU [3, 6, 7, 8] (fun i (_u : Unit) => [(8, .c (iC i))]) (fun i (_u : Unit) => []) (fun i (_u : Unit) => True) (0) (()) (by first | trivial | (simp; done) | omega | (intros; simp at *; done)) (by simp [-List.reduceReplicate, keep, iC]) (by simp [-List.reduceReplicate, iC]) ?_
  rintro i _u Q1 hi hH next hother
  conv => arg 5; arg 1; simp only [List.cons_append, List.nil_append, keep, get, Nat.reduceEqDiff, if_true, if_false, ↓reduceIte]
  repeat' (first 
   | (with_reducible first | refine awp_scope ?_ | refine awp_seq ?_ | refine awp_block ?_)
   | ((with_reducible first | refine awp_label ?_ | refine awp_skip ?_ | refine awp_exit ?_ | refine hother _ _ rfl ?_); try simp only [thenA, inBlockA, noGotoA, if_true, Nat.reduceEqDiff, if_false, ↓reduceIte])
   | ((with_reducible first | refine awp_reg 19 hX [0, 2, 3, 5, 6, 7, 8, 9] ?_ | change postOf _ _ _ _ _); simp [-List.reduceReplicate, Nat.add_one_le_iff, -getElem?_pos, -getElem?_neg, nilM, iC])
   | ((first | (with_reducible refine awp_ret ?_; try simp only [thenA, inBlockA, noGotoA])); try simp [-List.reduceReplicate, Nat.add_one_le_iff, -getElem?_pos, -getElem?_neg, nilM, iC])
   | (with_reducible refine awp_if_b rfl (fun hc => ?_) (fun hc => ?_) <;> (try simp [-getElem?_pos, -getElem?_neg] at hc) <;> (try (exfalso; omega)))
   | (with_reducible refine And.intro (by omega) ?_)
   | fail)
theorem eachNil_den (f : M) (hf : ltB 0 f = true) : DenV Tryz.prog 217 [nilM, f] nilM := by
  refine Den.frame (by simp [ltBs, hf, nilM, ltB]) rfl ?_
  refine den_of Tryz.func217 rfl rfl (by simp [Tryz.ntmps217]) (fun X hX hO => ?_)
  rw [Tryz.ntmps217] at hX
  simp only [Tryz.results217]
  repeat' (first 
   | (with_reducible first | refine awp_scope ?_ | refine awp_seq ?_ | refine awp_block ?_)
   | ((with_reducible first | refine awp_label ?_ | refine awp_skip ?_ | refine awp_exit ?_ | refine hother _ _ rfl ?_); try simp only [thenA, inBlockA, noGotoA, if_true, Nat.reduceEqDiff, if_false, ↓reduceIte])
   | ((with_reducible first | refine awp_reg 22 hX [0, 1, 4, 5, 7, 8, 9, 10, 11] ?_ | change postOf _ _ _ _ _); simp [-List.reduceReplicate, Nat.add_one_le_iff, -getElem?_pos, -getElem?_neg, nilM])
   | ((first | (with_reducible refine awp_ret ?_; try simp only [thenA, inBlockA, noGotoA])); try simp [-List.reduceReplicate, Nat.add_one_le_iff, -getElem?_pos, -getElem?_neg, nilM])
   | (with_reducible refine awp_if_b rfl (fun hc => ?_) (fun hc => ?_) <;> (try simp [-getElem?_pos, -getElem?_neg] at hc) <;> (try (exfalso; omega)))
   | (with_reducible refine And.intro (by omega) ?_)
   | fail)
  refine awp_forU [1, 5, 8, 9, 10] (fun i (_u : Unit) => [(9, .c (iC i))]) (fun i (_u : Unit) => []) (fun i (_u : Unit) => True) (0) (()) (by first | trivial | (simp; done) | omega | (intros; simp at *; done)) (by simp [-List.reduceReplicate, keep, iC]) (by simp [-List.reduceReplicate, iC]) ?_
  rintro i _u Q1 hi hH next hother
  conv => arg 5; arg 1; simp only [List.cons_append, List.nil_append, keep, get, Nat.reduceEqDiff, if_true, if_false, ↓reduceIte]
  repeat' (first 
   | (with_reducible first | refine awp_scope ?_ | refine awp_seq ?_ | refine awp_block ?_)
   | ((with_reducible first | refine awp_label ?_ | refine awp_skip ?_ | refine awp_exit ?_ | refine hother _ _ rfl ?_); try simp only [thenA, inBlockA, noGotoA, if_true, Nat.reduceEqDiff, if_false, ↓reduceIte])
   | ((with_reducible first | refine awp_reg 22 hX [0, 1, 4, 5, 7, 8, 9, 10, 11] ?_ | change postOf _ _ _ _ _); simp [-List.reduceReplicate, Nat.add_one_le_iff, -getElem?_pos, -getElem?_neg, nilM, iC])
   | ((first | (with_reducible refine awp_ret ?_; try simp only [thenA, inBlockA, noGotoA])); try simp [-List.reduceReplicate, Nat.add_one_le_iff, -getElem?_pos, -getElem?_neg, nilM, iC])
   | (with_reducible refine awp_if_b rfl (fun hc => ?_) (fun hc => ?_) <;> (try simp [-getElem?_pos, -getElem?_neg] at hc) <;> (try (exfalso; omega)))
   | (with_reducible refine And.intro (by omega) ?_)
   | fail)
theorem leavesNil_den : DenV Tryz.prog 150 [nilM] nilM := by
  refine Den.frame rfl rfl ?_
  refine den_of Tryz.func150 rfl rfl (by simp [Tryz.ntmps150]) (fun X hX hO => ?_)
  rw [Tryz.ntmps150] at hX
  simp only [Tryz.results150]
  repeat' (first 
   | (with_reducible first | refine awp_scope ?_ | refine awp_seq ?_ | refine awp_block ?_)
   | ((with_reducible first | refine awp_label ?_ | refine awp_skip ?_ | refine awp_exit ?_); try simp only [thenA, inBlockA, noGotoA, if_true, Nat.reduceEqDiff, if_false, ↓reduceIte])
   | ((with_reducible first | refine awp_reg 5 hX [0, 2] ?_ | change postOf _ _ _ _ _); simp [-List.reduceReplicate, Nat.add_one_le_iff, -getElem?_pos, -getElem?_neg, nilM])
   | ((first | (with_reducible refine awp_ret ?_; try simp only [thenA, inBlockA, noGotoA]) | ((with_reducible refine Den.at_ (f := 217) ?_); refine (eachNil_den _ rfl _).det ?_)); try simp [-List.reduceReplicate, Nat.add_one_le_iff, -getElem?_pos, -getElem?_neg, nilM])
   | (with_reducible refine awp_if_b rfl (fun hc => ?_) (fun hc => ?_) <;> (try simp [-getElem?_pos, -getElem?_neg] at hc) <;> (try (exfalso; omega)))
   | (with_reducible refine And.intro (by omega) ?_)
   | fail)
theorem topNil_den : DenV Tryz.prog 149 [nilM] (hashM z32) := by
  refine Den.frame rfl rfl ?_
  refine den_of Tryz.func149 rfl rfl (by simp [Tryz.ntmps149]) (fun X hX hO => ?_)
  rw [Tryz.ntmps149] at hX
  simp only [Tryz.results149]
  repeat' (first 
   | (with_reducible first | refine awp_scope ?_ | refine awp_seq ?_ | refine awp_block ?_)
   | ((with_reducible first | refine awp_label ?_ | refine awp_skip ?_ | refine awp_exit ?_); try simp only [thenA, inBlockA, noGotoA, if_true, Nat.reduceEqDiff, if_false, ↓reduceIte])
   | ((with_reducible first | refine awp_reg 25 hX [0, 2, 3, 4, 6, 7, 10] ?_ | change postOf _ _ _ _ _); simp [-List.reduceReplicate, Nat.add_one_le_iff, -getElem?_pos, -getElem?_neg, nilM, hashM, z32, bC8])
   | ((first | (with_reducible refine awp_ret ?_; try simp only [thenA, inBlockA, noGotoA])); try simp [-List.reduceReplicate, Nat.add_one_le_iff, -getElem?_pos, -getElem?_neg, nilM, hashM, z32, bC8])
   | (with_reducible refine awp_if_b rfl (fun hc => ?_) (fun hc => ?_) <;> (try simp [-getElem?_pos, -getElem?_neg] at hc) <;> (try (exfalso; omega)))
   | (with_reducible refine And.intro (by omega) ?_)
   | fail)
theorem treeRootNil_den : DenV Tryz.prog 91 [nilM] (hashM rootNil) := by
  refine Den.frame rfl rfl ?_
  have p1 := leavesNil_den
  have p2 := topNil_den
  have p3 := rootSum_den 0 z32 (by omega) (by simp [z32])
  have hl := rootNil_len
  have hr : shaL (bsS (rootT 0 z32)) = rootNil := rfl
  rw [hr] at p3
  have ht := hash_take rootNil hl
  generalize rootNil = r at *
  generalize z32 = z at *
  refine den_of Tryz.func91 rfl rfl (by simp [Tryz.ntmps91]) (fun X hX hO => ?_)
  rw [Tryz.ntmps91] at hX
  simp only [Tryz.results91]
  repeat' (first 
   | (with_reducible first | refine awp_scope ?_ | refine awp_seq ?_ | refine awp_block ?_)
   | ((with_reducible first | refine awp_label ?_ | refine awp_skip ?_ | refine awp_exit ?_); try simp only [thenA, inBlockA, noGotoA, if_true, Nat.reduceEqDiff, if_false, ↓reduceIte])
   | ((with_reducible first | refine awp_reg 10 hX [0, 2] ?_ | change postOf _ _ _ _ _); simp [-List.reduceReplicate, Nat.add_one_le_iff, -getElem?_pos, -getElem?_neg, nilM, hashM, u64C, ht, hl])
   | ((first | (with_reducible refine awp_ret ?_; try simp only [thenA, inBlockA, noGotoA]) | (refine (p1 _).det ?_) | (refine (p2 _).det ?_) | (refine (p3 _).det ?_)); try simp [-List.reduceReplicate, Nat.add_one_le_iff, -getElem?_pos, -getElem?_neg, nilM, hashM, u64C, ht, hl])
   | (with_reducible refine awp_if_b rfl (fun hc => ?_) (fun hc => ?_) <;> (try simp [-getElem?_pos, -getElem?_neg] at hc) <;> (try (exfalso; omega)))
   | (with_reducible refine And.intro (by omega) ?_)
   | fail)
theorem linkRootNil_den : DenV Tryz.prog 54 [nilM] (hashM rootNil) := by
  refine Den.frame rfl rfl ?_
  have hl := rootNil_len
  have ht := hash_take rootNil hl
  have p1 := treeRootNil_den
  generalize rootNil = r at *
  refine den_of Tryz.func54 rfl rfl (by simp [Tryz.ntmps54]) (fun X hX hO => ?_)
  rw [Tryz.ntmps54] at hX
  simp only [Tryz.results54]
  repeat' (first 
   | (with_reducible first | refine awp_scope ?_ | refine awp_seq ?_ | refine awp_block ?_)
   | ((with_reducible first | refine awp_label ?_ | refine awp_skip ?_ | refine awp_exit ?_); try simp only [thenA, inBlockA, noGotoA, if_true, Nat.reduceEqDiff, if_false, ↓reduceIte])
   | ((with_reducible first | refine awp_reg 6 hX [0, 2] ?_ | change postOf _ _ _ _ _); simp [-List.reduceReplicate, Nat.add_one_le_iff, -getElem?_pos, -getElem?_neg, nilM, hashM, ht, hl])
   | ((first | (with_reducible refine awp_ret ?_; try simp only [thenA, inBlockA, noGotoA]) | ((with_reducible refine Den.at_ (f := 92) ?_); refine (textsNil_den _).det ?_) | (refine (p1 _).det ?_)); try simp [-List.reduceReplicate, Nat.add_one_le_iff, -getElem?_pos, -getElem?_neg, nilM, hashM, ht, hl])
   | (with_reducible refine awp_if_b rfl (fun hc => ?_) (fun hc => ?_) <;> (try simp [-getElem?_pos, -getElem?_neg] at hc) <;> (try (exfalso; omega)))
   | (with_reducible refine And.intro (by omega) ?_)
   | fail)
end Go.Av

set_option exponentiation.threshold 1000
set_option linter.unusedVariables false
set_option linter.unusedSimpArgs false
set_option maxRecDepth 100000
set_option maxHeartbeats 4000000
namespace Go.Av
open Go Go.Proofs Go.Proofs.YtocccighdkdljaaGreatDoor Go.RowKit
attribute [local simp] List.getElem?_cons_zero List.getElem?_cons_succ
def bitsC (x : Nat) : C := .sl ((bitsL x).map bC) 256 false
end Go.Av

set_option exponentiation.threshold 1000
set_option linter.unusedVariables false
set_option linter.unusedSimpArgs false
set_option maxRecDepth 100000
set_option maxHeartbeats 4000000
namespace Go.Av
open Go Go.Proofs Go.Proofs.YtocccighdkdljaaGreatDoor Go.RowKit
attribute [local simp] List.getElem?_cons_zero List.getElem?_cons_succ
attribute [local simp] Tryz.underlying9 Tryz.underlying3 Tryz.underlying4 Tryz.underlying32 Tryz.underlying24 Tryz.underlying27 Tryz.underlying29
structure CF where
  g : HD
  t : H32
  m : Int
  k : Int
  a : Int
  b : Int
  mb : Int
  mp : Int
def cfC (c : CF) : List C := hdC c.g ++ (c.t.1.map bC8 ++ [iC c.m, iC c.k, iC c.a, iC c.b, iC c.mb, iC c.mp])
def cfM (c : CF) : M := .agg (up (cfC c))
def okN (x t : Nat) : Bool := decide (cmpN x t ≤ 0)
theorem hv_lt256 (l : List UInt8) (hl : l.length = 32) : hv l < 2 ^ 256 := by
  exact Nat.lt_of_lt_of_le (hv_lt 32 l hl) (by decide)
theorem ok_den (x t : List UInt8) (hx : x.length = 32) (ht : t.length = 32) : DenV Tryz.prog 55 [hashM x, hashM t] (.c (bC (okN (hv x) (hv t)))) := by
  refine Den.frame (by simp [hashM, ltB, ltBs]) rfl ?_
  have p1 := wof_den x hx
  have p2 := wof_den t ht
  have p3 := wcmp_den (hv x) (hv t) (by simpa using hv_lt256 x hx) (by simpa using hv_lt256 t ht)
  have hk : okN (hv x) (hv t) = decide (cmpN (hv x) (hv t) ≤ 0) := rfl
  have h1 := hash_take x hx
  have h2 := hash_take t ht
  generalize okN (hv x) (hv t) = r at *
  generalize cmpN (hv x) (hv t) = k at *
  generalize wideM (hv x) = a at *
  generalize wideM (hv t) = b at *
  refine den_of Tryz.func55 rfl rfl (by simp [Tryz.ntmps55]) (fun X hX hO => ?_)
  rw [Tryz.ntmps55] at hX
  simp only [Tryz.results55]
  repeat' (first 
   | (with_reducible first | refine awp_scope ?_ | refine awp_seq ?_ | refine awp_block ?_)
   | ((with_reducible first | refine awp_label ?_ | refine awp_skip ?_ | refine awp_exit ?_); try simp only [thenA, inBlockA, noGotoA, if_true, Nat.reduceEqDiff, if_false, ↓reduceIte])
   | ((with_reducible first | refine awp_reg 11 hX [2, 3, 4] ?_ | refine awp_drw 11 hX [2, 3, 4] Tab.mixed (by kernel_rfl) ?_ | refine DEv_cut _ _ _ _ _ _ _ _ _ _ _ _ (by kernel_rfl) ?_ | change postOf _ _ _ _ _); simp [-List.reduceReplicate, Nat.add_one_le_iff, -getElem?_pos, -getElem?_neg, iC, bC, hashM, h1, h2, hx, ht, hk])
   | ((first | (with_reducible refine awp_ret ?_; try simp only [thenA, inBlockA, noGotoA]) | (refine (p1 _).det ?_) | (refine ⟨_, _, p1 _, fun _ => rfl, ?_⟩) | (refine (p2 _).det ?_) | (refine ⟨_, _, p2 _, fun _ => rfl, ?_⟩) | (refine (p3 _).det ?_) | (refine ⟨_, _, p3 _, fun _ => rfl, ?_⟩)); try simp [-List.reduceReplicate, Nat.add_one_le_iff, -getElem?_pos, -getElem?_neg, iC, bC, hashM, h1, h2, hx, ht, hk])
   | (with_reducible refine awp_if_b rfl (fun hc => ?_) (fun hc => ?_) <;> (try simp [-getElem?_pos, -getElem?_neg] at hc) <;> (try (exfalso; omega)))
   | (with_reducible refine And.intro (by omega) ?_)
   | fail)
def mayR (a b : Int) : Bool := decide (0 < a) && decide (a < b) && decide (b ≤ 65536)
def mayP (m k a b : Int) : Bool := decide (1 ≤ m) && decide (m ≤ 1024) && decide (1 ≤ k) && decide (k ≤ 1024) && mayR a b
theorem mayR_den (a b : Int) : DenV Tryz.prog 97 [.c (iC a), .c (iC b)] (.c (bC (mayR a b))) := by
  refine Den.frame rfl rfl ?_
  have hr : mayR a b = (decide (0 < a) && decide (a < b) && decide (b ≤ 65536)) := rfl
  generalize mayR a b = r at *
  refine den_of Tryz.func97 rfl rfl (by simp [Tryz.ntmps97]) (fun X hX hO => ?_)
  rw [Tryz.ntmps97] at hX
  simp only [Tryz.results97]
  repeat' (first 
   | (with_reducible first | refine awp_scope ?_ | refine awp_seq ?_ | refine awp_block ?_)
   | ((with_reducible first | refine awp_label ?_ | refine awp_skip ?_ | refine awp_exit ?_); try simp only [thenA, inBlockA, noGotoA, if_true, Nat.reduceEqDiff, if_false, ↓reduceIte])
   | ((with_reducible first | refine awp_reg 16 hX [0, 1, 4] ?_ | change postOf _ _ _ _ _); simp [-List.reduceReplicate, Nat.add_one_le_iff, -getElem?_pos, -getElem?_neg, iC, bC])
   | ((first | (with_reducible refine awp_ret ?_; try simp only [thenA, inBlockA, noGotoA])); try simp [-List.reduceReplicate, Nat.add_one_le_iff, -getElem?_pos, -getElem?_neg, iC, bC])
   | (with_reducible refine awp_if_b rfl (fun hc => ?_) (fun hc => ?_) <;> (try simp [-getElem?_pos, -getElem?_neg] at hc) <;> (try (exfalso; omega)))
   | ((with_reducible first | refine GuardK_b (fun hc => ?_) (fun hc => ?_)) <;> (try simp only [Bool.not_eq_true', Bool.not_eq_false', decide_eq_true_eq, decide_eq_false_iff_not] at hc) <;> (first | (exfalso; omega) | skip) <;> simp [-List.reduceReplicate, Nat.add_one_le_iff, -getElem?_pos, -getElem?_neg, iC, bC, hc])
   | (with_reducible refine And.intro (by omega) ?_)
   | fail)
  all_goals simp_all
theorem mayP_den (m k a b : Int) : DenV Tryz.prog 57 [.c (iC m), .c (iC k), .c (iC a), .c (iC b)] (.c (bC (mayP m k a b))) := by
  refine Den.frame rfl rfl ?_
  have p1 := mayR_den a b
  have hr : mayP m k a b = (decide (1 ≤ m) && decide (m ≤ 1024) && decide (1 ≤ k) && decide (k ≤ 1024) && mayR a b) := rfl
  generalize mayP m k a b = r at *
  generalize mayR a b = r2 at *
  refine den_of Tryz.func57 rfl rfl (by simp [Tryz.ntmps57]) (fun X hX hO => ?_)
  rw [Tryz.ntmps57] at hX
  simp only [Tryz.results57]
  repeat' (first 
   | (with_reducible first | refine awp_scope ?_ | refine awp_seq ?_ | refine awp_block ?_)
   | ((with_reducible first | refine awp_label ?_ | refine awp_skip ?_ | refine awp_exit ?_); try simp only [thenA, inBlockA, noGotoA, if_true, Nat.reduceEqDiff, if_false, ↓reduceIte])
   | ((with_reducible first | refine awp_reg 28 hX [0, 1, 2, 3, 8] ?_ | change postOf _ _ _ _ _); simp [-List.reduceReplicate, Nat.add_one_le_iff, -getElem?_pos, -getElem?_neg, iC, bC])
   | ((first | (with_reducible refine awp_ret ?_; try simp only [thenA, inBlockA, noGotoA]) | (refine (p1 _).det ?_)); try simp [-List.reduceReplicate, Nat.add_one_le_iff, -getElem?_pos, -getElem?_neg, iC, bC])
   | (with_reducible refine awp_if_b rfl (fun hc => ?_) (fun hc => ?_) <;> (try simp [-getElem?_pos, -getElem?_neg] at hc) <;> (try (exfalso; omega)))
   | ((with_reducible first | refine GuardK_b (fun hc => ?_) (fun hc => ?_)) <;> (try simp only [Bool.not_eq_true', Bool.not_eq_false', decide_eq_true_eq, decide_eq_false_iff_not] at hc) <;> (first | (exfalso; omega) | skip) <;> simp [-List.reduceReplicate, Nat.add_one_le_iff, -getElem?_pos, -getElem?_neg, iC, bC, hc])
   | (with_reducible refine And.intro (by omega) ?_)
   | fail)
  all_goals simp_all
end Go.Av

set_option exponentiation.threshold 1000
set_option linter.unusedVariables false
set_option linter.unusedSimpArgs false
set_option maxRecDepth 100000
set_option maxHeartbeats 4000000
namespace Go.Av
open Go Go.Proofs Go.Proofs.YtocccighdkdljaaGreatDoor Go.RowKit
attribute [local simp] List.getElem?_cons_zero List.getElem?_cons_succ
attribute [local simp] Tryz.underlying9 Tryz.underlying3 Tryz.underlying4 Tryz.underlying32 Tryz.underlying24 Tryz.underlying27 Tryz.underlying29
def anchC (c : CF) : Bool := decide (c.g.v ≠ 0) || decide (c.g.a.1 ≠ rootNil) || !okN (hv (idL c.g)) (hv c.t.1)
def rangeC (c : CF) : Bool := decide (c.mb < 1) || decide (1024 < c.mb) || decide (c.mp < 1) || decide (64 < c.mp)
def checkC (c : CF) : Int := if anchC c then 7 else if !mayP c.m c.k c.a c.b then 13 else if rangeC c then 3 else 0
theorem cfC_len (c : CF) : (cfC c).length = 104 := by simp [cfC, hdC, c.g.a.2, c.g.b.2, c.t.2]
theorem cfC_g (c : CF) : (cfC c).take 66 = hdC c.g := by
  have : (hdC c.g).length = 66 := by simp [hdC, c.g.a.2, c.g.b.2]
  rw [cfC, List.take_left' this]
theorem cfC_t (c : CF) : ((cfC c).drop 66).take 32 = c.t.1.map bC8 := by
  have : (hdC c.g).length = 66 := by simp [hdC, c.g.a.2, c.g.b.2]
  rw [cfC, List.drop_left' this, List.take_left' (by simp [c.t.2])]
theorem cfC_n (c : CF) (j : Nat) : (cfC c)[98 + j]? = [iC c.m, iC c.k, iC c.a, iC c.b, iC c.mb, iC c.mp][j]? := by
  have : (hdC c.g).length = 66 := by simp [hdC, c.g.a.2, c.g.b.2]
  rw [cfC, List.getElem?_append_right (by omega), this, List.getElem?_append_right (by simp [c.t.2]; omega)]
  simp [c.t.2]
  congr 1
  omega
theorem check_den (c : CF) (hok : HDok c.g) : DenV Tryz.prog 27 [cfM c] (.c (iC (checkC c))) := by
  refine Den.frame (by simp [cfM, ltB, ltBs]) rfl ?_
  have p1 := linkRootNil_den
  have p2 := identId_den c.g hok
  have p3 := ok_den (idL c.g) c.t.1 (by simp [idL, shaL_len]) c.t.2
  have p4 := mayP_den c.m c.k c.a c.b
  have he := eq_hash c.g.a.1 rootNil c.g.a.2 rootNil_len
  have hrl := rootNil_len
  have hck : checkC c = if anchC c then 7 else if !mayP c.m c.k c.a c.b then 13 else if rangeC c then 3 else 0 := rfl
  have han : anchC c = (decide (c.g.v ≠ 0) || decide (c.g.a.1 ≠ rootNil) || !okN (hv (idL c.g)) (hv c.t.1)) := rfl
  have hra : rangeC c = (decide (c.mb < 1) || decide (1024 < c.mb) || decide (c.mp < 1) || decide (64 < c.mp)) := rfl
  have kl := cfC_len c
  have kg := cfC_g c
  have kt := cfC_t c
  have k0 := cfC_n c 0
  have k1 := cfC_n c 1
  have k2 := cfC_n c 2
  have k3 := cfC_n c 3
  have k4 := cfC_n c 4
  have k5 := cfC_n c 5
  have hl : (hdC c.g).length = 66 := by simp [hdC, c.g.a.2, c.g.b.2]
  have ht : (hdC c.g).take 66 = hdC c.g := List.take_of_length_le (by omega)
  have h0 : (hdC c.g)[0]? = some (.v (.int .u32 (c.g.v : Int))) := rfl
  have ha : ((hdC c.g).drop 1).take 32 = c.g.a.1.map bC8 := by rw [hdC, List.drop_succ_cons, List.drop_zero, List.take_left' (by simp [c.g.a.2])]
  have kv : (cfC c)[0]? = some (.v (.int .u32 (c.g.v : Int))) := rfl
  have ka : ((cfC c).drop 1).take 32 = c.g.a.1.map bC8 := by
    have : cfC c = u32v c.g.v :: (c.g.a.1.map bC8 ++ ((c.g.b.1.map bC8 ++ [u64C c.g.n]) ++ (c.t.1.map bC8 ++ [iC c.m, iC c.k, iC c.a, iC c.b, iC c.mb, iC c.mp]))) := by simp [cfC, hdC]
    rw [this, List.drop_succ_cons, List.drop_zero, List.take_left' (by simp [c.g.a.2])]
  have ha2 : List.take 32 (up (hdC c.g)).tail = up (c.g.a.1.map bC8) := by rw [← ha]; simp [up, hdC, List.map_take]
  have ka2 : List.take 32 (up (cfC c)).tail = up (c.g.a.1.map bC8) := by rw [← ka]; simp [up, cfC, hdC, List.map_take]
  simp at k0 k1 k2 k3 k4 k5
  unfold cfM
  unfold hdM hashM at *
  obtain ⟨⟨v, ⟨A, hA⟩, B, n⟩, ⟨T, hT⟩, m, k, a, b, mb, mp⟩ := c
  simp only at *
  have hv0 : ((v : Int) = 0) ↔ v = 0 := by omega
  generalize checkC ⟨⟨v, ⟨A, hA⟩, B, n⟩, ⟨T, hT⟩, m, k, a, b, mb, mp⟩ = r at *
  generalize anchC ⟨⟨v, ⟨A, hA⟩, B, n⟩, ⟨T, hT⟩, m, k, a, b, mb, mp⟩ = ran at *
  generalize rangeC ⟨⟨v, ⟨A, hA⟩, B, n⟩, ⟨T, hT⟩, m, k, a, b, mb, mp⟩ = rra at *
  generalize cfC ⟨⟨v, ⟨A, hA⟩, B, n⟩, ⟨T, hT⟩, m, k, a, b, mb, mp⟩ = K at *
  generalize hdC ⟨v, ⟨A, hA⟩, B, n⟩ = Hc at *
  have hid : (idL ⟨v, ⟨A, hA⟩, B, n⟩).length = 32 := by simp [idL, shaL_len]
  generalize idL ⟨v, ⟨A, hA⟩, B, n⟩ = I at *
  generalize okN (hv I) (hv T) = o at *
  generalize mayP m k a b = my at *
  generalize rootNil = R at *
  generalize hAA : A.map bC8 = AA at *
  generalize hTT : T.map bC8 = TT at *
  generalize hRR : R.map bC8 = RR at *
  generalize hII : I.map bC8 = II at *
  have lA : AA.length = 32 := by rw [← hAA]; simp [hA]
  have lR : RR.length = 32 := by rw [← hRR]; simp [hrl]
  have lT : TT.length = 32 := by rw [← hTT]; simp [hT]
  have lI : II.length = 32 := by rw [← hII]; simp [hid]
  refine den_of Tryz.func27 rfl rfl (by simp [Tryz.ntmps27]) (fun X hX hO => ?_)
  rw [Tryz.ntmps27] at hX
  simp only [Tryz.results27]
  by_cases c1 : v = 0
  · by_cases c2 : A = R
    · cases o with
      | false =>
        simp [c1, c2] at han
        repeat' (first 
         | (with_reducible first | refine awp_scope ?_ | refine awp_seq ?_ | refine awp_block ?_)
         | ((with_reducible first | refine awp_label ?_ | refine awp_skip ?_ | refine awp_exit ?_); try simp only [thenA, inBlockA, noGotoA, if_true, Nat.reduceEqDiff, if_false, ↓reduceIte])
         | ((with_reducible first | refine awp_reg 50 hX [1, 2, 3, 6, 20, 31] ?_ | refine awp_drw 50 hX [1, 2, 3, 6, 20, 31] Tab.mixed (by kernel_rfl) ?_ | refine DEv_cut _ _ _ _ _ _ _ _ _ _ _ _ (by kernel_rfl) ?_ | change postOf _ _ _ _ _); simp [-List.reduceReplicate, Nat.add_one_le_iff, -getElem?_pos, -getElem?_neg, iC, bC, kl, kg, kt, k0, k1, k2, k3, k4, k5, hl, ht, h0, ha, he, c1, c2, kv, ka, ha2, ka2])
         | ((first | (with_reducible refine awp_ret ?_; try simp only [thenA, inBlockA, noGotoA]) | (refine (p1 _).det ?_) | (refine ⟨_, _, p1 _, fun _ => rfl, ?_⟩) | (refine (p2 _).det ?_) | (refine ⟨_, _, p2 _, fun _ => rfl, ?_⟩) | (refine (p3 _).det ?_) | (refine ⟨_, _, p3 _, fun _ => rfl, ?_⟩) | (refine (p4 _).det ?_) | (refine ⟨_, _, p4 _, fun _ => rfl, ?_⟩)); try simp [-List.reduceReplicate, Nat.add_one_le_iff, -getElem?_pos, -getElem?_neg, iC, bC, kl, kg, kt, k0, k1, k2, k3, k4, k5, hl, ht, h0, ha, he, c1, c2, kv, ka, ha2, ka2])
         | (with_reducible refine awp_if_b rfl (fun hc => ?_) (fun hc => ?_) <;> (try simp [-getElem?_pos, -getElem?_neg] at hc) <;> (try (exfalso; omega)))
         | ((with_reducible first | refine GuardK_b (fun hc => ?_) (fun hc => ?_) | refine DGuard_b _ _ _ _ _ _ _ _ _ _ (fun hc => ?_) (fun hc => ?_)) <;> (try simp only [Bool.not_eq_true', Bool.not_eq_false', decide_eq_true_eq, decide_eq_false_iff_not] at hc) <;> (first | (exfalso; omega) | skip) <;> simp [-List.reduceReplicate, Nat.add_one_le_iff, -getElem?_pos, -getElem?_neg, iC, bC, kl, kg, kt, k0, k1, k2, k3, k4, k5, hl, ht, h0, ha, he, c1, c2, kv, ka, ha2, ka2, hc])
         | (with_reducible refine And.intro (by omega) ?_)
         | fail)
        all_goals simp_all
      | true =>
        simp [c1, c2] at han
        cases my with
        | false =>
          repeat' (first 
           | (with_reducible first | refine awp_scope ?_ | refine awp_seq ?_ | refine awp_block ?_)
           | ((with_reducible first | refine awp_label ?_ | refine awp_skip ?_ | refine awp_exit ?_); try simp only [thenA, inBlockA, noGotoA, if_true, Nat.reduceEqDiff, if_false, ↓reduceIte])
           | ((with_reducible first | refine awp_reg 50 hX [1, 2, 3, 6, 20, 31] ?_ | refine awp_drw 50 hX [1, 2, 3, 6, 20, 31] Tab.mixed (by kernel_rfl) ?_ | refine DEv_cut _ _ _ _ _ _ _ _ _ _ _ _ (by kernel_rfl) ?_ | change postOf _ _ _ _ _); simp [-List.reduceReplicate, Nat.add_one_le_iff, -getElem?_pos, -getElem?_neg, iC, bC, kl, kg, kt, k0, k1, k2, k3, k4, k5, hl, ht, h0, ha, he, c1, c2, kv, ka, ha2, ka2])
           | ((first | (with_reducible refine awp_ret ?_; try simp only [thenA, inBlockA, noGotoA]) | (refine (p1 _).det ?_) | (refine ⟨_, _, p1 _, fun _ => rfl, ?_⟩) | (refine (p2 _).det ?_) | (refine ⟨_, _, p2 _, fun _ => rfl, ?_⟩) | (refine (p3 _).det ?_) | (refine ⟨_, _, p3 _, fun _ => rfl, ?_⟩) | (refine (p4 _).det ?_) | (refine ⟨_, _, p4 _, fun _ => rfl, ?_⟩)); try simp [-List.reduceReplicate, Nat.add_one_le_iff, -getElem?_pos, -getElem?_neg, iC, bC, kl, kg, kt, k0, k1, k2, k3, k4, k5, hl, ht, h0, ha, he, c1, c2, kv, ka, ha2, ka2])
           | (with_reducible refine awp_if_b rfl (fun hc => ?_) (fun hc => ?_) <;> (try simp [-getElem?_pos, -getElem?_neg] at hc) <;> (try (exfalso; omega)))
           | ((with_reducible first | refine GuardK_b (fun hc => ?_) (fun hc => ?_) | refine DGuard_b _ _ _ _ _ _ _ _ _ _ (fun hc => ?_) (fun hc => ?_)) <;> (try simp only [Bool.not_eq_true', Bool.not_eq_false', decide_eq_true_eq, decide_eq_false_iff_not] at hc) <;> (first | (exfalso; omega) | skip) <;> simp [-List.reduceReplicate, Nat.add_one_le_iff, -getElem?_pos, -getElem?_neg, iC, bC, kl, kg, kt, k0, k1, k2, k3, k4, k5, hl, ht, h0, ha, he, c1, c2, kv, ka, ha2, ka2, hc])
           | (with_reducible refine And.intro (by omega) ?_)
           | fail)
          all_goals simp_all
        | true =>
          repeat' (first 
           | (with_reducible first | refine awp_scope ?_ | refine awp_seq ?_ | refine awp_block ?_)
           | ((with_reducible first | refine awp_label ?_ | refine awp_skip ?_ | refine awp_exit ?_); try simp only [thenA, inBlockA, noGotoA, if_true, Nat.reduceEqDiff, if_false, ↓reduceIte])
           | ((with_reducible first | refine awp_reg 50 hX [1, 2, 3, 6, 20, 31] ?_ | refine awp_drw 50 hX [1, 2, 3, 6, 20, 31] Tab.mixed (by kernel_rfl) ?_ | refine DEv_cut _ _ _ _ _ _ _ _ _ _ _ _ (by kernel_rfl) ?_ | change postOf _ _ _ _ _); simp [-List.reduceReplicate, Nat.add_one_le_iff, -getElem?_pos, -getElem?_neg, iC, bC, kl, kg, kt, k0, k1, k2, k3, k4, k5, hl, ht, h0, ha, he, c1, c2, kv, ka, ha2, ka2])
           | ((first | (with_reducible refine awp_ret ?_; try simp only [thenA, inBlockA, noGotoA]) | (refine (p1 _).det ?_) | (refine ⟨_, _, p1 _, fun _ => rfl, ?_⟩) | (refine (p2 _).det ?_) | (refine ⟨_, _, p2 _, fun _ => rfl, ?_⟩) | (refine (p3 _).det ?_) | (refine ⟨_, _, p3 _, fun _ => rfl, ?_⟩) | (refine (p4 _).det ?_) | (refine ⟨_, _, p4 _, fun _ => rfl, ?_⟩)); try simp [-List.reduceReplicate, Nat.add_one_le_iff, -getElem?_pos, -getElem?_neg, iC, bC, kl, kg, kt, k0, k1, k2, k3, k4, k5, hl, ht, h0, ha, he, c1, c2, kv, ka, ha2, ka2])
           | (with_reducible refine awp_if_b rfl (fun hc => ?_) (fun hc => ?_) <;> (try simp [-getElem?_pos, -getElem?_neg] at hc) <;> (try (exfalso; omega)))
           | ((with_reducible first | refine GuardK_b (fun hc => ?_) (fun hc => ?_) | refine DGuard_b _ _ _ _ _ _ _ _ _ _ (fun hc => ?_) (fun hc => ?_)) <;> (try simp only [Bool.not_eq_true', Bool.not_eq_false', decide_eq_true_eq, decide_eq_false_iff_not] at hc) <;> (first | (exfalso; omega) | skip) <;> simp [-List.reduceReplicate, Nat.add_one_le_iff, -getElem?_pos, -getElem?_neg, iC, bC, kl, kg, kt, k0, k1, k2, k3, k4, k5, hl, ht, h0, ha, he, c1, c2, kv, ka, ha2, ka2, hc])
           | (with_reducible refine And.intro (by omega) ?_)
           | fail)
          all_goals simp_all
    · simp [c1, c2] at han
      repeat' (first 
       | (with_reducible first | refine awp_scope ?_ | refine awp_seq ?_ | refine awp_block ?_)
       | ((with_reducible first | refine awp_label ?_ | refine awp_skip ?_ | refine awp_exit ?_); try simp only [thenA, inBlockA, noGotoA, if_true, Nat.reduceEqDiff, if_false, ↓reduceIte])
       | ((with_reducible first | refine awp_reg 50 hX [1, 2, 3, 6, 20, 31] ?_ | refine awp_drw 50 hX [1, 2, 3, 6, 20, 31] Tab.mixed (by kernel_rfl) ?_ | refine DEv_cut _ _ _ _ _ _ _ _ _ _ _ _ (by kernel_rfl) ?_ | change postOf _ _ _ _ _); simp [-List.reduceReplicate, Nat.add_one_le_iff, -getElem?_pos, -getElem?_neg, iC, bC, kl, kg, kt, k0, k1, k2, k3, k4, k5, hl, ht, h0, ha, he, c1, c2, kv, ka, ha2, ka2])
       | ((first | (with_reducible refine awp_ret ?_; try simp only [thenA, inBlockA, noGotoA]) | (refine (p1 _).det ?_) | (refine ⟨_, _, p1 _, fun _ => rfl, ?_⟩) | (refine (p2 _).det ?_) | (refine ⟨_, _, p2 _, fun _ => rfl, ?_⟩) | (refine (p3 _).det ?_) | (refine ⟨_, _, p3 _, fun _ => rfl, ?_⟩) | (refine (p4 _).det ?_) | (refine ⟨_, _, p4 _, fun _ => rfl, ?_⟩)); try simp [-List.reduceReplicate, Nat.add_one_le_iff, -getElem?_pos, -getElem?_neg, iC, bC, kl, kg, kt, k0, k1, k2, k3, k4, k5, hl, ht, h0, ha, he, c1, c2, kv, ka, ha2, ka2])
       | (with_reducible refine awp_if_b rfl (fun hc => ?_) (fun hc => ?_) <;> (try simp [-getElem?_pos, -getElem?_neg] at hc) <;> (try (exfalso; omega)))
       | ((with_reducible first | refine GuardK_b (fun hc => ?_) (fun hc => ?_) | refine DGuard_b _ _ _ _ _ _ _ _ _ _ (fun hc => ?_) (fun hc => ?_)) <;> (try simp only [Bool.not_eq_true', Bool.not_eq_false', decide_eq_true_eq, decide_eq_false_iff_not] at hc) <;> (first | (exfalso; omega) | skip) <;> simp [-List.reduceReplicate, Nat.add_one_le_iff, -getElem?_pos, -getElem?_neg, iC, bC, kl, kg, kt, k0, k1, k2, k3, k4, k5, hl, ht, h0, ha, he, c1, c2, kv, ka, ha2, ka2, hc])
       | (with_reducible refine And.intro (by omega) ?_)
       | fail)
      all_goals simp_all
  · simp [c1] at han
    repeat' (first 
     | (with_reducible first | refine awp_scope ?_ | refine awp_seq ?_ | refine awp_block ?_)
     | ((with_reducible first | refine awp_label ?_ | refine awp_skip ?_ | refine awp_exit ?_); try simp only [thenA, inBlockA, noGotoA, if_true, Nat.reduceEqDiff, if_false, ↓reduceIte])
     | ((with_reducible first | refine awp_reg 50 hX [1, 2, 3, 6, 20, 31] ?_ | refine awp_drw 50 hX [1, 2, 3, 6, 20, 31] Tab.mixed (by kernel_rfl) ?_ | refine DEv_cut _ _ _ _ _ _ _ _ _ _ _ _ (by kernel_rfl) ?_ | change postOf _ _ _ _ _); simp [-List.reduceReplicate, Nat.add_one_le_iff, -getElem?_pos, -getElem?_neg, iC, bC, kl, kg, kt, k0, k1, k2, k3, k4, k5, hl, ht, h0, ha, he, c1, kv, ka, ha2, ka2])
     | ((first | (with_reducible refine awp_ret ?_; try simp only [thenA, inBlockA, noGotoA]) | (refine (p1 _).det ?_) | (refine ⟨_, _, p1 _, fun _ => rfl, ?_⟩) | (refine (p2 _).det ?_) | (refine ⟨_, _, p2 _, fun _ => rfl, ?_⟩) | (refine (p3 _).det ?_) | (refine ⟨_, _, p3 _, fun _ => rfl, ?_⟩) | (refine (p4 _).det ?_) | (refine ⟨_, _, p4 _, fun _ => rfl, ?_⟩)); try simp [-List.reduceReplicate, Nat.add_one_le_iff, -getElem?_pos, -getElem?_neg, iC, bC, kl, kg, kt, k0, k1, k2, k3, k4, k5, hl, ht, h0, ha, he, c1, kv, ka, ha2, ka2])
     | (with_reducible refine awp_if_b rfl (fun hc => ?_) (fun hc => ?_) <;> (try simp [-getElem?_pos, -getElem?_neg] at hc) <;> (try (exfalso; omega)))
     | ((with_reducible first | refine GuardK_b (fun hc => ?_) (fun hc => ?_) | refine DGuard_b _ _ _ _ _ _ _ _ _ _ (fun hc => ?_) (fun hc => ?_)) <;> (try simp only [Bool.not_eq_true', Bool.not_eq_false', decide_eq_true_eq, decide_eq_false_iff_not] at hc) <;> (first | (exfalso; omega) | skip) <;> simp [-List.reduceReplicate, Nat.add_one_le_iff, -getElem?_pos, -getElem?_neg, iC, bC, kl, kg, kt, k0, k1, k2, k3, k4, k5, hl, ht, h0, ha, he, c1, kv, ka, ha2, ka2, hc])
     | (with_reducible refine And.intro (by omega) ?_)
     | fail)
    all_goals simp_all
end Go.Av

set_option exponentiation.threshold 1000
set_option linter.unusedVariables false
set_option linter.unusedSimpArgs false
set_option maxRecDepth 100000
set_option maxHeartbeats 4000000
namespace Go.Av
open Go Go.Proofs Go.Proofs.YtocccighdkdljaaGreatDoor Go.RowKit
attribute [local simp] List.getElem?_cons_zero List.getElem?_cons_succ
def cfO (K : List C) : Ob := ⟨29, 1, false, 0, up K, none⟩
def numsL (i : Nat) : List M := [.mp i 0 98, .mp i 0 99, .mp i 0 100, .mp i 0 101, .mp i 0 102, .mp i 0 103]
def numsO (i : Nat) : Ob := ⟨343, 1, false, 0, numsL i, none⟩
end Go.Av

set_option exponentiation.threshold 1000
set_option linter.unusedVariables false
set_option linter.unusedSimpArgs false
set_option maxRecDepth 100000
set_option maxHeartbeats 4000000
namespace Go.Av
open Go Go.Proofs Go.Proofs.YtocccighdkdljaaGreatDoor Go.RowKit
attribute [local simp] List.getElem?_cons_zero List.getElem?_cons_succ
def cfK (g : HD) (t : H32) (l : List Int) : List C := hdC g ++ (t.1.map bC8 ++ l.map iC)
def numsTo (c : Cu) : Nat → List Int × Cu
  | 0 => ([], c)
  | k + 1 => ((numsTo c k).1 ++ [((numC (numsTo c k).2 65536).1 : Int)], (numC (numsTo c k).2 65536).2)
def padN (c : Cu) (k : Nat) : List Int := (numsTo c k).1 ++ List.replicate (6 - k) 0
def cfOf (g : HD) (t : H32) (l : List Int) : CF := ⟨g, t, l.getD 0 0, l.getD 1 0, l.getD 2 0, l.getD 3 0, l.getD 4 0, l.getD 5 0⟩
def zCF : CF := ⟨H0, Z32, 0, 0, 0, 0, 0, 0⟩
def decC (b : ByteArray) : CF × Int :=
  let h := headC ⟨b, 0⟩
  let t := hashC h.2
  let e := doneC (numsTo t.2 6).2
  let c := cfOf h.1 t.1 (padN t.2 6)
  if e ≠ 0 then (zCF, e) else if checkC c ≠ 0 then (zCF, checkC c) else (c, 0)
end Go.Av

set_option exponentiation.threshold 1000
set_option linter.unusedVariables false
set_option linter.unusedSimpArgs false
set_option maxRecDepth 100000
set_option maxHeartbeats 4000000
namespace Go.Av
open Go Go.Proofs Go.Proofs.YtocccighdkdljaaGreatDoor Go.RowKit
attribute [local simp] List.getElem?_cons_zero List.getElem?_cons_succ
theorem cloneL_den (s : ByteArray) (hs : s.size ≤ 281474976710656) : DenV Tryz.prog 90 [.c (sC s)] (.c (sC s)) := by
  refine Den.of_below (by kernel_rfl) rfl fun w E vals hl ha hst => ?_
  have h0 := ha 0 _ rfl
  obtain ⟨va, rfl⟩ : ∃ va, vals = #[va] := by
    obtain ⟨l⟩ := vals
    match l, hl with
    | [a], _ => exact ⟨a, rfl⟩
  obtain rfl : va = .string s := arg_v h0
  exact (Tryz.stringslite_Clone s w hs).mono fun e w' ⟨he, hw⟩ => ⟨by rw [he], hw⟩
theorem clone_den (s : ByteArray) (hs : s.size ≤ 281474976710656) : DenV Tryz.prog 53 [.c (sC s)] (.c (sC s)) := by
  refine Den.frame rfl rfl ?_
  refine den_of Tryz.func53 rfl rfl (by simp [Tryz.ntmps53]) (fun X hX hO => ?_)
  rw [Tryz.ntmps53] at hX
  simp only [Tryz.results53]
  repeat' (first 
   | (with_reducible first | refine awp_scope ?_ | refine awp_seq ?_ | refine awp_block ?_)
   | ((with_reducible first | refine awp_label ?_ | refine awp_skip ?_ | refine awp_exit ?_); try simp only [thenA, inBlockA, noGotoA, if_true, Nat.reduceEqDiff, if_false, ↓reduceIte])
   | ((with_reducible first | refine awp_reg 5 hX [0, 2] ?_ | change postOf _ _ _ _ _); simp [-List.reduceReplicate, Nat.add_one_le_iff, -getElem?_pos, -getElem?_neg, sC])
   | ((first | (with_reducible refine awp_ret ?_; try simp only [thenA, inBlockA, noGotoA]) | ((with_reducible refine Den.at_ (f := 90) ?_); refine (cloneL_den s hs _).det ?_)); try simp [-List.reduceReplicate, Nat.add_one_le_iff, -getElem?_pos, -getElem?_neg, sC])
   | (with_reducible refine awp_if_b rfl (fun hc => ?_) (fun hc => ?_) <;> (try simp [-getElem?_pos, -getElem?_neg] at hc) <;> (try (exfalso; omega)))
   | (with_reducible refine And.intro (by omega) ?_)
   | fail)
def storeO (most : Int) (m : M) : Ob := ⟨119, 2, false, 0, [.c (iC most), m], none⟩
theorem zv_int : zeroV Tryz.prog 3 = some (.c (.v (.int .i64 0))) := by kernel_rfl
theorem new_den (n : Int) (ob : List Ob) : Den Tryz.prog 25 [.c (iC n)] ob (fun r ob' => r = .mp (ob.length + 1) 0 0 ∧ ob' = ob ++ [oddOb (.map []), storeO n (.mm ob.length)]) := by
  refine den_of Tryz.func25 rfl rfl (by simp [Tryz.ntmps25]) (fun X hX hO => ?_)
  rw [Tryz.ntmps25] at hX
  simp only [Tryz.results25]
  repeat' (first 
   | (with_reducible first | refine awp_scope ?_ | refine awp_seq ?_ | refine awp_block ?_)
   | ((with_reducible first | refine awp_label ?_ | refine awp_skip ?_ | refine awp_exit ?_); try simp only [thenA, inBlockA, noGotoA, if_true, Nat.reduceEqDiff, if_false, ↓reduceIte])
   | ((with_reducible first | refine awp_reg 7 hX [0, 2] ?_ | change postOf _ _ _ _ _); simp [-List.reduceReplicate, Nat.add_one_le_iff, -getElem?_pos, -getElem?_neg, iC, storeO])
   | ((first | (with_reducible refine awp_ret ?_; try simp only [thenA, inBlockA, noGotoA])); try simp [-List.reduceReplicate, Nat.add_one_le_iff, -getElem?_pos, -getElem?_neg, iC, storeO])
   | (with_reducible refine awp_if_b rfl (fun hc => ?_) (fun hc => ?_) <;> (try simp [-getElem?_pos, -getElem?_neg] at hc) <;> (try (exfalso; omega)))
   | (with_reducible refine And.intro (by omega) ?_)
   | fail)
theorem has_zero (i : Nat) (n : Int) (s : ByteArray) (ob : List Ob) (h1 : ob[i]? = some (storeO n (.c (.v (.map none))))) : Den Tryz.prog 52 [.mp i 0 0, .c (sC s)] ob (fun r ob' => r = .c (bC false) ∧ ob' = ob) := by
  refine den_of Tryz.func52 rfl rfl (by simp [Tryz.ntmps52]) (fun X hX hO => ?_)
  rw [Tryz.ntmps52] at hX
  simp only [Tryz.results52]
  have zv := zv_int
  repeat' (first 
   | (with_reducible first | refine awp_scope ?_ | refine awp_seq ?_ | refine awp_block ?_)
   | ((with_reducible first | refine awp_label ?_ | refine awp_skip ?_ | refine awp_exit ?_); try simp only [thenA, inBlockA, noGotoA, if_true, Nat.reduceEqDiff, if_false, ↓reduceIte])
   | ((with_reducible first | refine awp_reg 19 hX [0, 1, 4, 6, 8] ?_ | change postOf _ _ _ _ _); simp [-List.reduceReplicate, Nat.add_one_le_iff, -getElem?_pos, -getElem?_neg, bC, sC, storeO, h1, zv])
   | ((first | (with_reducible refine awp_ret ?_; try simp only [thenA, inBlockA, noGotoA])); try simp [-List.reduceReplicate, Nat.add_one_le_iff, -getElem?_pos, -getElem?_neg, bC, sC, storeO, h1, zv])
   | (with_reducible refine awp_if_b rfl (fun hc => ?_) (fun hc => ?_) <;> (try simp [-getElem?_pos, -getElem?_neg] at hc) <;> (try (exfalso; omega)))
   | (with_reducible refine And.intro (by omega) ?_)
   | fail)
def numS (k : Nat) : List ByteArray → List Ent
  | [] => []
  | s :: r => (s, false, [iC k]) :: numS (k + 1) r
def entS (l : List ByteArray) : List Ent := numS 0 l
theorem numS_len (l : List ByteArray) : ∀ k, (numS k l).length = l.length := by
  induction l with
  | nil => intro k; rfl
  | cons s r ih => intro k; simp [numS, ih]
theorem entS_len (l : List ByteArray) : (entS l).length = l.length := numS_len l 0
theorem numS_none (l : List ByteArray) (s : ByteArray) (h : s ∉ l) : ∀ k, findE (numS k l) s = none := by
  induction l with
  | nil => intro k; rfl
  | cons x r ih =>
    intro k
    simp at h
    simp [numS, findE, Ne.symm h.1, ih h.2]
theorem entAt_none (l : List ByteArray) (s : ByteArray) (h : s ∉ l) : entAt (entS l) s = none := by
  simp [entAt, entS, numS_none l s h 0]
theorem numS_append (l : List ByteArray) (s : ByteArray) : ∀ k, numS k (l ++ [s]) = numS k l ++ [(s, false, [iC ((k + l.length : Nat) : Int)])] := by
  induction l with
  | nil => intro k; simp [numS]
  | cons x r ih => intro k; simp only [numS, List.cons_append, ih, List.length_cons]; rw [show k + 1 + r.length = k + (r.length + 1) by omega]
theorem putE_new (l : List ByteArray) (s : ByteArray) (h : s ∉ l) : putE (entS l) s (false, [iC l.length]) = entS (l ++ [s]) := by
  simp only [putE, entS, numS_none l s h 0, numS_append, Nat.zero_add]
attribute [local simp] Tryz.underlying117 Tryz.underlying9 Tryz.underlying3
theorem has_out (i j : Nat) (n : Int) (l : List ByteArray) (s : ByteArray) (ob : List Ob) (h1 : ob[i]? = some (storeO n (.mm j))) (h2 : ob[j]? = some (oddOb (.map (entS l)))) (hs : s ∉ l) : Den Tryz.prog 52 [.mp i 0 0, .c (sC s)] ob (fun r ob' => r = .c (bC false) ∧ ob' = ob) := by
  refine den_of Tryz.func52 rfl rfl (by simp [Tryz.ntmps52]) (fun X hX hO => ?_)
  rw [Tryz.ntmps52] at hX
  simp only [Tryz.results52]
  have zv := zv_int
  have hk := entAt_none l s hs
  generalize entS l = es at *
  repeat' (first 
   | (with_reducible first | refine awp_scope ?_ | refine awp_seq ?_ | refine awp_block ?_)
   | ((with_reducible first | refine awp_label ?_ | refine awp_skip ?_ | refine awp_exit ?_); try simp only [thenA, inBlockA, noGotoA, if_true, Nat.reduceEqDiff, if_false, ↓reduceIte])
   | ((with_reducible first | refine awp_reg 19 hX [0, 1, 4, 6, 8] ?_ | change postOf _ _ _ _ _); simp [-List.reduceReplicate, Nat.add_one_le_iff, -getElem?_pos, -getElem?_neg, bC, sC, storeO, h1, h2, zv, hk, hs])
   | ((first | (with_reducible refine awp_ret ?_; try simp only [thenA, inBlockA, noGotoA])); try simp [-List.reduceReplicate, Nat.add_one_le_iff, -getElem?_pos, -getElem?_neg, bC, sC, storeO, h1, h2, zv, hk, hs])
   | (with_reducible refine awp_if_b rfl (fun hc => ?_) (fun hc => ?_) <;> (try simp [-getElem?_pos, -getElem?_neg] at hc) <;> (try (exfalso; omega)))
   | (with_reducible refine And.intro (by omega) ?_)
   | fail)
theorem add_zero (i : Nat) (n : Int) (s : ByteArray) (ob : List Ob) (h1 : ob[i]? = some (storeO n (.c (.v (.map none))))) : Den Tryz.prog 26 [.mp i 0 0, .c (sC s)] ob (fun r ob' => r = .tup [.c (bC false), .c (iC 5)] ∧ ob' = ob) := by
  refine den_of Tryz.func26 rfl rfl (by simp [Tryz.ntmps26]) (fun X hX hO => ?_)
  rw [Tryz.ntmps26] at hX
  simp only [Tryz.results26]
  have pbn : pbin Tryz.prog .eql 117 (.map none) (.map none) = none := rfl
  repeat' (first 
   | (with_reducible first | refine awp_scope ?_ | refine awp_seq ?_ | refine awp_block ?_)
   | ((with_reducible first | refine awp_label ?_ | refine awp_skip ?_ | refine awp_exit ?_); try simp only [thenA, inBlockA, noGotoA, if_true, Nat.reduceEqDiff, if_false, ↓reduceIte])
   | ((with_reducible first | refine awp_reg 43 hX [0, 1, 4, 5, 6, 10] ?_ | refine awp_drw 43 hX [0, 1, 4, 5, 6, 10] Tab.mixed (by kernel_rfl) ?_ | refine DEv_cut _ _ _ _ _ _ _ _ _ _ _ _ (by kernel_rfl) ?_ | change postOf _ _ _ _ _); simp [-List.reduceReplicate, Nat.add_one_le_iff, -getElem?_pos, -getElem?_neg, bC, iC, sC, storeO, h1, pbn])
   | ((first | (with_reducible refine awp_ret ?_; try simp only [thenA, inBlockA, noGotoA]) | ((with_reducible refine Den.at_ (f := 52) ?_); refine (has_zero i n s _ h1).det ?_) | ((with_reducible refine drawn_at (f := 52) ?_); refine ⟨_, _, has_zero i n s _ h1, fun _ => rfl, ?_⟩)); try simp [-List.reduceReplicate, Nat.add_one_le_iff, -getElem?_pos, -getElem?_neg, bC, iC, sC, storeO, h1, pbn])
   | (with_reducible refine awp_if_b rfl (fun hc => ?_) (fun hc => ?_) <;> (try simp [-getElem?_pos, -getElem?_neg] at hc) <;> (try (exfalso; omega)))
   | ((with_reducible first | refine GuardK_b (fun hc => ?_) (fun hc => ?_) | refine DGuard_b _ _ _ _ _ _ _ _ _ _ (fun hc => ?_) (fun hc => ?_)) <;> (try simp only [Bool.not_eq_true', Bool.not_eq_false', decide_eq_true_eq, decide_eq_false_iff_not] at hc) <;> (first | (exfalso; omega) | skip) <;> simp [-List.reduceReplicate, Nat.add_one_le_iff, -getElem?_pos, -getElem?_neg, bC, iC, sC, storeO, h1, pbn, hc])
   | (with_reducible refine And.intro (by omega) ?_)
   | fail)
theorem add_new (i j : Nat) (n : Int) (l : List ByteArray) (s : ByteArray) (ob : List Ob) (hs8 : s.size ≤ 281474976710656) (h1 : ob[i]? = some (storeO n (.mm j))) (h2 : ob[j]? = some (oddOb (.map (entS l)))) (hs : s ∉ l) (hn : ¬ n ≤ (l.length : Int)) :
    Den Tryz.prog 26 [.mp i 0 0, .c (sC s)] ob (fun r ob' => r = .tup [.c (bC true), .c (iC 0)] ∧ ob' = ob.set j (oddOb (.map (entS (l ++ [s]))))) := by
  refine den_of Tryz.func26 rfl rfl (by simp [Tryz.ntmps26]) (fun X hX hO => ?_)
  rw [Tryz.ntmps26] at hX
  simp only [Tryz.results26]
  have hl := entS_len l
  have hp := putE_new l s hs
  have ch := has_out i j n l s ob h1 h2 hs
  have cc := clone_den s hs8
  generalize entS (l ++ [s]) = es2 at *
  generalize entS l = es at *
  simp only [iC] at hp
  repeat' (first 
   | (with_reducible first | refine awp_scope ?_ | refine awp_seq ?_ | refine awp_block ?_)
   | ((with_reducible first | refine awp_label ?_ | refine awp_skip ?_ | refine awp_exit ?_); try simp only [thenA, inBlockA, noGotoA, if_true, Nat.reduceEqDiff, if_false, ↓reduceIte])
   | ((with_reducible first | refine awp_reg 43 hX [0, 1, 4, 5, 6, 10] ?_ | refine awp_drw 43 hX [0, 1, 4, 5, 6, 10] Tab.mixed (by kernel_rfl) ?_ | refine DEv_cut _ _ _ _ _ _ _ _ _ _ _ _ (by kernel_rfl) ?_ | change postOf _ _ _ _ _); simp [-List.reduceReplicate, Nat.add_one_le_iff, -getElem?_pos, -getElem?_neg, bC, iC, sC, storeO, h1, h2, hs, hl, hn, hp])
   | ((first | (with_reducible refine awp_ret ?_; try simp only [thenA, inBlockA, noGotoA]) | (refine (ch).det ?_) | (refine ⟨_, _, ch, fun _ => rfl, ?_⟩) | (refine (cc _).det ?_) | (refine ⟨_, _, cc _, fun _ => rfl, ?_⟩)); try simp [-List.reduceReplicate, Nat.add_one_le_iff, -getElem?_pos, -getElem?_neg, bC, iC, sC, storeO, h1, h2, hs, hl, hn, hp])
   | (with_reducible refine awp_if_b rfl (fun hc => ?_) (fun hc => ?_) <;> (try simp [-getElem?_pos, -getElem?_neg] at hc) <;> (try (exfalso; omega)))
   | ((with_reducible first | refine GuardK_b (fun hc => ?_) (fun hc => ?_) | refine DGuard_b _ _ _ _ _ _ _ _ _ _ (fun hc => ?_) (fun hc => ?_)) <;> (try simp only [Bool.not_eq_true', Bool.not_eq_false', decide_eq_true_eq, decide_eq_false_iff_not] at hc) <;> (first | (exfalso; omega) | skip) <;> simp [-List.reduceReplicate, Nat.add_one_le_iff, -getElem?_pos, -getElem?_neg, bC, iC, sC, storeO, h1, h2, hs, hl, hn, hp, hc])
   | (with_reducible refine And.intro (by omega) ?_)
   | fail)
end Go.Av

set_option exponentiation.threshold 1000
set_option linter.unusedVariables false
set_option linter.unusedSimpArgs false
set_option maxRecDepth 100000
set_option maxHeartbeats 4000000
namespace Go.Av
open Go Go.Proofs Go.Proofs.YtocccighdkdljaaGreatDoor Go.RowKit
attribute [local simp] List.getElem?_cons_zero List.getElem?_cons_succ
attribute [local simp] Tryz.underlying117 Tryz.underlying9 Tryz.underlying3
theorem all_nil (ob : List Ob) : Den Tryz.prog 33 [.c (.v (.pointer none))] ob (fun r ob' => r = .c (.v (.slice none 0 0)) ∧ ob' = ob) := by
  refine den_of Tryz.func33 rfl rfl (by simp [Tryz.ntmps33]) (fun X hX hO => ?_)
  rw [Tryz.ntmps33] at hX
  simp only [Tryz.results33]
  repeat' (first 
   | (with_reducible first | refine awp_scope ?_ | refine awp_seq ?_ | refine awp_block ?_)
   | ((with_reducible first | refine awp_label ?_ | refine awp_skip ?_ | refine awp_exit ?_); try simp only [thenA, inBlockA, noGotoA, if_true, Nat.reduceEqDiff, if_false, ↓reduceIte])
   | ((with_reducible first | refine awp_reg 24 hX [0, 2, 3, 4, 6, 12, 14] ?_ | change postOf _ _ _ _ _); simp [-List.reduceReplicate, Nat.add_one_le_iff, -getElem?_pos, -getElem?_neg])
   | ((first | (with_reducible refine awp_ret ?_; try simp only [thenA, inBlockA, noGotoA])); try simp [-List.reduceReplicate, Nat.add_one_le_iff, -getElem?_pos, -getElem?_neg])
   | (with_reducible refine awp_if_b rfl (fun hc => ?_) (fun hc => ?_) <;> (try simp [-getElem?_pos, -getElem?_neg] at hc) <;> (try (exfalso; omega)))
   | (with_reducible refine And.intro (by omega) ?_)
   | fail)
end Go.Av

set_option exponentiation.threshold 1000
set_option linter.unusedVariables false
set_option linter.unusedSimpArgs false
set_option maxRecDepth 100000
set_option maxHeartbeats 4000000
namespace Go.Av
open Go Go.Proofs Go.Proofs.YtocccighdkdljaaGreatDoor Go.RowKit
attribute [local simp] List.getElem?_cons_zero List.getElem?_cons_succ
attribute [local simp] Tryz.underlying117 Tryz.underlying9 Tryz.underlying3 Tryz.underlying4
def stObs (n : Int) (l : List ByteArray) : List Ob := [oddOb (.map (entS l)), storeO n (.mm 0)]
def zObs : List Ob := [storeO 0 (.c (.v (.map none)))]
end Go.Av

set_option exponentiation.threshold 1000
set_option linter.unusedVariables false
set_option linter.unusedSimpArgs false
set_option maxRecDepth 100000
set_option maxHeartbeats 4000000
namespace Go.Av
open Go Go.Proofs Go.Proofs.YtocccighdkdljaaGreatDoor Go.RowKit
attribute [local simp] List.getElem?_cons_zero List.getElem?_cons_succ
open Go.Hp
theorem toList_inj3 (x y : ByteArray) : x.toList = y.toList ↔ x = y := by
  rw [toList_data, toList_data]
  constructor
  · intro h
    cases x; cases y
    simp only [ByteArray.mk.injEq]
    exact Array.toList_inj.1 h
  · intro h; rw [h]
theorem flat_take3 {A B : Type} {f : A → List B} {sz : Nat} (hf : ∀ a, (f a).length = sz) (l : List A) : ∀ (i : Nat) (a : A), l[i]? = some a → ((l.flatMap f).drop (i * sz)).take sz = f a := by
  induction l with
  | nil => intro i a h; simp at h
  | cons x l ih =>
    intro i a h
    simp only [List.flatMap_cons]
    cases i with
    | zero =>
      simp at h
      subst h
      rw [Nat.zero_mul, List.drop_zero, List.take_append_of_le_length (by rw [hf]; exact Nat.le_refl _), List.take_of_length_le (by rw [hf]; exact Nat.le_refl _)]
    | succ i =>
      have hx := hf x
      rw [Nat.add_mul, Nat.one_mul, Nat.add_comm (i * sz) sz, ← List.drop_drop, List.drop_left' hx]
      exact ih i a (by simpa using h)
structure Run where
  at_ : Int
  wins : Int
  key : ByteArray
instance : Inhabited Run := ⟨⟨0, 0, ByteArray.empty⟩⟩
def runrC (r : Run) : List C := [iC r.at_, iC r.wins, sC r.key]
def rlt (a b : Run) : Bool := if a.wins = b.wins then (if a.key.toList = b.key.toList then decide (a.at_ < b.at_) else less a.key b.key) else decide (b.wins < a.wins)
theorem rlt_ord : Ord rlt := by
  have key : ∀ a b : Run, rlt b a = false ↔ (b.wins ≤ a.wins ∧ (a.wins = b.wins → less b.key a.key = false ∧ (b.key.toList = a.key.toList → a.at_ ≤ b.at_))) := fun a b => by
    unfold rlt
    by_cases h : b.wins = a.wins
    · rw [if_pos h]
      by_cases h2 : b.key.toList = a.key.toList
      · rw [if_pos h2]
        have : less b.key a.key = false := by unfold less; rw [h2]; exact bl_irr _
        simp only [decide_eq_false_iff_not]
        constructor
        · intro q; exact ⟨by omega, fun _ => ⟨this, fun _ => by omega⟩⟩
        · intro ⟨_, q⟩; have := (q h.symm).2 h2; omega
      · rw [if_neg h2]
        constructor
        · intro q; exact ⟨by omega, fun _ => ⟨q, fun e => absurd e h2⟩⟩
        · intro ⟨_, q⟩; exact (q h.symm).1
    · rw [if_neg h]
      simp only [decide_eq_false_iff_not]
      constructor
      · intro q; exact ⟨by omega, fun e => absurd e.symm h⟩
      · intro ⟨q, _⟩; omega
  refine ⟨fun a b c h1 h2 => ?_, fun a b => ?_⟩
  · rw [key] at h1 h2 ⊢
    refine ⟨by omega, fun e => ?_⟩
    obtain ⟨p1, p2⟩ := h1.2 (by omega)
    obtain ⟨q1, q2⟩ := h2.2 (by omega)
    unfold less at *
    by_cases e1 : c.key.toList = b.key.toList
    · rw [e1]
      refine ⟨p1, fun e2 => ?_⟩
      have := q2 e1; have := p2 (by rw [← e2])
      omega
    · have c1 : Op.bytesLess b.key.toList c.key.toList = true := by
        cases h : Op.bytesLess b.key.toList c.key.toList with
        | true => rfl
        | false => exact absurd (bl_eq _ _ q1 h) e1
      by_cases e2 : b.key.toList = a.key.toList
      · rw [← e2]
        exact ⟨q1, fun e3 => absurd e3 e1⟩
      · have c2 : Op.bytesLess a.key.toList b.key.toList = true := by
          cases h : Op.bytesLess a.key.toList b.key.toList with
          | true => rfl
          | false => exact absurd (bl_eq _ _ p1 h) e2
        have c3 := bl_trans _ _ _ c2 c1
        refine ⟨bl_asym _ _ c3, fun e3 => ?_⟩
        rw [e3, bl_irr] at c3; simp at c3
  · rw [key, key]
    rcases Int.lt_trichotomy a.wins b.wins with h | h | h
    · exact .inr ⟨by omega, fun e => by omega⟩
    · by_cases e : a.key.toList = b.key.toList
      · unfold less
        rw [e]
        rcases Int.le_total a.at_ b.at_ with h2 | h2
        · exact .inl ⟨by omega, fun _ => ⟨bl_irr _, fun _ => h2⟩⟩
        · exact .inr ⟨by omega, fun _ => ⟨bl_irr _, fun _ => h2⟩⟩
      · unfold less
        cases h2 : Op.bytesLess a.key.toList b.key.toList with
        | true => exact .inl ⟨by omega, fun _ => ⟨bl_asym _ _ h2, fun q => absurd q.symm e⟩⟩
        | false => exact .inr ⟨by omega, fun _ => ⟨rfl, fun q => absurd q e⟩⟩
    · exact .inl ⟨by omega, fun e => by omega⟩
theorem rlt_anti (a b : Run) (h1 : rlt a b = false) (h2 : rlt b a = false) : a = b := by
  obtain ⟨a1, a2, a3⟩ := a
  obtain ⟨b1, b2, b3⟩ := b
  unfold rlt at h1 h2
  simp only at h1 h2
  by_cases h : a2 = b2
  · subst h
    rw [if_pos rfl] at h1 h2
    by_cases e : a3.toList = b3.toList
    · rw [if_pos e] at h1
      rw [if_pos e.symm] at h2
      simp only [decide_eq_false_iff_not] at h1 h2
      have := (toList_inj3 _ _).1 e
      subst this
      have : a1 = b1 := by omega
      subst this
      rfl
    · rw [if_neg e] at h1
      rw [if_neg (fun q => e q.symm)] at h2
      exact absurd (bl_eq _ _ h1 h2) e
  · rw [if_neg h] at h1
    rw [if_neg (fun q => h q.symm)] at h2
    simp only [decide_eq_false_iff_not] at h1 h2
    omega
def rowC (l : List Run) : List C := l.flatMap runrC
theorem rowC_len (l : List Run) : (rowC l).length = 3 * l.length := by
  have := flat_len (f := runrC) (sz := 3) (fun _ => rfl) l
  unfold rowC
  omega
theorem rowC_at (l : List Run) (i : Nat) (h : i < l.length) : ((rowC l).drop (i * 3)).take 3 = runrC (at' l i) := flat_take3 (f := runrC) (fun _ => rfl) l i _ (at'_some h)
theorem rowC_set (l : List Run) (i : Nat) (r : Run) (h : i < l.length) : lay (up (rowC l)) (i * 3) (up (runrC r)) = up (rowC (l.set i r)) := by
  have hl := rowC_len l
  have e : rowC (l.set i r) = (rowC l).take (i * 3) ++ (runrC r ++ (rowC l).drop (i * 3 + 3)) := by
    have h1 : ∀ (m : Nat) (q : List Run), (rowC q).take (m * 3) = rowC (q.take m) ∧ (rowC q).drop (m * 3) = rowC (q.drop m) := fun m => by
      induction m with
      | zero => intro q; simp [rowC]
      | succ m ih =>
        intro q
        cases q with
        | nil => simp [rowC]
        | cons x q =>
          obtain ⟨i1, i2⟩ := ih q
          have e0 : rowC (x :: q) = runrC x ++ rowC q := by simp [rowC]
          have e1 : (m + 1) * 3 = (runrC x).length + m * 3 := by show (m + 1) * 3 = 3 + m * 3; omega
          rw [e0, e1]
          constructor
          · rw [List.take_length_add_append, i1, List.take_succ_cons]; simp [rowC]
          · rw [List.drop_length_add_append, i2, List.drop_succ_cons]
    rw [(h1 i l).1, show i * 3 + 3 = (i + 1) * 3 by omega, (h1 (i + 1) l).2, List.set_eq_take_append_cons_drop, if_pos h]
    simp [rowC]
  rw [e, lay_app _ _ _ (by simp [up, hl, runrC]; omega)]
  simp only [up, List.length_map, show (runrC r).length = 3 from rfl, ← List.map_take, ← List.map_drop, ← List.map_append]
theorem up_all (n : Nat) (cs : List C) : (up cs).all (ltB n) = true := by simp [up, ltB]
def rowO (l : List Run) (g : Nat) : Ob := ⟨279, 3, false, g, up (rowC l), none⟩
set_option maxHeartbeats 4000000 in
theorem less_den (b gb : Ob) (l : List Run) (g n i k : Nat) (hi : i < n) (hk : k < n) (hn : n ≤ l.length) :
    Den Tryz.prog 339 [.ms 2 g 0 n, .c (iC i), .c (iC k)] [b, gb, rowO l g] (fun r ob' => r = .c (bC (rlt (at' l i) (at' l k))) ∧ ob' = [b, gb, rowO l g]) := by
  refine Den.dropM rfl ?_
  have a1 := rowC_at l i (by omega)
  have a2 := rowC_at l k (by omega)
  have hl := rowC_len l
  have c1 : i * 3 + 3 ≤ (rowC l).length := by omega
  have c2 : k * 3 + 3 ≤ (rowC l).length := by omega
  unfold rowO
  generalize rowC l = cs at *
  unfold rlt less
  have hrl : ∀ r, (runrC r).length = 3 := fun _ => rfl
  have z0 : zeroT Tryz.prog 279 = some (up (runrC default)) := by kernel_rfl
  generalize at' l i = x at *
  generalize at' l k = y at *
  refine den_of Tryz.func339 rfl rfl (by simp [Tryz.ntmps339]) (fun X hX hO => ?_)
  rw [Tryz.ntmps339] at hX
  simp only [Tryz.results339]
  repeat' (first 
   | (with_reducible first | refine awp_scope ?_ | refine awp_seq ?_ | refine awp_block ?_)
   | ((with_reducible first | refine awp_label ?_ | refine awp_skip ?_ | refine awp_exit ?_); try simp only [thenA, inBlockA, noGotoA, if_true, Nat.reduceEqDiff, if_false, ↓reduceIte])
   | ((with_reducible first | refine awp_reg 44 hX [0, 1, 2, 6, 7, 8, 17, 28] ?_ | refine DEv_cut _ _ _ _ _ _ _ _ _ _ _ _ (by kernel_rfl) ?_ | change postOf _ _ _ _ _); simp [-List.reduceReplicate, Nat.add_one_le_iff, -getElem?_pos, -getElem?_neg])
   | ((first | (with_reducible refine awp_ret ?_; try simp only [thenA, inBlockA, noGotoA])); try simp [-List.reduceReplicate, Nat.add_one_le_iff, -getElem?_pos, -getElem?_neg])
   | (with_reducible refine awp_if_b rfl (fun hc => ?_) (fun hc => ?_) <;> (try simp [-getElem?_pos, -getElem?_neg] at hc) <;> (try (exfalso; omega)))
   | (with_reducible refine And.intro (by omega) ?_)
   | fail)
  refine awp_nilO 279 3 (awp_nilO 279 3 ?_)
  simp only [List.cons_append, List.nil_append]
  refine awp_drawS (id := 1) 44 hX [0, 1, 2, 6, 7, 8, 17, 28] Tab.mixed (by kernel_rfl) [.ms 2 g 0 n, .c (iC i), .mp 2 g (i * 3), .agg (up (runrC x)), .ms 2 g 0 n, .c (iC k), .mp 2 g (k * 3), .agg (up (runrC y)), .mp 3 1 0, .mp 4 1 0, .junk, .junk] (fun p => [b, gb, ⟨279, 3, false, g, up cs, none⟩, if p 10 then ⟨279, 3, false, 1, up (runrC x), none⟩ else if p 8 then ⟨279, 3, false, 1, up (runrC default), none⟩ else ⟨279, 3, true, 0, [], none⟩, if p 11 then ⟨279, 3, false, 1, up (runrC y), none⟩ else if p 9 then ⟨279, 3, false, 1, up (runrC default), none⟩ else ⟨279, 3, true, 0, [], none⟩]) (by simp [iC, hi, hk, a1, a2, c1, c2, hrl]) (fun p q hpq => ?_) ?_ ?_
  · simp only [hpq 8 (by decide), hpq 9 (by decide), hpq 10 (by decide), hpq 11 (by decide)]
  · intro i o p hl hp hcl hno
    match i, hl with
    | 0, hl =>
      obtain rfl := Option.some.inj hl
      have c10 : p 10 = false := by cases h : p 10 with | false => rfl | true => exact absurd (List.contains_iff_mem.1 (by kernel_rfl)) (hno 10 _ rfl h)
      have c11 : p 11 = false := by cases h : p 11 with | false => rfl | true => exact absurd (List.contains_iff_mem.1 (by kernel_rfl)) (hno 11 _ rfl h)
      all_goals rcases Bool.eq_false_or_eq_true (p 8) with c8 | c8
      all_goals rcases Bool.eq_false_or_eq_true (p 9) with c9 | c9
      all_goals refine ⟨_, rfl, ?_⟩
      all_goals simp [StepS, frP, -exists_and_left, hp, c10, c11, c8, c9, iC, hi, hk, a1, a2, c1, c2, hrl]
    | 1, hl =>
      obtain rfl := Option.some.inj hl
      have c10 : p 10 = false := by cases h : p 10 with | false => rfl | true => exact absurd (List.contains_iff_mem.1 (by kernel_rfl)) (hno 10 _ rfl h)
      have c11 : p 11 = false := by cases h : p 11 with | false => rfl | true => exact absurd (List.contains_iff_mem.1 (by kernel_rfl)) (hno 11 _ rfl h)
      all_goals rcases Bool.eq_false_or_eq_true (p 8) with c8 | c8
      all_goals rcases Bool.eq_false_or_eq_true (p 9) with c9 | c9
      all_goals refine ⟨_, rfl, ?_⟩
      all_goals simp [StepS, frP, -exists_and_left, hp, c10, c11, c8, c9, iC, hi, hk, a1, a2, c1, c2, hrl]
    | 2, hl =>
      obtain rfl := Option.some.inj hl
      have c10 : p 10 = false := by cases h : p 10 with | false => rfl | true => exact absurd (List.contains_iff_mem.1 (by kernel_rfl)) (hno 10 _ rfl h)
      have c11 : p 11 = false := by cases h : p 11 with | false => rfl | true => exact absurd (List.contains_iff_mem.1 (by kernel_rfl)) (hno 11 _ rfl h)
      all_goals rcases Bool.eq_false_or_eq_true (p 8) with c8 | c8
      all_goals rcases Bool.eq_false_or_eq_true (p 9) with c9 | c9
      all_goals refine ⟨_, rfl, ?_⟩
      all_goals simp [StepS, frP, -exists_and_left, hp, c10, c11, c8, c9, iC, hi, hk, a1, a2, c1, c2, hrl]
    | 3, hl =>
      obtain rfl := Option.some.inj hl
      have c10 : p 10 = false := by cases h : p 10 with | false => rfl | true => exact absurd (List.contains_iff_mem.1 (by kernel_rfl)) (hno 10 _ rfl h)
      have c11 : p 11 = false := by cases h : p 11 with | false => rfl | true => exact absurd (List.contains_iff_mem.1 (by kernel_rfl)) (hno 11 _ rfl h)
      all_goals rcases Bool.eq_false_or_eq_true (p 8) with c8 | c8
      all_goals rcases Bool.eq_false_or_eq_true (p 9) with c9 | c9
      all_goals refine ⟨_, rfl, ?_⟩
      all_goals simp [StepS, frP, -exists_and_left, hp, c10, c11, c8, c9, iC, hi, hk, a1, a2, c1, c2, hrl]
    | 4, hl =>
      obtain rfl := Option.some.inj hl
      have c11 : p 11 = false := by cases h : p 11 with | false => rfl | true => exact absurd (List.contains_iff_mem.1 (by kernel_rfl)) (hno 11 _ rfl h)
      all_goals rcases Bool.eq_false_or_eq_true (p 8) with c8 | c8
      all_goals rcases Bool.eq_false_or_eq_true (p 9) with c9 | c9
      all_goals rcases Bool.eq_false_or_eq_true (p 10) with c10 | c10
      all_goals refine ⟨_, rfl, ?_⟩
      all_goals simp [StepS, frP, -exists_and_left, hp, c11, c8, c9, c10, iC, hi, hk, a1, a2, c1, c2, hrl]
    | 5, hl =>
      obtain rfl := Option.some.inj hl
      have c11 : p 11 = false := by cases h : p 11 with | false => rfl | true => exact absurd (List.contains_iff_mem.1 (by kernel_rfl)) (hno 11 _ rfl h)
      all_goals rcases Bool.eq_false_or_eq_true (p 8) with c8 | c8
      all_goals rcases Bool.eq_false_or_eq_true (p 9) with c9 | c9
      all_goals rcases Bool.eq_false_or_eq_true (p 10) with c10 | c10
      all_goals refine ⟨_, rfl, ?_⟩
      all_goals simp [StepS, frP, -exists_and_left, hp, c11, c8, c9, c10, iC, hi, hk, a1, a2, c1, c2, hrl]
    | 6, hl =>
      obtain rfl := Option.some.inj hl
      have c11 : p 11 = false := by cases h : p 11 with | false => rfl | true => exact absurd (List.contains_iff_mem.1 (by kernel_rfl)) (hno 11 _ rfl h)
      all_goals rcases Bool.eq_false_or_eq_true (p 8) with c8 | c8
      all_goals rcases Bool.eq_false_or_eq_true (p 9) with c9 | c9
      all_goals rcases Bool.eq_false_or_eq_true (p 10) with c10 | c10
      all_goals refine ⟨_, rfl, ?_⟩
      all_goals simp [StepS, frP, -exists_and_left, hp, c11, c8, c9, c10, iC, hi, hk, a1, a2, c1, c2, hrl]
    | 7, hl =>
      obtain rfl := Option.some.inj hl
      have c11 : p 11 = false := by cases h : p 11 with | false => rfl | true => exact absurd (List.contains_iff_mem.1 (by kernel_rfl)) (hno 11 _ rfl h)
      all_goals rcases Bool.eq_false_or_eq_true (p 8) with c8 | c8
      all_goals rcases Bool.eq_false_or_eq_true (p 9) with c9 | c9
      all_goals rcases Bool.eq_false_or_eq_true (p 10) with c10 | c10
      all_goals refine ⟨_, rfl, ?_⟩
      all_goals simp [StepS, frP, -exists_and_left, hp, c11, c8, c9, c10, iC, hi, hk, a1, a2, c1, c2, hrl]
    | 8, hl =>
      obtain rfl := Option.some.inj hl
      have c10 : p 10 = false := by cases h : p 10 with | false => rfl | true => exact absurd (List.contains_iff_mem.1 (by kernel_rfl)) (hno 10 _ rfl h)
      have c11 : p 11 = false := by cases h : p 11 with | false => rfl | true => exact absurd (List.contains_iff_mem.1 (by kernel_rfl)) (hno 11 _ rfl h)
      all_goals rcases Bool.eq_false_or_eq_true (p 9) with c9 | c9
      all_goals refine ⟨_, rfl, ?_⟩
      all_goals refine ⟨by simp [dstOK], .inr ⟨by simp [guardV], .inr ⟨by simp [callOf], .inr ⟨_, _, _, rfl, by first | assumption | (simp; done), by simp [hp, c10, c11, c9, iC, hi, hk, a1, a2, c1, c2, hrl], rfl, by simp [hp, c10, c11, c9, iC, hi, hk, a1, a2, c1, c2, hrl]⟩⟩⟩⟩
    | 9, hl =>
      obtain rfl := Option.some.inj hl
      have c10 : p 10 = false := by cases h : p 10 with | false => rfl | true => exact absurd (List.contains_iff_mem.1 (by kernel_rfl)) (hno 10 _ rfl h)
      have c11 : p 11 = false := by cases h : p 11 with | false => rfl | true => exact absurd (List.contains_iff_mem.1 (by kernel_rfl)) (hno 11 _ rfl h)
      all_goals rcases Bool.eq_false_or_eq_true (p 8) with c8 | c8
      all_goals refine ⟨_, rfl, ?_⟩
      all_goals refine ⟨by simp [dstOK], .inr ⟨by simp [guardV], .inr ⟨by simp [callOf], .inr ⟨_, _, _, rfl, by first | assumption | (simp; done), by simp [hp, c10, c11, c8, iC, hi, hk, a1, a2, c1, c2, hrl], rfl, by simp [hp, c10, c11, c8, iC, hi, hk, a1, a2, c1, c2, hrl]⟩⟩⟩⟩
    | 10, hl =>
      obtain rfl := Option.some.inj hl
      have c8 : p 8 = true := hcl 8 (List.contains_iff_mem.1 (by kernel_rfl))
      have c9 : p 9 = true := hcl 9 (List.contains_iff_mem.1 (by kernel_rfl))
      have c11 : p 11 = false := by cases h : p 11 with | false => rfl | true => exact absurd (List.contains_iff_mem.1 (by kernel_rfl)) (hno 11 _ rfl h)
      all_goals refine ⟨_, rfl, ?_⟩
      all_goals simp [StepS, frP, -exists_and_left, hp, c8, c9, c11, iC, hi, hk, a1, a2, c1, c2, hrl]
    | 11, hl =>
      obtain rfl := Option.some.inj hl
      have c8 : p 8 = true := hcl 8 (List.contains_iff_mem.1 (by kernel_rfl))
      have c9 : p 9 = true := hcl 9 (List.contains_iff_mem.1 (by kernel_rfl))
      have c10 : p 10 = true := hcl 10 (List.contains_iff_mem.1 (by kernel_rfl))
      all_goals refine ⟨_, rfl, ?_⟩
      all_goals simp [StepS, frP, -exists_and_left, hp, c8, c9, c10, iC, hi, hk, a1, a2, c1, c2, hrl]
    | n + 12, hl => simp at hl
  simp [frP, iC, hi, hk, a1, a2, c1, c2, hrl]
  by_cases d1 : x.wins = y.wins
  · by_cases d2 : x.key.toList = y.key.toList
    · repeat' (first 
       | (with_reducible first | refine awp_scope ?_ | refine awp_seq ?_ | refine awp_block ?_)
       | ((with_reducible first | refine awp_label ?_ | refine awp_skip ?_ | refine awp_exit ?_); try simp only [thenA, inBlockA, noGotoA, if_true, Nat.reduceEqDiff, if_false, ↓reduceIte])
       | ((with_reducible first | refine awp_reg 44 hX [0, 1, 2, 6, 7, 8, 17, 28] ?_ | refine DEv_cut _ _ _ _ _ _ _ _ _ _ _ _ (by kernel_rfl) ?_ | change postOf _ _ _ _ _); simp [-List.reduceReplicate, Nat.add_one_le_iff, -getElem?_pos, -getElem?_neg, iC, bC, sC, runrC, d1, d2])
       | ((first | (with_reducible refine awp_ret ?_; try simp only [thenA, inBlockA, noGotoA])); try simp [-List.reduceReplicate, Nat.add_one_le_iff, -getElem?_pos, -getElem?_neg, iC, bC, sC, runrC, d1, d2])
       | (with_reducible refine awp_if_b rfl (fun hc => ?_) (fun hc => ?_) <;> (try simp [-getElem?_pos, -getElem?_neg] at hc) <;> (try (exfalso; omega)))
       | (with_reducible refine And.intro (by omega) ?_)
       | fail)
    · repeat' (first 
       | (with_reducible first | refine awp_scope ?_ | refine awp_seq ?_ | refine awp_block ?_)
       | ((with_reducible first | refine awp_label ?_ | refine awp_skip ?_ | refine awp_exit ?_); try simp only [thenA, inBlockA, noGotoA, if_true, Nat.reduceEqDiff, if_false, ↓reduceIte])
       | ((with_reducible first | refine awp_reg 44 hX [0, 1, 2, 6, 7, 8, 17, 28] ?_ | refine DEv_cut _ _ _ _ _ _ _ _ _ _ _ _ (by kernel_rfl) ?_ | change postOf _ _ _ _ _); simp [-List.reduceReplicate, Nat.add_one_le_iff, -getElem?_pos, -getElem?_neg, iC, bC, sC, runrC, d1, d2])
       | ((first | (with_reducible refine awp_ret ?_; try simp only [thenA, inBlockA, noGotoA])); try simp [-List.reduceReplicate, Nat.add_one_le_iff, -getElem?_pos, -getElem?_neg, iC, bC, sC, runrC, d1, d2])
       | (with_reducible refine awp_if_b rfl (fun hc => ?_) (fun hc => ?_) <;> (try simp [-getElem?_pos, -getElem?_neg] at hc) <;> (try (exfalso; omega)))
       | (with_reducible refine And.intro (by omega) ?_)
       | fail)
  · repeat' (first 
     | (with_reducible first | refine awp_scope ?_ | refine awp_seq ?_ | refine awp_block ?_)
     | ((with_reducible first | refine awp_label ?_ | refine awp_skip ?_ | refine awp_exit ?_); try simp only [thenA, inBlockA, noGotoA, if_true, Nat.reduceEqDiff, if_false, ↓reduceIte])
     | ((with_reducible first | refine awp_reg 44 hX [0, 1, 2, 6, 7, 8, 17, 28] ?_ | refine DEv_cut _ _ _ _ _ _ _ _ _ _ _ _ (by kernel_rfl) ?_ | change postOf _ _ _ _ _); simp [-List.reduceReplicate, Nat.add_one_le_iff, -getElem?_pos, -getElem?_neg, iC, bC, sC, runrC, d1])
     | ((first | (with_reducible refine awp_ret ?_; try simp only [thenA, inBlockA, noGotoA])); try simp [-List.reduceReplicate, Nat.add_one_le_iff, -getElem?_pos, -getElem?_neg, iC, bC, sC, runrC, d1])
     | (with_reducible refine awp_if_b rfl (fun hc => ?_) (fun hc => ?_) <;> (try simp [-getElem?_pos, -getElem?_neg] at hc) <;> (try (exfalso; omega)))
     | (with_reducible refine And.intro (by omega) ?_)
     | fail)
set_option maxHeartbeats 4000000 in
theorem swap_den (b gb : Ob) (l : List Run) (g n i k : Nat) (hi : i < n) (hk : k < n) (hn : n ≤ l.length) :
    Den Tryz.prog 342 [.ms 2 g 0 n, .c (iC i), .c (iC k)] [b, gb, rowO l g] (fun r ob' => r = .tup [] ∧ ob' = [b, gb, rowO (swp l i k) g]) := by
  have a1 := rowC_at l i (by omega)
  have a2 := rowC_at l k (by omega)
  have hl := rowC_len l
  have hl1 := rowC_len (l.set i (at' l k))
  rw [List.length_set] at hl1
  have s1 := rowC_set l i (at' l k) (by omega)
  have s2 := rowC_set (l.set i (at' l k)) k (at' l i) (by simp; omega)
  have c1 : i * 3 + 3 ≤ (rowC l).length := by omega
  have c2 : k * 3 + 3 ≤ (rowC l).length := by omega
  have c3 : k * 3 + 3 ≤ (rowC (l.set i (at' l k))).length := by omega
  have hrl : ∀ r, (runrC r).length = 3 := fun _ => rfl
  unfold rowO swp
  generalize rowC ((l.set i (at' l k)).set k (at' l i)) = cs2 at *
  generalize rowC (l.set i (at' l k)) = cs1 at *
  generalize rowC l = cs at *
  generalize at' l i = x at *
  generalize at' l k = y at *
  refine den_of Tryz.func342 rfl rfl (by simp [Tryz.ntmps342]) (fun X hX hO => ?_)
  rw [Tryz.ntmps342] at hX
  simp only [Tryz.results342]
  refine awp_drawS (id := 0) 20 hX [] Tab.mixed (by kernel_rfl) [.ms 2 g 0 n, .c (iC i), .ms 2 g 0 n, .c (iC k), .ms 2 g 0 n, .c (iC k), .mp 2 g (k * 3), .agg (up (runrC y)), .ms 2 g 0 n, .c (iC i), .mp 2 g (i * 3), .agg (up (runrC x)), .mp 2 g (i * 3), .junk, .mp 2 g (k * 3), .junk] (fun p => [b, gb, ⟨279, 3, false, g, up (if p 15 then cs2 else if p 13 then cs1 else cs), none⟩]) (by simp [iC, hi, hk, a1, a2, c1, c2, c3, s1, s2, hrl]) (fun p q hpq => ?_) ?_ ?_
  · simp only [hpq 13 (by decide), hpq 15 (by decide)]
  · intro i o p hl hp hcl hno
    match i, hl with
    | 0, hl =>
      obtain rfl := Option.some.inj hl
      have c13 : p 13 = false := by cases h : p 13 with | false => rfl | true => exact absurd (List.contains_iff_mem.1 (by kernel_rfl)) (hno 13 _ rfl h)
      have c15 : p 15 = false := by cases h : p 15 with | false => rfl | true => exact absurd (List.contains_iff_mem.1 (by kernel_rfl)) (hno 15 _ rfl h)
      all_goals refine ⟨_, rfl, ?_⟩
      all_goals simp [StepS, frP, -exists_and_left, hp, c13, c15, iC, hi, hk, a1, a2, c1, c2, c3, s1, s2, hrl]
    | 1, hl =>
      obtain rfl := Option.some.inj hl
      have c13 : p 13 = false := by cases h : p 13 with | false => rfl | true => exact absurd (List.contains_iff_mem.1 (by kernel_rfl)) (hno 13 _ rfl h)
      have c15 : p 15 = false := by cases h : p 15 with | false => rfl | true => exact absurd (List.contains_iff_mem.1 (by kernel_rfl)) (hno 15 _ rfl h)
      all_goals refine ⟨_, rfl, ?_⟩
      all_goals simp [StepS, frP, -exists_and_left, hp, c13, c15, iC, hi, hk, a1, a2, c1, c2, c3, s1, s2, hrl]
    | 2, hl =>
      obtain rfl := Option.some.inj hl
      have c15 : p 15 = false := by cases h : p 15 with | false => rfl | true => exact absurd (List.contains_iff_mem.1 (by kernel_rfl)) (hno 15 _ rfl h)
      all_goals rcases Bool.eq_false_or_eq_true (p 13) with c13 | c13
      all_goals refine ⟨_, rfl, ?_⟩
      all_goals simp [StepS, frP, -exists_and_left, hp, c15, c13, iC, hi, hk, a1, a2, c1, c2, c3, s1, s2, hrl]
    | 3, hl =>
      obtain rfl := Option.some.inj hl
      have c15 : p 15 = false := by cases h : p 15 with | false => rfl | true => exact absurd (List.contains_iff_mem.1 (by kernel_rfl)) (hno 15 _ rfl h)
      all_goals rcases Bool.eq_false_or_eq_true (p 13) with c13 | c13
      all_goals refine ⟨_, rfl, ?_⟩
      all_goals simp [StepS, frP, -exists_and_left, hp, c15, c13, iC, hi, hk, a1, a2, c1, c2, c3, s1, s2, hrl]
    | 4, hl =>
      obtain rfl := Option.some.inj hl
      have c13 : p 13 = false := by cases h : p 13 with | false => rfl | true => exact absurd (List.contains_iff_mem.1 (by kernel_rfl)) (hno 13 _ rfl h)
      have c15 : p 15 = false := by cases h : p 15 with | false => rfl | true => exact absurd (List.contains_iff_mem.1 (by kernel_rfl)) (hno 15 _ rfl h)
      all_goals refine ⟨_, rfl, ?_⟩
      all_goals simp [StepS, frP, -exists_and_left, hp, c13, c15, iC, hi, hk, a1, a2, c1, c2, c3, s1, s2, hrl]
    | 5, hl =>
      obtain rfl := Option.some.inj hl
      have c13 : p 13 = false := by cases h : p 13 with | false => rfl | true => exact absurd (List.contains_iff_mem.1 (by kernel_rfl)) (hno 13 _ rfl h)
      have c15 : p 15 = false := by cases h : p 15 with | false => rfl | true => exact absurd (List.contains_iff_mem.1 (by kernel_rfl)) (hno 15 _ rfl h)
      all_goals refine ⟨_, rfl, ?_⟩
      all_goals simp [StepS, frP, -exists_and_left, hp, c13, c15, iC, hi, hk, a1, a2, c1, c2, c3, s1, s2, hrl]
    | 6, hl =>
      obtain rfl := Option.some.inj hl
      have c13 : p 13 = false := by cases h : p 13 with | false => rfl | true => exact absurd (List.contains_iff_mem.1 (by kernel_rfl)) (hno 13 _ rfl h)
      have c15 : p 15 = false := by cases h : p 15 with | false => rfl | true => exact absurd (List.contains_iff_mem.1 (by kernel_rfl)) (hno 15 _ rfl h)
      all_goals refine ⟨_, rfl, ?_⟩
      all_goals simp [StepS, frP, -exists_and_left, hp, c13, c15, iC, hi, hk, a1, a2, c1, c2, c3, s1, s2, hrl]
    | 7, hl =>
      obtain rfl := Option.some.inj hl
      have c13 : p 13 = false := by cases h : p 13 with | false => rfl | true => exact absurd (List.contains_iff_mem.1 (by kernel_rfl)) (hno 13 _ rfl h)
      have c15 : p 15 = false := by cases h : p 15 with | false => rfl | true => exact absurd (List.contains_iff_mem.1 (by kernel_rfl)) (hno 15 _ rfl h)
      all_goals refine ⟨_, rfl, ?_⟩
      all_goals simp [StepS, frP, -exists_and_left, hp, c13, c15, iC, hi, hk, a1, a2, c1, c2, c3, s1, s2, hrl]
    | 8, hl =>
      obtain rfl := Option.some.inj hl
      have c13 : p 13 = false := by cases h : p 13 with | false => rfl | true => exact absurd (List.contains_iff_mem.1 (by kernel_rfl)) (hno 13 _ rfl h)
      have c15 : p 15 = false := by cases h : p 15 with | false => rfl | true => exact absurd (List.contains_iff_mem.1 (by kernel_rfl)) (hno 15 _ rfl h)
      all_goals refine ⟨_, rfl, ?_⟩
      all_goals simp [StepS, frP, -exists_and_left, hp, c13, c15, iC, hi, hk, a1, a2, c1, c2, c3, s1, s2, hrl]
    | 9, hl =>
      obtain rfl := Option.some.inj hl
      have c13 : p 13 = false := by cases h : p 13 with | false => rfl | true => exact absurd (List.contains_iff_mem.1 (by kernel_rfl)) (hno 13 _ rfl h)
      have c15 : p 15 = false := by cases h : p 15 with | false => rfl | true => exact absurd (List.contains_iff_mem.1 (by kernel_rfl)) (hno 15 _ rfl h)
      all_goals refine ⟨_, rfl, ?_⟩
      all_goals simp [StepS, frP, -exists_and_left, hp, c13, c15, iC, hi, hk, a1, a2, c1, c2, c3, s1, s2, hrl]
    | 10, hl =>
      obtain rfl := Option.some.inj hl
      have c13 : p 13 = false := by cases h : p 13 with | false => rfl | true => exact absurd (List.contains_iff_mem.1 (by kernel_rfl)) (hno 13 _ rfl h)
      have c15 : p 15 = false := by cases h : p 15 with | false => rfl | true => exact absurd (List.contains_iff_mem.1 (by kernel_rfl)) (hno 15 _ rfl h)
      all_goals refine ⟨_, rfl, ?_⟩
      all_goals simp [StepS, frP, -exists_and_left, hp, c13, c15, iC, hi, hk, a1, a2, c1, c2, c3, s1, s2, hrl]
    | 11, hl =>
      obtain rfl := Option.some.inj hl
      have c13 : p 13 = false := by cases h : p 13 with | false => rfl | true => exact absurd (List.contains_iff_mem.1 (by kernel_rfl)) (hno 13 _ rfl h)
      have c15 : p 15 = false := by cases h : p 15 with | false => rfl | true => exact absurd (List.contains_iff_mem.1 (by kernel_rfl)) (hno 15 _ rfl h)
      all_goals refine ⟨_, rfl, ?_⟩
      all_goals simp [StepS, frP, -exists_and_left, hp, c13, c15, iC, hi, hk, a1, a2, c1, c2, c3, s1, s2, hrl]
    | 12, hl =>
      obtain rfl := Option.some.inj hl
      have c13 : p 13 = false := by cases h : p 13 with | false => rfl | true => exact absurd (List.contains_iff_mem.1 (by kernel_rfl)) (hno 13 _ rfl h)
      have c15 : p 15 = false := by cases h : p 15 with | false => rfl | true => exact absurd (List.contains_iff_mem.1 (by kernel_rfl)) (hno 15 _ rfl h)
      all_goals refine ⟨_, rfl, ?_⟩
      all_goals simp [StepS, frP, -exists_and_left, hp, c13, c15, iC, hi, hk, a1, a2, c1, c2, c3, s1, s2, hrl]
    | 13, hl =>
      obtain rfl := Option.some.inj hl
      have c15 : p 15 = false := by cases h : p 15 with | false => rfl | true => exact absurd (List.contains_iff_mem.1 (by kernel_rfl)) (hno 15 _ rfl h)
      all_goals refine ⟨_, rfl, ?_⟩
      all_goals simp [StepS, frP, -exists_and_left, hp, c15, iC, hi, hk, a1, a2, c1, c2, c3, s1, s2, hrl]
    | 14, hl =>
      obtain rfl := Option.some.inj hl
      have c13 : p 13 = true := hcl 13 (List.contains_iff_mem.1 (by kernel_rfl))
      have c15 : p 15 = false := by cases h : p 15 with | false => rfl | true => exact absurd (List.contains_iff_mem.1 (by kernel_rfl)) (hno 15 _ rfl h)
      all_goals refine ⟨_, rfl, ?_⟩
      all_goals simp [StepS, frP, -exists_and_left, hp, c13, c15, iC, hi, hk, a1, a2, c1, c2, c3, s1, s2, hrl]
    | 15, hl =>
      obtain rfl := Option.some.inj hl
      have c13 : p 13 = true := hcl 13 (List.contains_iff_mem.1 (by kernel_rfl))
      all_goals refine ⟨_, rfl, ?_⟩
      all_goals simp [StepS, frP, -exists_and_left, hp, c13, iC, hi, hk, a1, a2, c1, c2, c3, s1, s2, hrl]
    | n + 16, hl => simp at hl
  simp [frP, iC, hi, hk, a1, a2, c1, c2, c3, s1, s2, hrl]
  repeat' (first 
   | (with_reducible first | refine awp_scope ?_ | refine awp_seq ?_ | refine awp_block ?_)
   | ((with_reducible first | refine awp_label ?_ | refine awp_skip ?_ | refine awp_exit ?_); try simp only [thenA, inBlockA, noGotoA, if_true, Nat.reduceEqDiff, if_false, ↓reduceIte])
   | ((with_reducible first | refine awp_reg 20 hX [] ?_ | refine DEv_cut _ _ _ _ _ _ _ _ _ _ _ _ (by kernel_rfl) ?_ | change postOf _ _ _ _ _); simp [-List.reduceReplicate, Nat.add_one_le_iff, -getElem?_pos, -getElem?_neg])
   | ((first | (with_reducible refine awp_ret ?_; try simp only [thenA, inBlockA, noGotoA])); try simp [-List.reduceReplicate, Nat.add_one_le_iff, -getElem?_pos, -getElem?_neg])
   | (with_reducible refine awp_if_b rfl (fun hc => ?_) (fun hc => ?_) <;> (try simp [-getElem?_pos, -getElem?_neg] at hc) <;> (try (exfalso; omega)))
   | (with_reducible refine And.intro (by omega) ?_)
   | fail)
def boxO (n g : Nat) : Ob := ⟨276, 1, false, 0, [.ms 2 g 0 n], none⟩
def boxP (n g : Nat) : Ob := ⟨276, 1, false, 0, [if n = 0 then .c (.sl [] 0 false) else .ms 2 g 0 n], none⟩
def boxE : Ob := ⟨276, 1, false, 0, [.c (.sl [] 0 true)], none⟩
def garO (r : Run) : Ob := ⟨279, 3, false, 0, up (runrC r), none⟩
set_option maxHeartbeats 4000000 in
theorem push0_den (x : Run) : Den Tryz.prog 341 [.mp 0 0 0, .c (.ifc 279 true (runrC x))] [boxE] (fun r ob' => r = .tup [] ∧ ob' = [boxO 1 0, garO x, rowO [x] 0]) := by
  have hrl : ∀ r, (runrC r).length = 3 := fun _ => rfl
  have hrt : ∀ r, (runrC r).take 3 = runrC r := fun _ => rfl
  have hrx : rowC [x] = runrC x := by simp [rowC]
  have ho : rowO [x] 0 = ⟨279, 3, false, 0, up (runrC x), none⟩ := by unfold rowO; rw [hrx]
  unfold boxE boxO garO
  rw [ho]
  refine den_of Tryz.func341 rfl rfl (by simp [Tryz.ntmps341]) (fun X hX hO => ?_)
  rw [Tryz.ntmps341] at hX
  simp only [Tryz.results341]
  repeat' (first 
   | (with_reducible first | refine awp_scope ?_ | refine awp_seq ?_ | refine awp_block ?_)
   | ((with_reducible first | refine awp_label ?_ | refine awp_skip ?_ | refine awp_exit ?_); try simp only [thenA, inBlockA, noGotoA, if_true, Nat.reduceEqDiff, if_false, ↓reduceIte])
   | ((with_reducible first | refine awp_reg 20 hX [0, 4, 5, 11] ?_ | refine DEv_cut _ _ _ _ _ _ _ _ _ _ _ _ (by kernel_rfl) ?_ | change postOf _ _ _ _ _); simp [-List.reduceReplicate, Nat.add_one_le_iff, -getElem?_pos, -getElem?_neg, hrl])
   | ((first | (with_reducible refine awp_ret ?_; try simp only [thenA, inBlockA, noGotoA])); try simp [-List.reduceReplicate, Nat.add_one_le_iff, -getElem?_pos, -getElem?_neg, hrl])
   | (with_reducible refine awp_if_b rfl (fun hc => ?_) (fun hc => ?_) <;> (try simp [-getElem?_pos, -getElem?_neg] at hc) <;> (try (exfalso; omega)))
   | (with_reducible refine And.intro (by omega) ?_)
   | fail)
  refine awp_drawS (id := 2) 20 hX [0, 4, 5, 11] Tab.mixed (by kernel_rfl) [.mp 0 0 0, .mp 0 0 0, .mp 0 0 0, .c (.sl [] 0 true), .agg (up (runrC x)), .c (.sl (runrC x) 1 true), .ms 2 0 0 1, .mp 0 0 0, .junk] (fun p => [⟨276, 1, false, 0, if p 8 then [.ms 2 0 0 1] else [.c (.sl [] 0 true)], none⟩, ⟨279, 3, false, 0, up (runrC x), none⟩] ++ (if p 6 then [⟨279, 3, false, 0, up (runrC x), none⟩] else [])) (by simp [hrl, hrt, roomB]) (fun p q hpq => ?_) ?_ ?_
  · simp only [hpq 6 (by decide), hpq 8 (by decide)]
  · intro i o p hl hp hcl hno
    match i, hl with
    | 0, hl =>
      obtain rfl := Option.some.inj hl
      have c8 : p 8 = false := by cases h : p 8 with | false => rfl | true => exact absurd (List.contains_iff_mem.1 (by kernel_rfl)) (hno 8 _ rfl h)
      all_goals rcases Bool.eq_false_or_eq_true (p 6) with c6 | c6
      all_goals refine ⟨_, rfl, ?_⟩
      all_goals simp [StepS, frP, -exists_and_left, hp, c8, c6, hrl, hrt, roomB]
    | 1, hl =>
      obtain rfl := Option.some.inj hl
      have c6 : p 6 = false := by cases h : p 6 with | false => rfl | true => exact absurd (List.contains_iff_mem.1 (by kernel_rfl)) (hno 6 _ rfl h)
      have c8 : p 8 = false := by cases h : p 8 with | false => rfl | true => exact absurd (List.contains_iff_mem.1 (by kernel_rfl)) (hno 8 _ rfl h)
      all_goals refine ⟨_, rfl, ?_⟩
      all_goals simp [StepS, frP, -exists_and_left, hp, c6, c8, hrl, hrt, roomB]
    | 2, hl =>
      obtain rfl := Option.some.inj hl
      have c6 : p 6 = false := by cases h : p 6 with | false => rfl | true => exact absurd (List.contains_iff_mem.1 (by kernel_rfl)) (hno 6 _ rfl h)
      have c8 : p 8 = false := by cases h : p 8 with | false => rfl | true => exact absurd (List.contains_iff_mem.1 (by kernel_rfl)) (hno 8 _ rfl h)
      all_goals refine ⟨_, rfl, ?_⟩
      all_goals simp [StepS, frP, -exists_and_left, hp, c6, c8, hrl, hrt, roomB]
    | 3, hl =>
      obtain rfl := Option.some.inj hl
      have c6 : p 6 = false := by cases h : p 6 with | false => rfl | true => exact absurd (List.contains_iff_mem.1 (by kernel_rfl)) (hno 6 _ rfl h)
      have c8 : p 8 = false := by cases h : p 8 with | false => rfl | true => exact absurd (List.contains_iff_mem.1 (by kernel_rfl)) (hno 8 _ rfl h)
      all_goals refine ⟨_, rfl, ?_⟩
      all_goals simp [StepS, frP, -exists_and_left, hp, c6, c8, hrl, hrt, roomB]
    | 4, hl =>
      obtain rfl := Option.some.inj hl
      have c6 : p 6 = false := by cases h : p 6 with | false => rfl | true => exact absurd (List.contains_iff_mem.1 (by kernel_rfl)) (hno 6 _ rfl h)
      have c8 : p 8 = false := by cases h : p 8 with | false => rfl | true => exact absurd (List.contains_iff_mem.1 (by kernel_rfl)) (hno 8 _ rfl h)
      all_goals refine ⟨_, rfl, ?_⟩
      all_goals simp [StepS, frP, -exists_and_left, hp, c6, c8, hrl, hrt, roomB]
    | 5, hl =>
      obtain rfl := Option.some.inj hl
      have c6 : p 6 = false := by cases h : p 6 with | false => rfl | true => exact absurd (List.contains_iff_mem.1 (by kernel_rfl)) (hno 6 _ rfl h)
      have c8 : p 8 = false := by cases h : p 8 with | false => rfl | true => exact absurd (List.contains_iff_mem.1 (by kernel_rfl)) (hno 8 _ rfl h)
      all_goals refine ⟨_, rfl, ?_⟩
      all_goals simp [StepS, frP, -exists_and_left, hp, c6, c8, hrl, hrt, roomB]
    | 6, hl =>
      obtain rfl := Option.some.inj hl
      have c8 : p 8 = false := by cases h : p 8 with | false => rfl | true => exact absurd (List.contains_iff_mem.1 (by kernel_rfl)) (hno 8 _ rfl h)
      all_goals refine ⟨_, rfl, ?_⟩
      all_goals simp [StepS, frP, -exists_and_left, hp, c8, hrl, hrt, roomB]
    | 7, hl =>
      obtain rfl := Option.some.inj hl
      have c6 : p 6 = true := hcl 6 (List.contains_iff_mem.1 (by kernel_rfl))
      have c8 : p 8 = false := by cases h : p 8 with | false => rfl | true => exact absurd (List.contains_iff_mem.1 (by kernel_rfl)) (hno 8 _ rfl h)
      all_goals refine ⟨_, rfl, ?_⟩
      all_goals simp [StepS, frP, -exists_and_left, hp, c6, c8, hrl, hrt, roomB]
    | 8, hl =>
      obtain rfl := Option.some.inj hl
      have c6 : p 6 = true := hcl 6 (List.contains_iff_mem.1 (by kernel_rfl))
      all_goals refine ⟨_, rfl, ?_⟩
      all_goals simp [StepS, frP, -exists_and_left, hp, c6, hrl, hrt, roomB]
    | n + 9, hl => simp at hl
  simp [frP, hrl, hrt, roomB]
  repeat' (first 
   | (with_reducible first | refine awp_scope ?_ | refine awp_seq ?_ | refine awp_block ?_)
   | ((with_reducible first | refine awp_label ?_ | refine awp_skip ?_ | refine awp_exit ?_); try simp only [thenA, inBlockA, noGotoA, if_true, Nat.reduceEqDiff, if_false, ↓reduceIte])
   | ((with_reducible first | refine awp_reg 20 hX [0, 4, 5, 11] ?_ | refine DEv_cut _ _ _ _ _ _ _ _ _ _ _ _ (by kernel_rfl) ?_ | change postOf _ _ _ _ _); simp [-List.reduceReplicate, Nat.add_one_le_iff, -getElem?_pos, -getElem?_neg, hrl])
   | ((first | (with_reducible refine awp_ret ?_; try simp only [thenA, inBlockA, noGotoA])); try simp [-List.reduceReplicate, Nat.add_one_le_iff, -getElem?_pos, -getElem?_neg, hrl])
   | (with_reducible refine awp_if_b rfl (fun hc => ?_) (fun hc => ?_) <;> (try simp [-getElem?_pos, -getElem?_neg] at hc) <;> (try (exfalso; omega)))
   | (with_reducible refine And.intro (by omega) ?_)
   | fail)
set_option maxHeartbeats 4000000 in
theorem push_den (gb : Ob) (hgb : gb.cs.all (ltB 3) = true) (l : List Run) (g : Nat) (x : Run) (hl0 : l.length ≤ 1000000) : Den Tryz.prog 341 [.mp 0 0 0, .c (.ifc 279 true (runrC x))] [boxO l.length g, gb, rowO l g] (fun r ob' => r = .tup [] ∧ ob' = [boxO (l.length + 1) (g + 1), gb, rowO (l ++ [x]) (g + 1)]) := by
  refine Den.forget (by simp) rfl ?_ ?_
  · simp only [List.length_cons, List.length_nil, List.all_cons, List.all_nil, Bool.and_true, Bool.and_eq_true]
    exact ⟨rfl, hgb, up_all _ _⟩
  have hrl : ∀ r, (runrC r).length = 3 := fun _ => rfl
  have hrt : ∀ r, (runrC r).take 3 = runrC r := fun _ => rfl
  have hcl := rowC_len l
  have hrx : rowC (l ++ [x]) = rowC l ++ runrC x := by simp [rowC]
  have h3 : l.length * 3 = (rowC l).length := by omega
  have hroom : (l.length + 1) * 32 ≤ 140737488355328 := by omega
  have ht : (rowC l).take (rowC l).length = rowC l := List.take_length
  unfold boxO rowO
  rw [hrx]
  generalize rowC l = cs at *
  refine den_of Tryz.func341 rfl rfl (by simp [Tryz.ntmps341]) (fun X hX hO => ?_)
  rw [Tryz.ntmps341] at hX
  simp only [Tryz.results341]
  repeat' (first 
   | (with_reducible first | refine awp_scope ?_ | refine awp_seq ?_ | refine awp_block ?_)
   | ((with_reducible first | refine awp_label ?_ | refine awp_skip ?_ | refine awp_exit ?_); try simp only [thenA, inBlockA, noGotoA, if_true, Nat.reduceEqDiff, if_false, ↓reduceIte])
   | ((with_reducible first | refine awp_reg 20 hX [0, 4, 5, 11] ?_ | refine DEv_cut _ _ _ _ _ _ _ _ _ _ _ _ (by kernel_rfl) ?_ | change postOf _ _ _ _ _); simp [-List.reduceReplicate, Nat.add_one_le_iff, -getElem?_pos, -getElem?_neg, hrl])
   | ((first | (with_reducible refine awp_ret ?_; try simp only [thenA, inBlockA, noGotoA])); try simp [-List.reduceReplicate, Nat.add_one_le_iff, -getElem?_pos, -getElem?_neg, hrl])
   | (with_reducible refine awp_if_b rfl (fun hc => ?_) (fun hc => ?_) <;> (try simp [-getElem?_pos, -getElem?_neg] at hc) <;> (try (exfalso; omega)))
   | (with_reducible refine And.intro (by omega) ?_)
   | fail)
  refine awp_drawS (id := 2) 20 hX [0, 4, 5, 11] Tab.mixed (by kernel_rfl) [.mp 0 0 0, .mp 0 0 0, .mp 0 0 0, .ms 2 g 0 l.length, .agg (up (runrC x)), .c (.sl (runrC x) 1 true), .ms 2 (g + 1) 0 (l.length + 1), .mp 0 0 0, .junk] (fun p => [⟨276, 1, false, 0, if p 8 then [.ms 2 (g + 1) 0 (l.length + 1)] else [.ms 2 g 0 l.length], none⟩, gb, if p 6 then ⟨279, 3, false, g + 1, up (cs ++ runrC x), none⟩ else ⟨279, 3, false, g, up cs, none⟩, ⟨279, 3, false, 0, up (runrC x), none⟩]) (by simp [hrl, hrt, roomB, h3, ht, hroom]) (fun p q hpq => ?_) ?_ ?_
  · simp only [hpq 6 (by decide), hpq 8 (by decide)]
  · intro i o p hl hp hcl hno
    match i, hl with
    | 0, hl =>
      obtain rfl := Option.some.inj hl
      have c8 : p 8 = false := by cases h : p 8 with | false => rfl | true => exact absurd (List.contains_iff_mem.1 (by kernel_rfl)) (hno 8 _ rfl h)
      all_goals rcases Bool.eq_false_or_eq_true (p 6) with c6 | c6
      all_goals refine ⟨_, rfl, ?_⟩
      all_goals simp [StepS, frP, -exists_and_left, hp, c8, c6, hrl, hrt, roomB, h3, ht, hroom]
    | 1, hl =>
      obtain rfl := Option.some.inj hl
      have c6 : p 6 = false := by cases h : p 6 with | false => rfl | true => exact absurd (List.contains_iff_mem.1 (by kernel_rfl)) (hno 6 _ rfl h)
      have c8 : p 8 = false := by cases h : p 8 with | false => rfl | true => exact absurd (List.contains_iff_mem.1 (by kernel_rfl)) (hno 8 _ rfl h)
      all_goals refine ⟨_, rfl, ?_⟩
      all_goals simp [StepS, frP, -exists_and_left, hp, c6, c8, hrl, hrt, roomB, h3, ht, hroom]
    | 2, hl =>
      obtain rfl := Option.some.inj hl
      have c6 : p 6 = false := by cases h : p 6 with | false => rfl | true => exact absurd (List.contains_iff_mem.1 (by kernel_rfl)) (hno 6 _ rfl h)
      have c8 : p 8 = false := by cases h : p 8 with | false => rfl | true => exact absurd (List.contains_iff_mem.1 (by kernel_rfl)) (hno 8 _ rfl h)
      all_goals refine ⟨_, rfl, ?_⟩
      all_goals simp [StepS, frP, -exists_and_left, hp, c6, c8, hrl, hrt, roomB, h3, ht, hroom]
    | 3, hl =>
      obtain rfl := Option.some.inj hl
      have c6 : p 6 = false := by cases h : p 6 with | false => rfl | true => exact absurd (List.contains_iff_mem.1 (by kernel_rfl)) (hno 6 _ rfl h)
      have c8 : p 8 = false := by cases h : p 8 with | false => rfl | true => exact absurd (List.contains_iff_mem.1 (by kernel_rfl)) (hno 8 _ rfl h)
      all_goals refine ⟨_, rfl, ?_⟩
      all_goals simp [StepS, frP, -exists_and_left, hp, c6, c8, hrl, hrt, roomB, h3, ht, hroom]
    | 4, hl =>
      obtain rfl := Option.some.inj hl
      have c6 : p 6 = false := by cases h : p 6 with | false => rfl | true => exact absurd (List.contains_iff_mem.1 (by kernel_rfl)) (hno 6 _ rfl h)
      have c8 : p 8 = false := by cases h : p 8 with | false => rfl | true => exact absurd (List.contains_iff_mem.1 (by kernel_rfl)) (hno 8 _ rfl h)
      all_goals refine ⟨_, rfl, ?_⟩
      all_goals simp [StepS, frP, -exists_and_left, hp, c6, c8, hrl, hrt, roomB, h3, ht, hroom]
    | 5, hl =>
      obtain rfl := Option.some.inj hl
      have c6 : p 6 = false := by cases h : p 6 with | false => rfl | true => exact absurd (List.contains_iff_mem.1 (by kernel_rfl)) (hno 6 _ rfl h)
      have c8 : p 8 = false := by cases h : p 8 with | false => rfl | true => exact absurd (List.contains_iff_mem.1 (by kernel_rfl)) (hno 8 _ rfl h)
      all_goals refine ⟨_, rfl, ?_⟩
      all_goals simp [StepS, frP, -exists_and_left, hp, c6, c8, hrl, hrt, roomB, h3, ht, hroom]
    | 6, hl =>
      obtain rfl := Option.some.inj hl
      have c8 : p 8 = false := by cases h : p 8 with | false => rfl | true => exact absurd (List.contains_iff_mem.1 (by kernel_rfl)) (hno 8 _ rfl h)
      all_goals refine ⟨_, rfl, ?_⟩
      all_goals simp [StepS, frP, -exists_and_left, hp, c8, hrl, hrt, roomB, h3, ht, hroom]
    | 7, hl =>
      obtain rfl := Option.some.inj hl
      have c6 : p 6 = true := hcl 6 (List.contains_iff_mem.1 (by kernel_rfl))
      have c8 : p 8 = false := by cases h : p 8 with | false => rfl | true => exact absurd (List.contains_iff_mem.1 (by kernel_rfl)) (hno 8 _ rfl h)
      all_goals refine ⟨_, rfl, ?_⟩
      all_goals simp [StepS, frP, -exists_and_left, hp, c6, c8, hrl, hrt, roomB, h3, ht, hroom]
    | 8, hl =>
      obtain rfl := Option.some.inj hl
      have c6 : p 6 = true := hcl 6 (List.contains_iff_mem.1 (by kernel_rfl))
      all_goals refine ⟨_, rfl, ?_⟩
      all_goals simp [StepS, frP, -exists_and_left, hp, c6, hrl, hrt, roomB, h3, ht, hroom]
    | n + 9, hl => simp at hl
  simp [frP, hrl, hrt, roomB, h3, ht, hroom]
  repeat' (first 
   | (with_reducible first | refine awp_scope ?_ | refine awp_seq ?_ | refine awp_block ?_)
   | ((with_reducible first | refine awp_label ?_ | refine awp_skip ?_ | refine awp_exit ?_); try simp only [thenA, inBlockA, noGotoA, if_true, Nat.reduceEqDiff, if_false, ↓reduceIte])
   | ((with_reducible first | refine awp_reg 20 hX [0, 4, 5, 11] ?_ | refine DEv_cut _ _ _ _ _ _ _ _ _ _ _ _ (by kernel_rfl) ?_ | change postOf _ _ _ _ _); simp [-List.reduceReplicate, Nat.add_one_le_iff, -getElem?_pos, -getElem?_neg, hrl])
   | ((first | (with_reducible refine awp_ret ?_; try simp only [thenA, inBlockA, noGotoA])); try simp [-List.reduceReplicate, Nat.add_one_le_iff, -getElem?_pos, -getElem?_neg, hrl])
   | (with_reducible refine awp_if_b rfl (fun hc => ?_) (fun hc => ?_) <;> (try simp [-getElem?_pos, -getElem?_neg] at hc) <;> (try (exfalso; omega)))
   | (with_reducible refine And.intro (by omega) ?_)
   | fail)
set_option maxHeartbeats 4000000 in
theorem pop_den (gb : Ob) (hgb : gb.cs.all (ltB 3) = true) (l : List Run) (g n : Nat) (hn : n + 1 ≤ l.length) (hl0 : l.length ≤ 1000000) : Den Tryz.prog 340 [.mp 0 0 0] [boxO (n + 1) g, gb, rowO l g] (fun r ob' => r = .c (.ifc 279 true (runrC (at' l n))) ∧ ob' = [boxP n g, gb, rowO l g]) := by
  refine Den.forget (by simp) rfl ?_ ?_
  · simp only [List.length_cons, List.length_nil, List.all_cons, List.all_nil, Bool.and_true, Bool.and_eq_true]
    exact ⟨by unfold boxP; split <;> rfl, hgb, up_all _ _⟩
  have hrl : ∀ r, (runrC r).length = 3 := fun _ => rfl
  have hrt : ∀ r, (runrC r).take 3 = runrC r := fun _ => rfl
  have a1 := rowC_at l n (by omega)
  have hcl := rowC_len l
  have c1 : n * 3 + 3 ≤ (rowC l).length := by omega
  have z0 : zeroT Tryz.prog 279 = some (up (runrC default)) := by kernel_rfl
  have hwn := wrap_in (n : Int) (by omega)
  unfold boxO boxP rowO
  generalize rowC l = cs at *
  generalize at' l n = x at *
  refine den_of Tryz.func340 rfl rfl (by simp [Tryz.ntmps340]) (fun X hX hO => ?_)
  rw [Tryz.ntmps340] at hX
  simp only [Tryz.results340]
  rcases Nat.eq_zero_or_pos n with h0 | h0
  · subst h0
    have hw0 := wrap_in 0 (by omega)
    simp at a1 c1
    repeat' (first 
     | (with_reducible first | refine awp_scope ?_ | refine awp_seq ?_ | refine awp_block ?_)
     | ((with_reducible first | refine awp_label ?_ | refine awp_skip ?_ | refine awp_exit ?_); try simp only [thenA, inBlockA, noGotoA, if_true, Nat.reduceEqDiff, if_false, ↓reduceIte])
     | ((with_reducible first | refine awp_reg 25 hX [0, 2, 3, 4] ?_ | change postOf _ _ _ _ _); simp [-List.reduceReplicate, Nat.add_one_le_iff, -getElem?_pos, -getElem?_neg, iC, hrl, hrt, a1, c1, z0, hw0, -Tab.zero279])
     | ((first | (with_reducible refine awp_ret ?_; try simp only [thenA, inBlockA, noGotoA])); try simp [-List.reduceReplicate, Nat.add_one_le_iff, -getElem?_pos, -getElem?_neg, iC, hrl, hrt, a1, c1, z0, hw0, -Tab.zero279])
     | (with_reducible refine awp_if_b rfl (fun hc => ?_) (fun hc => ?_) <;> (try simp [-getElem?_pos, -getElem?_neg] at hc) <;> (try (exfalso; omega)))
     | (with_reducible refine And.intro (by omega) ?_)
     | fail)
  · have h1 : ¬ (0 : Int) = (n : Int) := by omega
    have h2 : ¬ n = 0 := by omega
    repeat' (first 
     | (with_reducible first | refine awp_scope ?_ | refine awp_seq ?_ | refine awp_block ?_)
     | ((with_reducible first | refine awp_label ?_ | refine awp_skip ?_ | refine awp_exit ?_); try simp only [thenA, inBlockA, noGotoA, if_true, Nat.reduceEqDiff, if_false, ↓reduceIte])
     | ((with_reducible first | refine awp_reg 25 hX [0, 2, 3, 4] ?_ | change postOf _ _ _ _ _); simp [-List.reduceReplicate, Nat.add_one_le_iff, -getElem?_pos, -getElem?_neg, iC, hrl, hrt, a1, c1, z0, hwn, h1, h2, -Tab.zero279])
     | ((first | (with_reducible refine awp_ret ?_; try simp only [thenA, inBlockA, noGotoA])); try simp [-List.reduceReplicate, Nat.add_one_le_iff, -getElem?_pos, -getElem?_neg, iC, hrl, hrt, a1, c1, z0, hwn, h1, h2, -Tab.zero279])
     | (with_reducible refine awp_if_b rfl (fun hc => ?_) (fun hc => ?_) <;> (try simp [-getElem?_pos, -getElem?_neg] at hc) <;> (try (exfalso; omega)))
     | (with_reducible refine And.intro (by omega) ?_)
     | fail)
end Go.Av

set_option exponentiation.threshold 1000
set_option linter.unusedVariables false
set_option linter.unusedSimpArgs false
set_option maxRecDepth 100000
set_option maxHeartbeats 4000000
namespace Go.Av
open Go Go.Proofs Go.Proofs.YtocccighdkdljaaGreatDoor Go.RowKit
attribute [local simp] List.getElem?_cons_zero List.getElem?_cons_succ
open Go.Hp
abbrev hM : M := .mi 274 0 0 0
theorem par_i (j : Nat) (h : j ≤ 1000000) : IntKind.i64.wrap ((j : Int) - 1) = (j : Int) - 1 ∧ IntKind.i64.wrap (((j : Int) - 1).tdiv 2) = (par j : Int) := by
  refine ⟨wrap_in _ (by omega), ?_⟩
  by_cases h0 : j = 0
  · subst h0; rfl
  · have e : ((j : Int) - 1) = ((j - 1 : Nat) : Int) := by omega
    rw [e]
    have : (((j - 1 : Nat) : Int)).tdiv 2 = ((par j : Nat) : Int) := rfl
    rw [this]
    exact wrap_in _ (by unfold par; omega)
set_option maxHeartbeats 4000000 in
theorem up_den (gb : Ob) (l : List Run) (g n j f : Nat) (hj : j < n) (hn : n ≤ l.length) (hf : j < f) (hN : l.length ≤ 1000000) :
    Den Tryz.prog 230 [hM, .c (iC j)] [boxO n g, gb, rowO l g] (fun r ob' => r = .tup [] ∧ ob' = [boxO n g, gb, rowO (upF rlt f l j) g]) := by
  generalize hR : upF rlt f l j = R
  refine den_of Tryz.func230 rfl rfl (by simp [Tryz.ntmps230]) (fun X hX hO => ?_)
  rw [Tryz.ntmps230] at hX
  simp only [Tryz.results230]
  repeat' (first 
   | (with_reducible first | refine awp_scope ?_ | refine awp_seq ?_ | refine awp_block ?_)
   | ((with_reducible first | refine awp_label ?_ | refine awp_skip ?_ | refine awp_exit ?_ | refine hother _ _ rfl ?_); try simp only [thenA, inBlockA, noGotoA, if_true, Nat.reduceEqDiff, if_false, ↓reduceIte])
   | ((with_reducible first | refine awp_reg 23 hX [0, 1, 4, 17] ?_ | change postOf _ _ _ _ _); simp [-List.reduceReplicate, Nat.add_one_le_iff, -getElem?_pos, -getElem?_neg])
   | ((first | (with_reducible refine awp_ret ?_; try simp only [thenA, inBlockA, noGotoA])); try simp [-List.reduceReplicate, Nat.add_one_le_iff, -getElem?_pos, -getElem?_neg])
   | (with_reducible refine awp_if_b rfl (fun hc => ?_) (fun hc => ?_) <;> (try simp [-getElem?_pos, -getElem?_neg] at hc) <;> (try (exfalso; omega)))
   | ((with_reducible first | refine GuardK_b (fun hc => ?_) (fun hc => ?_)) <;> (try simp only [Bool.not_eq_true', Bool.not_eq_false', decide_eq_true_eq, decide_eq_false_iff_not] at hc) <;> (first | (exfalso; omega) | skip) <;> simp [-List.reduceReplicate, Nat.add_one_le_iff, -getElem?_pos, -getElem?_neg, hc])
   | (with_reducible refine And.intro (by omega) ?_)
   | fail)
  refine awp_whileU [0, 1] (fun (p : Nat × List Run × Nat) => [(1, .c (iC p.2.2))]) (fun (p : Nat × List Run × Nat) => [boxO n g, gb, rowO p.2.1 g]) (fun (p : Nat × List Run × Nat) => p.2.2 < p.1 ∧ p.2.2 < n ∧ p.2.1.length = l.length ∧ upF rlt p.1 p.2.1 p.2.2 = R) (fun p => p.1) (f, l, j) ⟨hf, hj, rfl, hR⟩ (by simp [keep, iC]) (by simp) ?_
  rintro ⟨f', l', j'⟩ Q1 ⟨h1, h2, h3, h4⟩ next hother
  conv => arg 5; arg 1; simp only [List.cons_append, List.nil_append, keep, get, Nat.reduceEqDiff, if_true, if_false, ↓reduceIte]
  simp only at h1 h2 h3 h4 next ⊢
  obtain ⟨f', rfl⟩ : ∃ q, f' = q + 1 := ⟨f' - 1, by omega⟩
  obtain ⟨w1, w2⟩ := par_i j' (by omega)
  unfold upF at h4
  by_cases c1 : par j' = j'
  · rw [if_pos c1] at h4
    subst h4
    repeat' (first 
     | (with_reducible first | refine awp_scope ?_ | refine awp_seq ?_ | refine awp_block ?_)
     | ((with_reducible first | refine awp_label ?_ | refine awp_skip ?_ | refine awp_exit ?_ | refine hother _ _ rfl ?_); try simp only [thenA, inBlockA, noGotoA, if_true, Nat.reduceEqDiff, if_false, ↓reduceIte])
     | ((with_reducible first | refine awp_reg 23 hX [0, 1, 4, 17] ?_ | change postOf _ _ _ _ _); simp [-List.reduceReplicate, Nat.add_one_le_iff, -getElem?_pos, -getElem?_neg, iC, w1, w2, c1])
     | ((first | (with_reducible refine awp_ret ?_; try simp only [thenA, inBlockA, noGotoA])); try simp [-List.reduceReplicate, Nat.add_one_le_iff, -getElem?_pos, -getElem?_neg, iC, w1, w2, c1])
     | (with_reducible refine awp_if_b rfl (fun hc => ?_) (fun hc => ?_) <;> (try simp [-getElem?_pos, -getElem?_neg] at hc) <;> (try (exfalso; omega)))
     | ((with_reducible first | refine GuardK_b (fun hc => ?_) (fun hc => ?_)) <;> (try simp only [Bool.not_eq_true', Bool.not_eq_false', decide_eq_true_eq, decide_eq_false_iff_not] at hc) <;> (first | (exfalso; omega) | skip) <;> simp [-List.reduceReplicate, Nat.add_one_le_iff, -getElem?_pos, -getElem?_neg, iC, w1, w2, c1, hc])
     | (with_reducible refine And.intro (by omega) ?_)
     | fail)
  · rw [if_neg c1] at h4
    have hpl := par_lt c1
    have p1 := less_den (boxO n g) gb l' g n j' (par j') h2 (by omega) (by omega)
    have p2 := swap_den (boxO n g) gb l' g n (par j') j' (by omega) h2 (by omega)
    cases c2 : rlt (at' l' j') (at' l' (par j'))
    · rw [c2] at h4 p1
      simp only [Bool.false_eq_true, if_false] at h4
      subst h4
      have hbox : boxO n g = ⟨276, 1, false, 0, [.ms 2 g 0 n], none⟩ := rfl
      rw [hbox] at p1 ⊢
      generalize rowO l' g = ro at *
      repeat' (first 
       | (with_reducible first | refine awp_scope ?_ | refine awp_seq ?_ | refine awp_block ?_)
       | ((with_reducible first | refine awp_label ?_ | refine awp_skip ?_ | refine awp_exit ?_ | refine hother _ _ rfl ?_); try simp only [thenA, inBlockA, noGotoA, if_true, Nat.reduceEqDiff, if_false, ↓reduceIte])
       | ((with_reducible first | refine awp_reg 23 hX [0, 1, 4, 17] ?_ | change postOf _ _ _ _ _); simp [-List.reduceReplicate, Nat.add_one_le_iff, -getElem?_pos, -getElem?_neg, iC, bC, w1, w2, c1])
       | ((first | (with_reducible refine awp_ret ?_; try simp only [thenA, inBlockA, noGotoA]) | (refine (p1).det ?_)); try simp [-List.reduceReplicate, Nat.add_one_le_iff, -getElem?_pos, -getElem?_neg, iC, bC, w1, w2, c1])
       | (with_reducible refine awp_if_b rfl (fun hc => ?_) (fun hc => ?_) <;> (try simp [-getElem?_pos, -getElem?_neg] at hc) <;> (try (exfalso; omega)))
       | ((with_reducible first | refine GuardK_b (fun hc => ?_) (fun hc => ?_)) <;> (try simp only [Bool.not_eq_true', Bool.not_eq_false', decide_eq_true_eq, decide_eq_false_iff_not] at hc) <;> (first | (exfalso; omega) | skip) <;> simp [-List.reduceReplicate, Nat.add_one_le_iff, -getElem?_pos, -getElem?_neg, iC, bC, w1, w2, c1, hc])
       | (with_reducible refine And.intro (by omega) ?_)
       | fail)
      rfl
    · rw [c2] at h4 p1
      simp only [if_true] at h4
      have nx : par j' < f' ∧ par j' < n ∧ (swp l' (par j') j').length = l.length ∧ upF rlt f' (swp l' (par j') j') (par j') = R := ⟨by omega, by omega, by rw [swp_len]; exact h3, h4⟩
      have hbox : boxO n g = ⟨276, 1, false, 0, [.ms 2 g 0 n], none⟩ := rfl
      have hnext := fun fr' ob' => next fr' ob' (f', swp l' (par j') j', par j')
      clear next
      rw [hbox] at p1 p2 hnext ⊢
      simp only at hnext
      generalize rowO l' g = ro at *
      generalize rowO (swp l' (par j') j') g = ro2 at *
      repeat' (first 
       | (with_reducible first | refine awp_scope ?_ | refine awp_seq ?_ | refine awp_block ?_)
       | ((with_reducible first | refine awp_label ?_ | refine awp_skip ?_ | refine awp_exit ?_ | refine hother _ _ rfl ?_); try simp only [thenA, inBlockA, noGotoA, if_true, Nat.reduceEqDiff, if_false, ↓reduceIte])
       | ((with_reducible first | refine awp_reg 23 hX [0, 1, 4, 17] ?_ | change postOf _ _ _ _ _); simp [-List.reduceReplicate, Nat.add_one_le_iff, -getElem?_pos, -getElem?_neg, iC, bC, w1, w2, c1])
       | ((first | (with_reducible refine awp_ret ?_; try simp only [thenA, inBlockA, noGotoA]) | (refine (p1).det ?_) | (refine (p2).det ?_)); try simp [-List.reduceReplicate, Nat.add_one_le_iff, -getElem?_pos, -getElem?_neg, iC, bC, w1, w2, c1])
       | (with_reducible refine awp_if_b rfl (fun hc => ?_) (fun hc => ?_) <;> (try simp [-getElem?_pos, -getElem?_neg] at hc) <;> (try (exfalso; omega)))
       | ((with_reducible first | refine GuardK_b (fun hc => ?_) (fun hc => ?_)) <;> (try simp only [Bool.not_eq_true', Bool.not_eq_false', decide_eq_true_eq, decide_eq_false_iff_not] at hc) <;> (first | (exfalso; omega) | skip) <;> simp [-List.reduceReplicate, Nat.add_one_le_iff, -getElem?_pos, -getElem?_neg, iC, bC, w1, w2, c1, hc])
       | (with_reducible refine And.intro (by omega) ?_)
       | fail)
      exact hnext _ _ (by omega) nx (by simp [keep, iC]) rfl
set_option maxHeartbeats 8000000 in
theorem down_den (gb : Ob) (l : List Run) (g m n f : Nat) (hnm : n ≤ m) (hm : m ≤ l.length) (hf : n ≤ f) (hN : l.length ≤ 100000) :
    Den Tryz.prog 231 [hM, .c (iC 0), .c (iC n)] [boxO m g, gb, rowO l g] (fun r ob' => ∃ b, r = .c (bC b) ∧ ob' = [boxO m g, gb, rowO (dnF rlt n f l 0) g]) := by
  generalize hR : dnF rlt n f l 0 = R
  generalize hQ : (fun (r : M) (ob' : List Ob) => ∃ b, r = .c (bC b) ∧ ob' = [boxO m g, gb, rowO R g]) = Q
  have hQ2 : ∀ b, Q (.c (bC b)) [boxO m g, gb, rowO R g] := fun b => by subst hQ; exact ⟨b, rfl, rfl⟩
  clear hQ
  refine den_of Tryz.func231 rfl rfl (by simp [Tryz.ntmps231]) (fun X hX hO => ?_)
  rw [Tryz.ntmps231] at hX
  simp only [Tryz.results231]
  repeat' (first 
   | (with_reducible first | refine awp_scope ?_ | refine awp_seq ?_ | refine awp_block ?_)
   | ((with_reducible first | refine awp_label ?_ | refine awp_skip ?_ | refine awp_exit ?_ | refine hother _ _ rfl ?_); try simp only [thenA, inBlockA, noGotoA, if_true, Nat.reduceEqDiff, if_false, ↓reduceIte])
   | ((with_reducible first | refine awp_reg 48 hX [0, 1, 2, 6, 7, 8, 9, 10, 21, 33, 39] ?_ | change postOf _ _ _ _ _); simp [-List.reduceReplicate, Nat.add_one_le_iff, -getElem?_pos, -getElem?_neg, iC])
   | ((first | (with_reducible refine awp_ret ?_; try simp only [thenA, inBlockA, noGotoA])); try simp [-List.reduceReplicate, Nat.add_one_le_iff, -getElem?_pos, -getElem?_neg, iC])
   | (with_reducible refine awp_if_b rfl (fun hc => ?_) (fun hc => ?_) <;> (try simp [-getElem?_pos, -getElem?_neg] at hc) <;> (try (exfalso; omega)))
   | ((with_reducible first | refine GuardK_b (fun hc => ?_) (fun hc => ?_)) <;> (try simp only [Bool.not_eq_true', Bool.not_eq_false', decide_eq_true_eq, decide_eq_false_iff_not] at hc) <;> (first | (exfalso; omega) | skip) <;> simp [-List.reduceReplicate, Nat.add_one_le_iff, -getElem?_pos, -getElem?_neg, iC, hc])
   | (with_reducible refine And.intro (by omega) ?_)
   | fail)
  refine awp_whileU [0, 1, 2, 7] (fun (p : Nat × List Run × Nat) => [(7, .c (iC p.2.2))]) (fun (p : Nat × List Run × Nat) => [boxO m g, gb, rowO p.2.1 g]) (fun (p : Nat × List Run × Nat) => n ≤ p.2.2 + p.1 ∧ ((0 < n → p.2.2 < n) ∧ p.2.2 ≤ n) ∧ p.2.1.length = l.length ∧ dnF rlt n p.1 p.2.1 p.2.2 = R) (fun p => p.1) (f, l, 0) ⟨by omega, ⟨fun h => h, Nat.zero_le _⟩, rfl, hR⟩ (by simp [keep, iC]) (by simp) ?_
  rintro ⟨f', l', i⟩ Q1 ⟨h1, ⟨h2, h5⟩, h3, h4⟩ next hother
  conv => arg 5; arg 1; simp only [List.cons_append, List.nil_append, keep, get, Nat.reduceEqDiff, if_true, if_false, ↓reduceIte]
  simp only at h1 h2 h3 h4 h5 next ⊢
  have hi : i ≤ 100000 := by omega
  have w1 := wrap_in (2 * (i : Int)) (by omega)
  have w2 := wrap_in (2 * (i : Int) + 1) (by omega)
  have w3 := wrap_in (2 * (i : Int) + 1 + 1) (by omega)
  by_cases c1 : n ≤ 2 * i + 1
  · have hRl : R = l' := by
      cases f' with
      | zero => exact h4.symm
      | succ f' => unfold dnF at h4; rw [if_pos c1] at h4; exact h4.symm
    subst hRl
    have c1' : (n : Int) ≤ 2 * (i : Int) + 1 := by omega
    repeat' (first 
     | (with_reducible first | refine awp_scope ?_ | refine awp_seq ?_ | refine awp_block ?_)
     | ((with_reducible first | refine awp_label ?_ | refine awp_skip ?_ | refine awp_exit ?_ | refine hother _ _ rfl ?_); try simp only [thenA, inBlockA, noGotoA, if_true, Nat.reduceEqDiff, if_false, ↓reduceIte])
     | ((with_reducible first | refine awp_reg 48 hX [0, 1, 2, 6, 7, 8, 9, 10, 21, 33, 39] ?_ | change postOf _ _ _ _ _); simp [-List.reduceReplicate, Nat.add_one_le_iff, -getElem?_pos, -getElem?_neg, iC, bC, w1, w2, c1'])
     | ((first | (with_reducible refine awp_ret ?_; try simp only [thenA, inBlockA, noGotoA])); try simp [-List.reduceReplicate, Nat.add_one_le_iff, -getElem?_pos, -getElem?_neg, iC, bC, w1, w2, c1'])
     | (with_reducible refine awp_if_b rfl (fun hc => ?_) (fun hc => ?_) <;> (try simp [-getElem?_pos, -getElem?_neg] at hc) <;> (try (exfalso; omega)))
     | ((with_reducible first | refine GuardK_b (fun hc => ?_) (fun hc => ?_)) <;> (try simp only [Bool.not_eq_true', Bool.not_eq_false', decide_eq_true_eq, decide_eq_false_iff_not] at hc) <;> (first | (exfalso; omega) | skip) <;> simp [-List.reduceReplicate, Nat.add_one_le_iff, -getElem?_pos, -getElem?_neg, iC, bC, w1, w2, c1', hc])
     | (with_reducible refine And.intro (by omega) ?_)
     | fail)
    exact hQ2 _
  · obtain ⟨f', rfl⟩ : ∃ q, f' = q + 1 := ⟨f' - 1, by omega⟩
    unfold dnF at h4
    rw [if_neg c1] at h4
    obtain ⟨k1, k2, k3, k4⟩ := child_of (lt := rlt) l' n i (by omega)
    have c1' : ¬ (n : Int) ≤ 2 * (i : Int) + 1 := by omega
    have c2' : ¬ 2 * (i : Int) + 1 < 0 := by omega
    have hch : child rlt l' n i = if 2 * i + 1 + 1 < n then (if rlt (at' l' (2 * i + 1 + 1)) (at' l' (2 * i + 1)) = true then 2 * i + 1 + 1 else 2 * i + 1) else 2 * i + 1 := rfl
    have q2 := swap_den (boxO m g) gb l' g m i (child rlt l' n i) (by omega) (by omega) (by omega)
    have q1 := less_den (boxO m g) gb l' g m (child rlt l' n i) i (by omega) (by omega) (by omega)
    have hbox : boxO m g = ⟨276, 1, false, 0, [.ms 2 g 0 m], none⟩ := rfl
    have hnx : rlt (at' l' (child rlt l' n i)) (at' l' i) = true → n ≤ child rlt l' n i + f' ∧ ((0 < n → child rlt l' n i < n) ∧ child rlt l' n i ≤ n) ∧ (swp l' i (child rlt l' n i)).length = l.length ∧ dnF rlt n f' (swp l' i (child rlt l' n i)) (child rlt l' n i) = R := fun h => by
      rw [if_pos h] at h4
      exact ⟨by omega, ⟨fun _ => k1, by omega⟩, by rw [swp_len]; exact h3, h4⟩
    have hno : rlt (at' l' (child rlt l' n i)) (at' l' i) = false → l' = R := fun h => by
      rw [if_neg (by rw [h]; simp)] at h4; exact h4
    clear h4
    have hnext := fun fr' ob' => next fr' ob' (f', swp l' i (child rlt l' n i), child rlt l' n i)
    clear next
    by_cases c3 : 2 * i + 1 + 1 < n
    · have c3' : 2 * (i : Int) + 1 + 1 < n := by omega
      have q0 := less_den (boxO m g) gb l' g m (2 * i + 1 + 1) (2 * i + 1) (by omega) (by omega) (by omega)
      rw [if_pos c3] at hch
      cases c4 : rlt (at' l' (2 * i + 1 + 1)) (at' l' (2 * i + 1))
      · rw [c4] at q0 hch
        simp only [Bool.false_eq_true, if_false] at hch
        rw [hch] at q1 q2 hnx hno hnext k1
        push_cast at q0 q1 q2
        cases c5 : rlt (at' l' (2 * i + 1)) (at' l' i)
        · rw [c5] at q1
          have e := hno c5
          subst e
          rw [hbox] at q0 q1 hQ2 ⊢
          generalize rowO l' g = ro at *
          repeat' (first 
           | (with_reducible first | refine awp_scope ?_ | refine awp_seq ?_ | refine awp_block ?_)
           | ((with_reducible first | refine awp_label ?_ | refine awp_skip ?_ | refine awp_exit ?_ | refine hother _ _ rfl ?_); try simp only [thenA, inBlockA, noGotoA, if_true, Nat.reduceEqDiff, if_false, ↓reduceIte])
           | ((with_reducible first | refine awp_reg 48 hX [0, 1, 2, 6, 7, 8, 9, 10, 21, 33, 39] ?_ | change postOf _ _ _ _ _); simp [-List.reduceReplicate, Nat.add_one_le_iff, -getElem?_pos, -getElem?_neg, iC, bC, w1, w2, w3, c1', c2', c3'])
           | ((first | (with_reducible refine awp_ret ?_; try simp only [thenA, inBlockA, noGotoA]) | (refine (q0).det ?_) | (refine (q1).det ?_)); try simp [-List.reduceReplicate, Nat.add_one_le_iff, -getElem?_pos, -getElem?_neg, iC, bC, w1, w2, w3, c1', c2', c3'])
           | (with_reducible refine awp_if_b rfl (fun hc => ?_) (fun hc => ?_) <;> (try simp [-getElem?_pos, -getElem?_neg] at hc) <;> (try (exfalso; omega)))
           | ((with_reducible first | refine GuardK_b (fun hc => ?_) (fun hc => ?_)) <;> (try simp only [Bool.not_eq_true', Bool.not_eq_false', decide_eq_true_eq, decide_eq_false_iff_not] at hc) <;> (first | (exfalso; omega) | skip) <;> simp [-List.reduceReplicate, Nat.add_one_le_iff, -getElem?_pos, -getElem?_neg, iC, bC, w1, w2, w3, c1', c2', c3', hc])
           | (with_reducible refine And.intro (by omega) ?_)
           | fail)
          exact hQ2 _
        · rw [c5] at q1
          have nx := hnx c5
          rw [hbox] at q0 q1 q2 hnext ⊢
          simp only at hnext
          generalize rowO l' g = ro at *
          generalize rowO (swp l' i (2 * i + 1)) g = ro2 at *
          repeat' (first 
           | (with_reducible first | refine awp_scope ?_ | refine awp_seq ?_ | refine awp_block ?_)
           | ((with_reducible first | refine awp_label ?_ | refine awp_skip ?_ | refine awp_exit ?_ | refine hother _ _ rfl ?_); try simp only [thenA, inBlockA, noGotoA, if_true, Nat.reduceEqDiff, if_false, ↓reduceIte])
           | ((with_reducible first | refine awp_reg 48 hX [0, 1, 2, 6, 7, 8, 9, 10, 21, 33, 39] ?_ | change postOf _ _ _ _ _); simp [-List.reduceReplicate, Nat.add_one_le_iff, -getElem?_pos, -getElem?_neg, iC, bC, w1, w2, w3, c1', c2', c3'])
           | ((first | (with_reducible refine awp_ret ?_; try simp only [thenA, inBlockA, noGotoA]) | (refine (q0).det ?_) | (refine (q1).det ?_) | (refine (q2).det ?_)); try simp [-List.reduceReplicate, Nat.add_one_le_iff, -getElem?_pos, -getElem?_neg, iC, bC, w1, w2, w3, c1', c2', c3'])
           | (with_reducible refine awp_if_b rfl (fun hc => ?_) (fun hc => ?_) <;> (try simp [-getElem?_pos, -getElem?_neg] at hc) <;> (try (exfalso; omega)))
           | ((with_reducible first | refine GuardK_b (fun hc => ?_) (fun hc => ?_)) <;> (try simp only [Bool.not_eq_true', Bool.not_eq_false', decide_eq_true_eq, decide_eq_false_iff_not] at hc) <;> (first | (exfalso; omega) | skip) <;> simp [-List.reduceReplicate, Nat.add_one_le_iff, -getElem?_pos, -getElem?_neg, iC, bC, w1, w2, w3, c1', c2', c3', hc])
           | (with_reducible refine And.intro (by omega) ?_)
           | fail)
          exact hnext _ _ (by omega) nx (by simp [keep, iC]) rfl
      · rw [c4] at q0 hch
        simp only [if_true] at hch
        rw [hch] at q1 q2 hnx hno hnext k1
        push_cast at q0 q1 q2
        cases c5 : rlt (at' l' (2 * i + 1 + 1)) (at' l' i)
        · rw [c5] at q1
          have e := hno c5
          subst e
          rw [hbox] at q0 q1 hQ2 ⊢
          generalize rowO l' g = ro at *
          repeat' (first 
           | (with_reducible first | refine awp_scope ?_ | refine awp_seq ?_ | refine awp_block ?_)
           | ((with_reducible first | refine awp_label ?_ | refine awp_skip ?_ | refine awp_exit ?_ | refine hother _ _ rfl ?_); try simp only [thenA, inBlockA, noGotoA, if_true, Nat.reduceEqDiff, if_false, ↓reduceIte])
           | ((with_reducible first | refine awp_reg 48 hX [0, 1, 2, 6, 7, 8, 9, 10, 21, 33, 39] ?_ | change postOf _ _ _ _ _); simp [-List.reduceReplicate, Nat.add_one_le_iff, -getElem?_pos, -getElem?_neg, iC, bC, w1, w2, w3, c1', c2', c3'])
           | ((first | (with_reducible refine awp_ret ?_; try simp only [thenA, inBlockA, noGotoA]) | (refine (q0).det ?_) | (refine (q1).det ?_)); try simp [-List.reduceReplicate, Nat.add_one_le_iff, -getElem?_pos, -getElem?_neg, iC, bC, w1, w2, w3, c1', c2', c3'])
           | (with_reducible refine awp_if_b rfl (fun hc => ?_) (fun hc => ?_) <;> (try simp [-getElem?_pos, -getElem?_neg] at hc) <;> (try (exfalso; omega)))
           | ((with_reducible first | refine GuardK_b (fun hc => ?_) (fun hc => ?_)) <;> (try simp only [Bool.not_eq_true', Bool.not_eq_false', decide_eq_true_eq, decide_eq_false_iff_not] at hc) <;> (first | (exfalso; omega) | skip) <;> simp [-List.reduceReplicate, Nat.add_one_le_iff, -getElem?_pos, -getElem?_neg, iC, bC, w1, w2, w3, c1', c2', c3', hc])
           | (with_reducible refine And.intro (by omega) ?_)
           | fail)
          exact hQ2 _
        · rw [c5] at q1
          have nx := hnx c5
          rw [hbox] at q0 q1 q2 hnext ⊢
          simp only at hnext
          generalize rowO l' g = ro at *
          generalize rowO (swp l' i (2 * i + 1 + 1)) g = ro2 at *
          repeat' (first 
           | (with_reducible first | refine awp_scope ?_ | refine awp_seq ?_ | refine awp_block ?_)
           | ((with_reducible first | refine awp_label ?_ | refine awp_skip ?_ | refine awp_exit ?_ | refine hother _ _ rfl ?_); try simp only [thenA, inBlockA, noGotoA, if_true, Nat.reduceEqDiff, if_false, ↓reduceIte])
           | ((with_reducible first | refine awp_reg 48 hX [0, 1, 2, 6, 7, 8, 9, 10, 21, 33, 39] ?_ | change postOf _ _ _ _ _); simp [-List.reduceReplicate, Nat.add_one_le_iff, -getElem?_pos, -getElem?_neg, iC, bC, w1, w2, w3, c1', c2', c3'])
           | ((first | (with_reducible refine awp_ret ?_; try simp only [thenA, inBlockA, noGotoA]) | (refine (q0).det ?_) | (refine (q1).det ?_) | (refine (q2).det ?_)); try simp [-List.reduceReplicate, Nat.add_one_le_iff, -getElem?_pos, -getElem?_neg, iC, bC, w1, w2, w3, c1', c2', c3'])
           | (with_reducible refine awp_if_b rfl (fun hc => ?_) (fun hc => ?_) <;> (try simp [-getElem?_pos, -getElem?_neg] at hc) <;> (try (exfalso; omega)))
           | ((with_reducible first | refine GuardK_b (fun hc => ?_) (fun hc => ?_)) <;> (try simp only [Bool.not_eq_true', Bool.not_eq_false', decide_eq_true_eq, decide_eq_false_iff_not] at hc) <;> (first | (exfalso; omega) | skip) <;> simp [-List.reduceReplicate, Nat.add_one_le_iff, -getElem?_pos, -getElem?_neg, iC, bC, w1, w2, w3, c1', c2', c3', hc])
           | (with_reducible refine And.intro (by omega) ?_)
           | fail)
          exact hnext _ _ (by omega) nx (by simp [keep, iC]) rfl
    · have c3' : ¬ 2 * (i : Int) + 1 + 1 < n := by omega
      rw [if_neg c3] at hch
      rw [hch] at q1 q2 hnx hno hnext k1
      push_cast at q1 q2
      cases c5 : rlt (at' l' (2 * i + 1)) (at' l' i)
      · rw [c5] at q1
        have e := hno c5
        subst e
        rw [hbox] at q1 hQ2 ⊢
        generalize rowO l' g = ro at *
        repeat' (first 
         | (with_reducible first | refine awp_scope ?_ | refine awp_seq ?_ | refine awp_block ?_)
         | ((with_reducible first | refine awp_label ?_ | refine awp_skip ?_ | refine awp_exit ?_ | refine hother _ _ rfl ?_); try simp only [thenA, inBlockA, noGotoA, if_true, Nat.reduceEqDiff, if_false, ↓reduceIte])
         | ((with_reducible first | refine awp_reg 48 hX [0, 1, 2, 6, 7, 8, 9, 10, 21, 33, 39] ?_ | change postOf _ _ _ _ _); simp [-List.reduceReplicate, Nat.add_one_le_iff, -getElem?_pos, -getElem?_neg, iC, bC, w1, w2, w3, c1', c2', c3'])
         | ((first | (with_reducible refine awp_ret ?_; try simp only [thenA, inBlockA, noGotoA]) | (refine (q1).det ?_)); try simp [-List.reduceReplicate, Nat.add_one_le_iff, -getElem?_pos, -getElem?_neg, iC, bC, w1, w2, w3, c1', c2', c3'])
         | (with_reducible refine awp_if_b rfl (fun hc => ?_) (fun hc => ?_) <;> (try simp [-getElem?_pos, -getElem?_neg] at hc) <;> (try (exfalso; omega)))
         | ((with_reducible first | refine GuardK_b (fun hc => ?_) (fun hc => ?_)) <;> (try simp only [Bool.not_eq_true', Bool.not_eq_false', decide_eq_true_eq, decide_eq_false_iff_not] at hc) <;> (first | (exfalso; omega) | skip) <;> simp [-List.reduceReplicate, Nat.add_one_le_iff, -getElem?_pos, -getElem?_neg, iC, bC, w1, w2, w3, c1', c2', c3', hc])
         | (with_reducible refine And.intro (by omega) ?_)
         | fail)
        exact hQ2 _
      · rw [c5] at q1
        have nx := hnx c5
        rw [hbox] at q1 q2 hnext ⊢
        simp only at hnext
        generalize rowO l' g = ro at *
        generalize rowO (swp l' i (2 * i + 1)) g = ro2 at *
        repeat' (first 
         | (with_reducible first | refine awp_scope ?_ | refine awp_seq ?_ | refine awp_block ?_)
         | ((with_reducible first | refine awp_label ?_ | refine awp_skip ?_ | refine awp_exit ?_ | refine hother _ _ rfl ?_); try simp only [thenA, inBlockA, noGotoA, if_true, Nat.reduceEqDiff, if_false, ↓reduceIte])
         | ((with_reducible first | refine awp_reg 48 hX [0, 1, 2, 6, 7, 8, 9, 10, 21, 33, 39] ?_ | change postOf _ _ _ _ _); simp [-List.reduceReplicate, Nat.add_one_le_iff, -getElem?_pos, -getElem?_neg, iC, bC, w1, w2, w3, c1', c2', c3'])
         | ((first | (with_reducible refine awp_ret ?_; try simp only [thenA, inBlockA, noGotoA]) | (refine (q1).det ?_) | (refine (q2).det ?_)); try simp [-List.reduceReplicate, Nat.add_one_le_iff, -getElem?_pos, -getElem?_neg, iC, bC, w1, w2, w3, c1', c2', c3'])
         | (with_reducible refine awp_if_b rfl (fun hc => ?_) (fun hc => ?_) <;> (try simp [-getElem?_pos, -getElem?_neg] at hc) <;> (try (exfalso; omega)))
         | ((with_reducible first | refine GuardK_b (fun hc => ?_) (fun hc => ?_)) <;> (try simp only [Bool.not_eq_true', Bool.not_eq_false', decide_eq_true_eq, decide_eq_false_iff_not] at hc) <;> (first | (exfalso; omega) | skip) <;> simp [-List.reduceReplicate, Nat.add_one_le_iff, -getElem?_pos, -getElem?_neg, iC, bC, w1, w2, w3, c1', c2', c3', hc])
         | (with_reducible refine And.intro (by omega) ?_)
         | fail)
        exact hnext _ _ (by omega) nx (by simp [keep, iC]) rfl
theorem rowLen_den (b gb : Ob) (cs : List C) (g n : Nat) : Den Tryz.prog 172 [.ms 2 g 0 n] [b, gb, ⟨279, 3, false, g, up cs, none⟩] (fun r ob' => r = .c (iC n) ∧ ob' = [b, gb, ⟨279, 3, false, g, up cs, none⟩]) := by
  refine den_of Tryz.func172 rfl rfl (by simp [Tryz.ntmps172]) (fun X hX hO => ?_)
  rw [Tryz.ntmps172] at hX
  simp only [Tryz.results172]
  repeat' (first 
   | (with_reducible first | refine awp_scope ?_ | refine awp_seq ?_ | refine awp_block ?_)
   | ((with_reducible first | refine awp_label ?_ | refine awp_skip ?_ | refine awp_exit ?_); try simp only [thenA, inBlockA, noGotoA, if_true, Nat.reduceEqDiff, if_false, ↓reduceIte])
   | ((with_reducible first | refine awp_reg 5 hX [0, 2] ?_ | change postOf _ _ _ _ _); simp [-List.reduceReplicate, Nat.add_one_le_iff, -getElem?_pos, -getElem?_neg, iC])
   | ((first | (with_reducible refine awp_ret ?_; try simp only [thenA, inBlockA, noGotoA])); try simp [-List.reduceReplicate, Nat.add_one_le_iff, -getElem?_pos, -getElem?_neg, iC])
   | (with_reducible refine awp_if_b rfl (fun hc => ?_) (fun hc => ?_) <;> (try simp [-getElem?_pos, -getElem?_neg] at hc) <;> (try (exfalso; omega)))
   | (with_reducible refine And.intro (by omega) ?_)
   | fail)
set_option maxHeartbeats 4000000 in
theorem hpush0_den (x : Run) : Den Tryz.prog 171 [hM, .c (.ifc 279 true (runrC x))] [boxE] (fun r ob' => r = .tup [] ∧ ob' = [boxO 1 0, garO x, rowO (pushL rlt [] x) 0]) := by
  have p1 := push0_den x
  have p2 := up_den (garO x) [x] 0 1 0 1 (by omega) (by simp) (by omega) (by simp)
  have e : pushL rlt [] x = upF rlt 1 [x] 0 := rfl
  rw [e]
  have hbox : ∀ n g, boxO n g = ⟨276, 1, false, 0, [.ms 2 g 0 n], none⟩ := fun _ _ => rfl
  have hl : rowO [x] 0 = ⟨279, 3, false, 0, up (rowC [x]), none⟩ := rfl
  have hw0 := wrap_in 0 (by omega)
  simp only [hbox] at *
  generalize rowO (upF rlt 1 [x] 0) 0 = ro2 at *
  generalize garO x = gb at *
  rw [hl] at p1 p2
  generalize rowC [x] = cs at *
  have p0 := rowLen_den ⟨276, 1, false, 0, [.ms 2 0 0 1], none⟩ gb cs 0 1
  refine den_of Tryz.func171 rfl rfl (by simp [Tryz.ntmps171]) (fun X hX hO => ?_)
  rw [Tryz.ntmps171] at hX
  simp only [Tryz.results171]
  repeat' (first 
   | (with_reducible first | refine awp_scope ?_ | refine awp_seq ?_ | refine awp_block ?_)
   | ((with_reducible first | refine awp_label ?_ | refine awp_skip ?_ | refine awp_exit ?_); try simp only [thenA, inBlockA, noGotoA, if_true, Nat.reduceEqDiff, if_false, ↓reduceIte])
   | ((with_reducible first | refine awp_reg 12 hX [0] ?_ | change postOf _ _ _ _ _); simp [-List.reduceReplicate, Nat.add_one_le_iff, -getElem?_pos, -getElem?_neg, iC, bC, hw0])
   | ((first | (with_reducible refine awp_ret ?_; try simp only [thenA, inBlockA, noGotoA]) | (refine (p1).det ?_) | (refine (p0).det ?_) | (refine (p2).det ?_)); try simp [-List.reduceReplicate, Nat.add_one_le_iff, -getElem?_pos, -getElem?_neg, iC, bC, hw0])
   | (with_reducible refine awp_if_b rfl (fun hc => ?_) (fun hc => ?_) <;> (try simp [-getElem?_pos, -getElem?_neg] at hc) <;> (try (exfalso; omega)))
   | (with_reducible refine And.intro (by omega) ?_)
   | fail)
theorem hpush_den (gb : Ob) (hgb : gb.cs.all (ltB 3) = true) (l : List Run) (g : Nat) (x : Run) (hN : l.length ≤ 100000) : Den Tryz.prog 171 [hM, .c (.ifc 279 true (runrC x))] [boxO l.length g, gb, rowO l g] (fun r ob' => r = .tup [] ∧ ob' = [boxO (l.length + 1) (g + 1), gb, rowO (pushL rlt l x) (g + 1)]) := by
  have p1 := push_den gb hgb l g x (by omega)
  have p2 := up_den gb (l ++ [x]) (g + 1) (l.length + 1) l.length (l.length + 1) (by omega) (by simp) (by omega) (by simp; omega)
  have e : pushL rlt l x = upF rlt (l.length + 1) (l ++ [x]) l.length := rfl
  rw [e]
  have hbox : ∀ n g, boxO n g = ⟨276, 1, false, 0, [.ms 2 g 0 n], none⟩ := fun _ _ => rfl
  have hl : rowO (l ++ [x]) (g + 1) = ⟨279, 3, false, g + 1, up (rowC (l ++ [x])), none⟩ := rfl
  have hw0 := wrap_in (l.length : Int) (by omega)
  simp only [hbox] at *
  generalize rowO (upF rlt (l.length + 1) (l ++ [x]) l.length) (g + 1) = ro2 at *
  rw [hl] at p1 p2
  generalize rowC (l ++ [x]) = cs at *
  generalize rowO l g = ro at *
  generalize l.length = n at *
  have p0 := rowLen_den ⟨276, 1, false, 0, [.ms 2 (g + 1) 0 (n + 1)], none⟩ gb cs (g + 1) (n + 1)
  refine den_of Tryz.func171 rfl rfl (by simp [Tryz.ntmps171]) (fun X hX hO => ?_)
  rw [Tryz.ntmps171] at hX
  simp only [Tryz.results171]
  repeat' (first 
   | (with_reducible first | refine awp_scope ?_ | refine awp_seq ?_ | refine awp_block ?_)
   | ((with_reducible first | refine awp_label ?_ | refine awp_skip ?_ | refine awp_exit ?_); try simp only [thenA, inBlockA, noGotoA, if_true, Nat.reduceEqDiff, if_false, ↓reduceIte])
   | ((with_reducible first | refine awp_reg 12 hX [0] ?_ | change postOf _ _ _ _ _); simp [-List.reduceReplicate, Nat.add_one_le_iff, -getElem?_pos, -getElem?_neg, iC, bC, hw0])
   | ((first | (with_reducible refine awp_ret ?_; try simp only [thenA, inBlockA, noGotoA]) | (refine (p1).det ?_) | (refine (p0).det ?_) | (refine (p2).det ?_)); try simp [-List.reduceReplicate, Nat.add_one_le_iff, -getElem?_pos, -getElem?_neg, iC, bC, hw0])
   | (with_reducible refine awp_if_b rfl (fun hc => ?_) (fun hc => ?_) <;> (try simp [-getElem?_pos, -getElem?_neg] at hc) <;> (try (exfalso; omega)))
   | (with_reducible refine And.intro (by omega) ?_)
   | fail)
set_option maxHeartbeats 4000000 in
theorem hpop_den (gb : Ob) (hgb : gb.cs.all (ltB 3) = true) (l : List Run) (g n : Nat) (hn : n + 1 ≤ l.length) (hN : l.length ≤ 100000) :
    Den Tryz.prog 173 [hM] [boxO (n + 1) g, gb, rowO l g] (fun r ob' => r = .c (.ifc 279 true (runrC (at' (popL rlt l n) n))) ∧ ob' = [boxP n g, gb, rowO (popL rlt l n) g]) := by
  have p1 := swap_den (boxO (n + 1) g) gb l g (n + 1) 0 n (by omega) (by omega) (by omega)
  have p2 := down_den gb (swp l 0 n) g (n + 1) n (n + 1) (by omega) (by rw [swp_len]; omega) (by omega) (by rw [swp_len]; omega)
  have p3 := pop_den gb hgb (popL rlt l n) g n (by rw [popL_len]; omega) (by rw [popL_len]; omega)
  have e : popL rlt l n = dnF rlt n (n + 1) (swp l 0 n) 0 := rfl
  rw [← e] at p2
  have hbox : ∀ n g, boxO n g = ⟨276, 1, false, 0, [.ms 2 g 0 n], none⟩ := fun _ _ => rfl
  have hl : rowO l g = ⟨279, 3, false, g, up (rowC l), none⟩ := rfl
  have hw0 := wrap_in (n : Int) (by omega)
  simp only [hbox] at *
  generalize runrC (at' (popL rlt l n) n) = rc at *
  generalize boxP n g = bp at *
  generalize popL rlt l n = l2 at *
  generalize swp l 0 n = l1 at *
  generalize rowO l2 g = ro2 at *
  generalize rowO l1 g = ro1 at *
  rw [hl] at p1 ⊢
  generalize rowC l = cs at *
  have p0 := rowLen_den ⟨276, 1, false, 0, [.ms 2 g 0 (n + 1)], none⟩ gb cs g (n + 1)
  refine den_of Tryz.func173 rfl rfl (by simp [Tryz.ntmps173]) (fun X hX hO => ?_)
  rw [Tryz.ntmps173] at hX
  simp only [Tryz.results173]
  repeat' (first 
   | (with_reducible first | refine awp_scope ?_ | refine awp_seq ?_ | refine awp_block ?_)
   | ((with_reducible first | refine awp_label ?_ | refine awp_skip ?_ | refine awp_exit ?_); try simp only [thenA, inBlockA, noGotoA, if_true, Nat.reduceEqDiff, if_false, ↓reduceIte])
   | ((with_reducible first | refine awp_reg 15 hX [0, 2, 3] ?_ | change postOf _ _ _ _ _); simp [-List.reduceReplicate, Nat.add_one_le_iff, -getElem?_pos, -getElem?_neg, iC, bC, hw0])
   | ((first | (with_reducible refine awp_ret ?_; try simp only [thenA, inBlockA, noGotoA]) | (refine (p0).det ?_) | (refine (p1).det ?_)); try simp [-List.reduceReplicate, Nat.add_one_le_iff, -getElem?_pos, -getElem?_neg, iC, bC, hw0])
   | (with_reducible refine awp_if_b rfl (fun hc => ?_) (fun hc => ?_) <;> (try simp [-getElem?_pos, -getElem?_neg] at hc) <;> (try (exfalso; omega)))
   | (with_reducible refine And.intro (by omega) ?_)
   | fail)
  refine p2.mono ?_
  rintro _ _ ⟨b, rfl, rfl⟩
  repeat' (first 
   | (with_reducible first | refine awp_scope ?_ | refine awp_seq ?_ | refine awp_block ?_)
   | ((with_reducible first | refine awp_label ?_ | refine awp_skip ?_ | refine awp_exit ?_); try simp only [thenA, inBlockA, noGotoA, if_true, Nat.reduceEqDiff, if_false, ↓reduceIte])
   | ((with_reducible first | refine awp_reg 15 hX [0, 2, 3] ?_ | change postOf _ _ _ _ _); simp [-List.reduceReplicate, Nat.add_one_le_iff, -getElem?_pos, -getElem?_neg, iC, bC])
   | ((first | (with_reducible refine awp_ret ?_; try simp only [thenA, inBlockA, noGotoA]) | (refine (p3).det ?_)); try simp [-List.reduceReplicate, Nat.add_one_le_iff, -getElem?_pos, -getElem?_neg, iC, bC])
   | (with_reducible refine awp_if_b rfl (fun hc => ?_) (fun hc => ?_) <;> (try simp [-getElem?_pos, -getElem?_neg] at hc) <;> (try (exfalso; omega)))
   | (with_reducible refine And.intro (by omega) ?_)
   | fail)
end Go.Av
