/- 36 texts of the program logic over abstract values, joined: each is proved without any condition beyond its own words. -/
import Derived.Test.YtpcnacknlgmmlaaGreatAvWalk1
import Derived.Test.YtpcnacknlgmmlaaGreatAvShelf
import Derived.Test.YtpcnacknlgmmlaaGreatAvEngine4
import Derived.Test.YtpcnacknlgmmlaaGreatAvEngine3
set_option exponentiation.threshold 1000
set_option linter.unusedVariables false
set_option linter.unusedSimpArgs false
set_option maxRecDepth 100000
set_option maxHeartbeats 4000000
namespace Go.Av
open Go Go.Proofs Go.Proofs.YtpcnacknlgmmlaaGreat Go.RowKit
attribute [local simp] List.getElem?_cons_zero List.getElem?_cons_succ
/-! ### strings.Join; texts and their bytes -/
theorem of_list (l : List UInt8) : (⟨l.toArray⟩ : ByteArray) = bsS l := rfl
theorem bs_data (b : ByteArray) : bsS b.data.toList = b := by
  obtain ⟨d⟩ := b
  simp [bsS]
def joinS (xs : List ByteArray) (sep : ByteArray) : List UInt8 := Lib.join (xs.map (·.data.toList)) sep.data.toList
theorem join_den (xs : List ByteArray) (sep : ByteArray) (n : Nat) (full : Bool) (hn : xs.length = n) (hN : n ≤ 1000000) (hlen : (joinS xs sep).length ≤ 140737488355328) :
    DenV Tryz.prog 168 [.c (.sl (xs.map fun s => .v (.string s)) n full), .c (.v (.string sep))] (.c (.v (.string (bsS (joinS xs sep))))) := by
  refine Den.of_below (by kernel_rfl) rfl fun w E vals hs ha hst => ?_
  have h1 := ha 1 _ rfl
  have h0 := ha 0 _ rfl
  rw [show (xs.map fun s => C.v (.string s)) = (xs.map Value.string).map C.v by simp] at h0
  obtain ⟨va, vb, rfl⟩ : ∃ va vb, vals = #[va, vb] := by
    obtain ⟨l⟩ := vals
    match l, hs with
    | [a, b], _ => exact ⟨a, b, rfl⟩
  obtain rfl : vb = .string sep := arg_v h1
  rcases arg_row (by simpa using hn) h0 with ⟨h, e⟩ | ⟨a, cap, e, hcap, hcell⟩
  · simp only [Array.getD_eq_getD_getElem?, List.getElem?_toArray, List.getElem?_cons_zero, Option.getD_some] at e
    subst e
    have : xs = [] := by rw [h] at hn; exact List.length_eq_zero_iff.1 hn
    subst this
    refine (Tryz.strings_Join_none none 0 sep w).mono fun e w' ⟨he, hw⟩ => ⟨?_, hw ▸ Below.refl _ _⟩
    rw [he]
    rfl
  · simp only [Array.getD_eq_getD_getElem?, List.getElem?_toArray, List.getElem?_cons_zero, Option.getD_some] at e
    subst e
    by_cases h : n = 0
    · have : xs = [] := by rw [h] at hn; exact List.length_eq_zero_iff.1 hn
      subst this
      subst h
      refine (Tryz.strings_Join_none (some a) cap sep w).mono fun e w' ⟨he, hw⟩ => ⟨?_, hw ▸ Below.refl _ _⟩
      rw [he]
      rfl
    · obtain ⟨s, hs0⟩ : ∃ s, xs[0]? = some s := ⟨_, List.getElem?_eq_getElem (by omega)⟩
      obtain ⟨hb, hc0⟩ := hcell 0 (.string s) (by simp [hs0])
      have hpl : a = ⟨a.block, a.off, none⟩ := by
        have : a.add 0 = a := by simp [Addr.add]
        rw [this] at hc0
        exact plain_of_cell hc0
      obtain ⟨blk, off, sp⟩ := a
      simp only [Addr.mk.injEq, true_and] at hpl
      subst hpl
      subst hn
      exact (Tryz.strings_Join blk off cap xs sep w (fun j x hx => by
        have := (hcell j (.string x) (by simp [hx])).2
        rwa [add_plain] at this) (hst _ hb) (by omega) hcap hlen).mono fun e w' h => h
theorem bs_toList (l : List UInt8) : (bsS l).toList = l := by rw [toList_data]; rfl
theorem ba_ext {a b : ByteArray} (h : a.data.toList = b.data.toList) : a = b := by
  obtain ⟨a⟩ := a
  obtain ⟨b⟩ := b
  simp only [ByteArray.mk.injEq]
  exact Array.toList_inj.1 h
theorem size_list (s : ByteArray) : s.size = s.data.toList.length := by simp
theorem hash_take (l : List UInt8) (h : l.length = 32) : (l.map bC8).take 32 = l.map bC8 := List.take_of_length_le (by simp [h])
end Go.Av

set_option exponentiation.threshold 1000
set_option linter.unusedVariables false
set_option linter.unusedSimpArgs false
set_option maxRecDepth 100000
set_option maxHeartbeats 4000000
namespace Go.Av
open Go Go.Proofs Go.Proofs.YtpcnacknlgmmlaaGreat Go.RowKit
attribute [local simp] List.getElem?_cons_zero List.getElem?_cons_succ
/-! ### tag -/
theorem join_two (a b : ByteArray) : joinS [a, b] ⟨#[]⟩ = a.data.toList ++ b.data.toList := by simp [joinS, Lib.join, List.intercalate]
theorem join_one' (a : ByteArray) : joinS [a] ⟨#[]⟩ = a.data.toList := by simp [joinS, Lib.join, List.intercalate]
theorem text_den (t : UInt8) (xs : List ByteArray) (n : Nat) (full : Bool) (hn : xs.length = n) (hN : n ≤ 1000000) (hl : (joinS xs ⟨#[]⟩).length ≤ 140737488355328) :
    DenV Tryz.prog 147 [.c (.v (.int .u8 (t.toNat : Int))), .c (.sl (xs.map fun s => .v (.string s)) n full)] (.c (.v (.string (bsS (t :: joinS xs ⟨#[]⟩))))) := by
  refine Den.frame rfl rfl ?_
  refine den_of Tryz.func147 rfl rfl (by simp [Tryz.ntmps147]) (fun X hX hO => ?_)
  rw [Tryz.ntmps147] at hX
  simp only [Tryz.results147]
  have h1 : (⟨#[t]⟩ : ByteArray) = bsS [t] := rfl
  have h2 := bs_append [t] (joinS xs ⟨#[]⟩)
  have h3 : 1 + (joinS xs ⟨#[]⟩).length ≤ 9223372036854775807 := by omega
  have h4 : UInt8.ofNat t.toNat = t := by simp
  repeat' (first 
   | (with_reducible first | refine awp_scope ?_ | refine awp_seq ?_ | refine awp_block ?_)
   | ((with_reducible first | refine awp_label ?_ | refine awp_skip ?_ | refine awp_exit ?_); try simp only [thenA, inBlockA, noGotoA, if_true, Nat.reduceEqDiff, if_false, ↓reduceIte])
   | ((with_reducible first | refine awp_reg 11 hX [0, 1, 4] ?_ | refine awp_drw 11 hX [0, 1, 4] Tab.mixed (by kernel_rfl) ?_ | refine DEv_cut _ _ _ _ _ _ _ _ _ _ _ _ (by kernel_rfl) ?_ | change postOf _ _ _ _ _); simp [-List.reduceReplicate, Nat.add_one_le_iff, -getElem?_pos, -getElem?_neg, h1, bs_append, bs_size, h3, h4])
   | ((first | (with_reducible refine awp_ret ?_; try simp only [thenA, inBlockA, noGotoA]) | ((with_reducible refine Den.at_ (f := 168) ?_); refine (join_den xs ⟨#[]⟩ n full hn hN hl _).det ?_) | ((with_reducible refine drawn_at (f := 168) ?_); refine ⟨_, _, join_den xs ⟨#[]⟩ n full hn hN hl _, fun _ => rfl, ?_⟩)); try simp [-List.reduceReplicate, Nat.add_one_le_iff, -getElem?_pos, -getElem?_neg, h1, bs_append, bs_size, h3, h4])
   | (with_reducible refine awp_if_b rfl (fun hc => ?_) (fun hc => ?_) <;> (try simp [-getElem?_pos, -getElem?_neg] at hc) <;> (try (exfalso; omega)))
   | (with_reducible refine And.intro (by omega) ?_)
   | fail)
def leafT (s : ByteArray) : List UInt8 := 0 :: s.data.toList
def headT (s : ByteArray) : List UInt8 := 3 :: s.data.toList
def nodeT (a b : List UInt8) : List UInt8 := 1 :: (a ++ b)
def rootT (n : Nat) (a : List UInt8) : List UInt8 := 2 :: (putN n 8 ++ a)
theorem headerText_den (s : ByteArray) (hs : s.size ≤ 140737488355328) : DenV Tryz.prog 116 [.c (.v (.string s))] (.c (.v (.string (bsS (headT s))))) := by
  refine Den.frame rfl rfl ?_
  refine den_of Tryz.func116 rfl rfl (by simp [Tryz.ntmps116]) (fun X hX hO => ?_)
  rw [Tryz.ntmps116] at hX
  simp only [Tryz.results116]
  have h := text_den 3 [s] 1 true rfl (by omega) (by rw [join_one', ← size_list]; exact hs)
  rw [join_one'] at h
  repeat' (first 
   | (with_reducible first | refine awp_scope ?_ | refine awp_seq ?_ | refine awp_block ?_)
   | ((with_reducible first | refine awp_label ?_ | refine awp_skip ?_ | refine awp_exit ?_); try simp only [thenA, inBlockA, noGotoA, if_true, Nat.reduceEqDiff, if_false, ↓reduceIte])
   | ((with_reducible first | refine awp_reg 6 hX [0, 2] ?_ | change postOf _ _ _ _ _); simp [-List.reduceReplicate, Nat.add_one_le_iff, -getElem?_pos, -getElem?_neg, headT])
   | ((first | (with_reducible refine awp_ret ?_; try simp only [thenA, inBlockA, noGotoA]) | (refine (h _).det ?_)); try simp [-List.reduceReplicate, Nat.add_one_le_iff, -getElem?_pos, -getElem?_neg, headT])
   | (with_reducible refine awp_if_b rfl (fun hc => ?_) (fun hc => ?_) <;> (try simp [-getElem?_pos, -getElem?_neg] at hc) <;> (try (exfalso; omega)))
   | (with_reducible refine And.intro (by omega) ?_)
   | fail)
theorem bs_list (l : List UInt8) : (bsS l).data.toList = l := rfl
theorem rootText_den (n : Nat) (a : List UInt8) (hn : n < 18446744073709551616) (ha : a.length = 32) : DenV Tryz.prog 139 [.c (u64C n), hashM a] (.c (.v (.string (bsS (rootT n a))))) := by
  refine Den.frame (by simp [ltBs, ltB, lt_hash]) rfl ?_
  refine den_of Tryz.func139 rfl rfl (by simp [Tryz.ntmps139]) (fun X hX hO => ?_)
  rw [Tryz.ntmps139] at hX
  simp only [Tryz.results139]
  have h := text_den 2 [bsS (putN n 8), bsS a] 2 true rfl (by omega) (by rw [join_two, bs_list, bs_list]; simp [ha, putN_len])
  rw [join_two, bs_list, bs_list] at h
  have h1 := bytesM_b8 a
  have t1 := hash_take a ha
  repeat' (first 
   | (with_reducible first | refine awp_scope ?_ | refine awp_seq ?_ | refine awp_block ?_)
   | ((with_reducible first | refine awp_label ?_ | refine awp_skip ?_ | refine awp_exit ?_); try simp only [thenA, inBlockA, noGotoA, if_true, Nat.reduceEqDiff, if_false, ↓reduceIte])
   | ((with_reducible first | refine awp_reg 11 hX [0, 3, 4] ?_ | refine awp_drw 11 hX [0, 3, 4] Tab.mixed (by kernel_rfl) ?_ | refine DEv_cut _ _ _ _ _ _ _ _ _ _ _ _ (by kernel_rfl) ?_ | change postOf _ _ _ _ _); simp [-List.reduceReplicate, Nat.add_one_le_iff, -getElem?_pos, -getElem?_neg, hashM, ha, h1, t1, rootT, u64C])
   | ((first | (with_reducible refine awp_ret ?_; try simp only [thenA, inBlockA, noGotoA]) | ((with_reducible refine Den.at_ (f := 78) ?_); refine (put64_den n hn _).det ?_) | ((with_reducible refine drawn_at (f := 78) ?_); refine ⟨_, _, put64_den n hn _, fun _ => rfl, ?_⟩) | (refine (h _).det ?_) | (refine ⟨_, _, h _, fun _ => rfl, ?_⟩)); try simp [-List.reduceReplicate, Nat.add_one_le_iff, -getElem?_pos, -getElem?_neg, hashM, ha, h1, t1, rootT, u64C])
   | (with_reducible refine awp_if_b rfl (fun hc => ?_) (fun hc => ?_) <;> (try simp [-getElem?_pos, -getElem?_neg] at hc) <;> (try (exfalso; omega)))
   | (with_reducible refine And.intro (by omega) ?_)
   | fail)
/-! ### the document's -/
theorem bs_cons (t : UInt8) (s : ByteArray) : bsS [t] ++ s = bsS (t :: s.data.toList) := by
  rw [← bs_data s, bs_append]; rfl
theorem headerText03_den (s : ByteArray) (hs : s.size ≤ 140737488355328) : DenV Tryz.prog 94 [.c (.v (.string s))] (.c (.v (.string (bsS (headT s))))) := by
  refine Den.frame rfl rfl ?_
  refine den_of Tryz.func94 rfl rfl (by simp [Tryz.ntmps94]) (fun X hX hO => ?_)
  rw [Tryz.ntmps94] at hX
  simp only [Tryz.results94]
  have z : bsS [UInt8.ofNat (3 % 256 : Int).toNat] = bsS [3] := rfl
  have h := bs_cons 3 s
  have h1 : 1 + s.size ≤ 9223372036854775807 := by omega
  repeat' (first 
   | (with_reducible first | refine awp_scope ?_ | refine awp_seq ?_ | refine awp_block ?_)
   | ((with_reducible first | refine awp_label ?_ | refine awp_skip ?_ | refine awp_exit ?_); try simp only [thenA, inBlockA, noGotoA, if_true, Nat.reduceEqDiff, if_false, ↓reduceIte])
   | ((with_reducible first | refine awp_reg 6 hX [0, 2] ?_ | change postOf _ _ _ _ _); simp [-List.reduceReplicate, Nat.add_one_le_iff, -getElem?_pos, -getElem?_neg, z, h, h1, bs_size, headT])
   | ((first | (with_reducible refine awp_ret ?_; try simp only [thenA, inBlockA, noGotoA]) | ((with_reducible refine Den.at_ (f := 82) ?_); refine (byte01_den 3 _).det ?_)); try simp [-List.reduceReplicate, Nat.add_one_le_iff, -getElem?_pos, -getElem?_neg, z, h, h1, bs_size, headT])
   | (with_reducible refine awp_if_b rfl (fun hc => ?_) (fun hc => ?_) <;> (try simp [-getElem?_pos, -getElem?_neg] at hc) <;> (try (exfalso; omega)))
   | (with_reducible refine And.intro (by omega) ?_)
   | fail)
theorem raw_den' (l : List UInt8) (hl : l.length = 32) : DenV Tryz.prog 42 [hashM l] (.c (.v (.string (bsS l)))) := raw_den l hl
theorem rootText03_den (n : Nat) (a : List UInt8) (hn : n < 18446744073709551616) (ha : a.length = 32) : DenV Tryz.prog 148 [.c (u64C n), hashM a] (.c (.v (.string (bsS (rootT n a))))) := by
  refine Den.frame (by simp [ltBs, ltB, lt_hash]) rfl ?_
  refine den_of Tryz.func148 rfl rfl (by simp [Tryz.ntmps148]) (fun X hX hO => ?_)
  rw [Tryz.ntmps148] at hX
  simp only [Tryz.results148]
  have z : bsS [UInt8.ofNat (2 % 256 : Int).toNat] = bsS [2] := rfl
  have t1 := hash_take a ha
  have l8 := putN_len n 8
  repeat' (first 
   | (with_reducible first | refine awp_scope ?_ | refine awp_seq ?_ | refine awp_block ?_)
   | ((with_reducible first | refine awp_label ?_ | refine awp_skip ?_ | refine awp_exit ?_); try simp only [thenA, inBlockA, noGotoA, if_true, Nat.reduceEqDiff, if_false, ↓reduceIte])
   | ((with_reducible first | refine awp_reg 12 hX [0, 3, 4] ?_ | refine awp_drw 12 hX [0, 3, 4] Tab.mixed (by kernel_rfl) ?_ | refine DEv_cut _ _ _ _ _ _ _ _ _ _ _ _ (by kernel_rfl) ?_ | change postOf _ _ _ _ _); simp [-List.reduceReplicate, Nat.add_one_le_iff, -getElem?_pos, -getElem?_neg, hashM, ha, t1, z, bs_append, bs_size, rootT, u64C, l8])
   | ((first | (with_reducible refine awp_ret ?_; try simp only [thenA, inBlockA, noGotoA]) | ((with_reducible refine Den.at_ (f := 82) ?_); refine (byte01_den 2 _).det ?_) | ((with_reducible refine drawn_at (f := 82) ?_); refine ⟨_, _, byte01_den 2 _, fun _ => rfl, ?_⟩) | ((with_reducible refine Den.at_ (f := 81) ?_); refine (put01_den n 8 hn (by omega) _).det ?_) | ((with_reducible refine drawn_at (f := 81) ?_); refine ⟨_, _, put01_den n 8 hn (by omega) _, fun _ => rfl, ?_⟩) | (refine (raw_den' a ha _).det ?_) | (refine ⟨_, _, raw_den' a ha _, fun _ => rfl, ?_⟩)); try simp [-List.reduceReplicate, Nat.add_one_le_iff, -getElem?_pos, -getElem?_neg, hashM, ha, t1, z, bs_append, bs_size, rootT, u64C, l8])
   | (with_reducible refine awp_if_b rfl (fun hc => ?_) (fun hc => ?_) <;> (try simp [-getElem?_pos, -getElem?_neg] at hc) <;> (try (exfalso; omega)))
   | (with_reducible refine And.intro (by omega) ?_)
   | fail)
end Go.Av

set_option exponentiation.threshold 1000
set_option linter.unusedVariables false
set_option linter.unusedSimpArgs false
set_option maxRecDepth 100000
set_option maxHeartbeats 4000000
namespace Go.Av
open Go Go.Proofs Go.Proofs.YtpcnacknlgmmlaaGreat Go.RowKit
attribute [local simp] List.getElem?_cons_zero List.getElem?_cons_succ
/-! ### bytes as words -/
def u32C (n : Nat) : C := .v (.int .u32 (n : Int))
theorem put32_den (x : Nat) (hx : x < 4294967296) : DenV Tryz.prog 77 [.c (u32C x)] (.c (.v (.string (bsS (putN x 4))))) := by
  refine Den.frame rfl rfl ?_
  refine den_of Tryz.func77 rfl rfl (by simp [Tryz.ntmps77]) (fun X hX hO => ?_)
  rw [Tryz.ntmps77] at hX
  simp only [Tryz.results77]
  have h := wrapU64 (x : Int) (by omega)
  repeat' (first 
   | (with_reducible first | refine awp_scope ?_ | refine awp_seq ?_ | refine awp_block ?_)
   | ((with_reducible first | refine awp_label ?_ | refine awp_skip ?_ | refine awp_exit ?_); try simp only [thenA, inBlockA, noGotoA, if_true, Nat.reduceEqDiff, if_false, ↓reduceIte])
   | ((with_reducible first | refine awp_reg 6 hX [0, 2] ?_ | change postOf _ _ _ _ _); simp [-List.reduceReplicate, Nat.add_one_le_iff, -getElem?_pos, -getElem?_neg, u32C, u64C, h])
   | ((first | (with_reducible refine awp_ret ?_; try simp only [thenA, inBlockA, noGotoA]) | ((with_reducible refine Den.at_ (f := 110) ?_); refine (put_den x 4 (by omega) (by omega) _).det ?_)); try simp [-List.reduceReplicate, Nat.add_one_le_iff, -getElem?_pos, -getElem?_neg, u32C, u64C, h])
   | (with_reducible refine awp_if_b rfl (fun hc => ?_) (fun hc => ?_) <;> (try simp [-getElem?_pos, -getElem?_neg] at hc) <;> (try (exfalso; omega)))
   | (with_reducible refine And.intro (by omega) ?_)
   | fail)
def byteI (b : ByteArray) (at_ : Int) (i : Nat) : Nat := if 0 ≤ at_ ∧ at_ + i < b.size then (b.data.toList.getD (at_ + i).toNat 0).toNat else 0
theorem byteI_lt (b : ByteArray) (at_ : Int) (i : Nat) : byteI b at_ i < 256 := by
  unfold byteI
  split
  · exact (b.data.toList.getD (at_ + i).toNat 0).toNat_lt
  · omega
def takeN (b : ByteArray) (at_ : Int) : Nat → Nat
  | 0 => 0
  | n + 1 => takeN b at_ n * 256 + byteI b at_ n
theorem takeN_lt (b : ByteArray) (at_ : Int) (n : Nat) : takeN b at_ n < 256 ^ n := by
  induction n with
  | zero => simp [takeN]
  | succ n ih =>
    have := byteI_lt b at_ n
    rw [takeN, Nat.pow_succ]
    omega
theorem takeN_u64 (b : ByteArray) (at_ : Int) (n : Nat) (h : n ≤ 8) : takeN b at_ n < 18446744073709551616 := by
  have h1 := takeN_lt b at_ n
  have h2 : 256 ^ n ≤ 256 ^ 8 := Nat.pow_le_pow_right (by omega) h
  have h3 : 256 ^ 8 = 18446744073709551616 := by decide
  omega
theorem take_den (b : ByteArray) (at_ : Int) (n : Nat) (hat : -9223372036854775808 ≤ at_ ∧ at_ ≤ 9223372036854775807) (hb : b.size ≤ 9223372036854775807) (hn : n ≤ 8) : DenV Tryz.prog 107 [.c (.v (.string b)), .c (iC at_), .c (iC n)] (.c (u64C (takeN b at_ n))) := by
  refine Den.frame rfl rfl ?_
  refine den_of Tryz.func107 rfl rfl (by simp [Tryz.ntmps107]) (fun X hX hO => ?_)
  rw [Tryz.ntmps107] at hX
  simp only [Tryz.results107]
  repeat' (first 
   | (with_reducible first | refine awp_scope ?_ | refine awp_seq ?_ | refine awp_block ?_)
   | ((with_reducible first | refine awp_label ?_ | refine awp_skip ?_ | refine awp_exit ?_ | refine hother _ _ rfl ?_); try simp only [thenA, inBlockA, noGotoA, if_true, Nat.reduceEqDiff, if_false, ↓reduceIte])
   | ((with_reducible first | refine awp_reg 41 hX [0, 1, 2, 6, 7, 8, 9, 10, 11, 30] ?_ | change postOf _ _ _ _ _); simp [-List.reduceReplicate, Nat.add_one_le_iff, -getElem?_pos, -getElem?_neg, u64C, iC])
   | ((first | (with_reducible refine awp_ret ?_; try simp only [thenA, inBlockA, noGotoA])); try simp [-List.reduceReplicate, Nat.add_one_le_iff, -getElem?_pos, -getElem?_neg, u64C, iC])
   | (with_reducible refine awp_if_b rfl (fun hc => ?_) (fun hc => ?_) <;> (try simp [-getElem?_pos, -getElem?_neg] at hc) <;> (try (exfalso; omega)))
   | ((with_reducible first | refine GuardK_b (fun hc => ?_) (fun hc => ?_)) <;> (try simp only [Bool.not_eq_true', Bool.not_eq_false', decide_eq_true_eq, decide_eq_false_iff_not] at hc) <;> (first | (exfalso; omega) | skip) <;> simp [-List.reduceReplicate, Nat.add_one_le_iff, -getElem?_pos, -getElem?_neg, u64C, iC, hc])
   | (with_reducible refine And.intro (by omega) ?_)
   | fail)
  refine awp_forU [0, 1, 7, 9, 10] (fun i (_u : Unit) => [(7, .c (u64C (takeN b at_ i))), (10, .c (iC i))]) (fun i (_u : Unit) => []) (fun i (_u : Unit) => True) (n) (()) (by first | trivial | (simp; done) | omega | (intros; simp at *; done)) (by simp [-List.reduceReplicate, keep, u64C, iC, takeN]) (by simp [-List.reduceReplicate, u64C, iC, takeN]) ?_
  rintro i _u Q1 hi hH next hother
  conv => arg 5; arg 1; simp only [List.cons_append, List.nil_append, keep, get, Nat.reduceEqDiff, if_true, if_false, ↓reduceIte]
  have hwi := wrap_in ((i : Int) + 1) (by omega)
  by_cases hlt : i < n
  · have h1 := takeN_u64 b at_ i (by omega)
    have h2 := takeN_u64 b at_ (i + 1) (by omega)
    have hbl := byteI_lt b at_ i
    have hst : takeN b at_ (i + 1) = takeN b at_ i * 256 + byteI b at_ i := rfl
    have hw : IntKind.u64.wrap (((takeN b at_ i : Nat) : Int) * 256) = ((takeN b at_ i * 256 : Nat) : Int) := (wrapU64 _ (by omega)).trans (by omega)
    have hor := orU .u64 (takeN b at_ i * 256) (byteI b at_ i) (by show _ < 2 ^ 64; omega) (by show _ < 2 ^ 64; omega) rfl
    rw [or_byte _ _ hbl, ← hst, show ((takeN b at_ i * 256 : Nat) : Int) = (takeN b at_ i : Int) * 256 by omega] at hor
    by_cases c1 : 0 ≤ at_
    · by_cases c2 : at_ < b.size
      · have w1 := wrap_in ((b.size : Int) - at_) (by omega)
        by_cases c3 : (i : Int) < (b.size : Int) - at_
        · have hby : byteI b at_ i = (b.toList.getD (at_ + i).toNat 0).toNat := by unfold byteI; rw [if_pos ⟨c1, by omega⟩, toList_data]
          have w2 := wrap_in (at_ + (i : Int)) (by omega)
          have hbi : byteAt b (at_ + i).toNat = (byteI b at_ i : Int) := by unfold byteAt; rw [hby]
          have w3 := wrapU64 ((byteI b at_ i : Nat) : Int) (by omega)
          have c4 : 0 ≤ at_ + (i : Int) := by omega
          have c5 : at_ + (i : Int) < b.size := by omega
          repeat' (first 
           | (with_reducible first | refine awp_scope ?_ | refine awp_seq ?_ | refine awp_block ?_)
           | ((with_reducible first | refine awp_label ?_ | refine awp_skip ?_ | refine awp_exit ?_ | refine hother _ _ rfl ?_); try simp only [thenA, inBlockA, noGotoA, if_true, Nat.reduceEqDiff, if_false, ↓reduceIte])
           | ((with_reducible first | refine awp_reg 41 hX [0, 1, 2, 6, 7, 8, 9, 10, 11, 30] ?_ | change postOf _ _ _ _ _); simp [-List.reduceReplicate, Nat.add_one_le_iff, -getElem?_pos, -getElem?_neg, u64C, iC, hlt, hwi, hw, c1, c2, c3, c4, c5, w1, w2, w3, hbi, hor, IntKind.bits])
           | ((first | (with_reducible refine awp_ret ?_; try simp only [thenA, inBlockA, noGotoA])); try simp [-List.reduceReplicate, Nat.add_one_le_iff, -getElem?_pos, -getElem?_neg, u64C, iC, hlt, hwi, hw, c1, c2, c3, c4, c5, w1, w2, w3, hbi, hor, IntKind.bits])
           | (with_reducible refine awp_if_b rfl (fun hc => ?_) (fun hc => ?_) <;> (try simp [-getElem?_pos, -getElem?_neg] at hc) <;> (try (exfalso; omega)))
           | ((with_reducible first | refine GuardK_b (fun hc => ?_) (fun hc => ?_)) <;> (try simp only [Bool.not_eq_true', Bool.not_eq_false', decide_eq_true_eq, decide_eq_false_iff_not] at hc) <;> (first | (exfalso; omega) | skip) <;> simp [-List.reduceReplicate, Nat.add_one_le_iff, -getElem?_pos, -getElem?_neg, u64C, iC, hlt, hwi, hw, c1, c2, c3, c4, c5, w1, w2, w3, hbi, hor, IntKind.bits, hc])
           | (with_reducible refine And.intro (by omega) ?_)
           | fail)
          refine next _ _ (()) (by omega) (by first | trivial | omega | assumption) (by simp [-List.reduceReplicate, keep, u64C, iC]) (by simp [-List.reduceReplicate, u64C, iC])
        · have hz : byteI b at_ i = 0 := by unfold byteI; rw [if_neg (by omega)]
          repeat' (first 
           | (with_reducible first | refine awp_scope ?_ | refine awp_seq ?_ | refine awp_block ?_)
           | ((with_reducible first | refine awp_label ?_ | refine awp_skip ?_ | refine awp_exit ?_ | refine hother _ _ rfl ?_); try simp only [thenA, inBlockA, noGotoA, if_true, Nat.reduceEqDiff, if_false, ↓reduceIte])
           | ((with_reducible first | refine awp_reg 41 hX [0, 1, 2, 6, 7, 8, 9, 10, 11, 30] ?_ | change postOf _ _ _ _ _); simp [-List.reduceReplicate, Nat.add_one_le_iff, -getElem?_pos, -getElem?_neg, u64C, iC, hlt, hwi, hw, c1, c2, c3, w1, IntKind.bits])
           | ((first | (with_reducible refine awp_ret ?_; try simp only [thenA, inBlockA, noGotoA])); try simp [-List.reduceReplicate, Nat.add_one_le_iff, -getElem?_pos, -getElem?_neg, u64C, iC, hlt, hwi, hw, c1, c2, c3, w1, IntKind.bits])
           | (with_reducible refine awp_if_b rfl (fun hc => ?_) (fun hc => ?_) <;> (try simp [-getElem?_pos, -getElem?_neg] at hc) <;> (try (exfalso; omega)))
           | ((with_reducible first | refine GuardK_b (fun hc => ?_) (fun hc => ?_)) <;> (try simp only [Bool.not_eq_true', Bool.not_eq_false', decide_eq_true_eq, decide_eq_false_iff_not] at hc) <;> (first | (exfalso; omega) | skip) <;> simp [-List.reduceReplicate, Nat.add_one_le_iff, -getElem?_pos, -getElem?_neg, u64C, iC, hlt, hwi, hw, c1, c2, c3, w1, IntKind.bits, hc])
           | (with_reducible refine And.intro (by omega) ?_)
           | fail)
          refine next _ _ (()) (by omega) (by first | trivial | omega | assumption) (by simp [-List.reduceReplicate, keep, u64C, iC, takeN, hz]) (by simp [-List.reduceReplicate, u64C, iC, takeN, hz])
      · have hz : byteI b at_ i = 0 := by unfold byteI; rw [if_neg (by omega)]
        repeat' (first 
         | (with_reducible first | refine awp_scope ?_ | refine awp_seq ?_ | refine awp_block ?_)
         | ((with_reducible first | refine awp_label ?_ | refine awp_skip ?_ | refine awp_exit ?_ | refine hother _ _ rfl ?_); try simp only [thenA, inBlockA, noGotoA, if_true, Nat.reduceEqDiff, if_false, ↓reduceIte])
         | ((with_reducible first | refine awp_reg 41 hX [0, 1, 2, 6, 7, 8, 9, 10, 11, 30] ?_ | change postOf _ _ _ _ _); simp [-List.reduceReplicate, Nat.add_one_le_iff, -getElem?_pos, -getElem?_neg, u64C, iC, hlt, hwi, hw, c1, c2, IntKind.bits])
         | ((first | (with_reducible refine awp_ret ?_; try simp only [thenA, inBlockA, noGotoA])); try simp [-List.reduceReplicate, Nat.add_one_le_iff, -getElem?_pos, -getElem?_neg, u64C, iC, hlt, hwi, hw, c1, c2, IntKind.bits])
         | (with_reducible refine awp_if_b rfl (fun hc => ?_) (fun hc => ?_) <;> (try simp [-getElem?_pos, -getElem?_neg] at hc) <;> (try (exfalso; omega)))
         | ((with_reducible first | refine GuardK_b (fun hc => ?_) (fun hc => ?_)) <;> (try simp only [Bool.not_eq_true', Bool.not_eq_false', decide_eq_true_eq, decide_eq_false_iff_not] at hc) <;> (first | (exfalso; omega) | skip) <;> simp [-List.reduceReplicate, Nat.add_one_le_iff, -getElem?_pos, -getElem?_neg, u64C, iC, hlt, hwi, hw, c1, c2, IntKind.bits, hc])
         | (with_reducible refine And.intro (by omega) ?_)
         | fail)
        refine next _ _ (()) (by omega) (by first | trivial | omega | assumption) (by simp [-List.reduceReplicate, keep, u64C, iC, takeN, hz]) (by simp [-List.reduceReplicate, u64C, iC, takeN, hz])
    · have hz : byteI b at_ i = 0 := by unfold byteI; rw [if_neg (by omega)]
      repeat' (first 
       | (with_reducible first | refine awp_scope ?_ | refine awp_seq ?_ | refine awp_block ?_)
       | ((with_reducible first | refine awp_label ?_ | refine awp_skip ?_ | refine awp_exit ?_ | refine hother _ _ rfl ?_); try simp only [thenA, inBlockA, noGotoA, if_true, Nat.reduceEqDiff, if_false, ↓reduceIte])
       | ((with_reducible first | refine awp_reg 41 hX [0, 1, 2, 6, 7, 8, 9, 10, 11, 30] ?_ | change postOf _ _ _ _ _); simp [-List.reduceReplicate, Nat.add_one_le_iff, -getElem?_pos, -getElem?_neg, u64C, iC, hlt, hwi, hw, c1, IntKind.bits])
       | ((first | (with_reducible refine awp_ret ?_; try simp only [thenA, inBlockA, noGotoA])); try simp [-List.reduceReplicate, Nat.add_one_le_iff, -getElem?_pos, -getElem?_neg, u64C, iC, hlt, hwi, hw, c1, IntKind.bits])
       | (with_reducible refine awp_if_b rfl (fun hc => ?_) (fun hc => ?_) <;> (try simp [-getElem?_pos, -getElem?_neg] at hc) <;> (try (exfalso; omega)))
       | ((with_reducible first | refine GuardK_b (fun hc => ?_) (fun hc => ?_)) <;> (try simp only [Bool.not_eq_true', Bool.not_eq_false', decide_eq_true_eq, decide_eq_false_iff_not] at hc) <;> (first | (exfalso; omega) | skip) <;> simp [-List.reduceReplicate, Nat.add_one_le_iff, -getElem?_pos, -getElem?_neg, u64C, iC, hlt, hwi, hw, c1, IntKind.bits, hc])
       | (with_reducible refine And.intro (by omega) ?_)
       | fail)
      refine next _ _ (()) (by omega) (by first | trivial | omega | assumption) (by simp [-List.reduceReplicate, keep, u64C, iC, takeN, hz]) (by simp [-List.reduceReplicate, u64C, iC, takeN, hz])
  · have hin : i = n := by omega
    subst hin
    repeat' (first 
     | (with_reducible first | refine awp_scope ?_ | refine awp_seq ?_ | refine awp_block ?_)
     | ((with_reducible first | refine awp_label ?_ | refine awp_skip ?_ | refine awp_exit ?_ | refine hother _ _ rfl ?_); try simp only [thenA, inBlockA, noGotoA, if_true, Nat.reduceEqDiff, if_false, ↓reduceIte])
     | ((with_reducible first | refine awp_reg 41 hX [0, 1, 2, 6, 7, 8, 9, 10, 11, 30] ?_ | change postOf _ _ _ _ _); simp [-List.reduceReplicate, Nat.add_one_le_iff, -getElem?_pos, -getElem?_neg, u64C, iC, hlt])
     | ((first | (with_reducible refine awp_ret ?_; try simp only [thenA, inBlockA, noGotoA])); try simp [-List.reduceReplicate, Nat.add_one_le_iff, -getElem?_pos, -getElem?_neg, u64C, iC, hlt])
     | (with_reducible refine awp_if_b rfl (fun hc => ?_) (fun hc => ?_) <;> (try simp [-getElem?_pos, -getElem?_neg] at hc) <;> (try (exfalso; omega)))
     | ((with_reducible first | refine GuardK_b (fun hc => ?_) (fun hc => ?_)) <;> (try simp only [Bool.not_eq_true', Bool.not_eq_false', decide_eq_true_eq, decide_eq_false_iff_not] at hc) <;> (first | (exfalso; omega) | skip) <;> simp [-List.reduceReplicate, Nat.add_one_le_iff, -getElem?_pos, -getElem?_neg, u64C, iC, hlt, hc])
     | (with_reducible refine And.intro (by omega) ?_)
     | fail)
theorem take32_den (b : ByteArray) (at_ : Int) (hat : -9223372036854775808 ≤ at_ ∧ at_ ≤ 9223372036854775807) (hb : b.size ≤ 9223372036854775807) : DenV Tryz.prog 65 [.c (.v (.string b)), .c (iC at_)] (.c (u32C (takeN b at_ 4))) := by
  refine Den.frame rfl rfl ?_
  refine den_of Tryz.func65 rfl rfl (by simp [Tryz.ntmps65]) (fun X hX hO => ?_)
  rw [Tryz.ntmps65] at hX
  simp only [Tryz.results65]
  have h1 := takeN_lt b at_ 4
  have h := wrapU32 (takeN b at_ 4 : Int) (by omega)
  repeat' (first 
   | (with_reducible first | refine awp_scope ?_ | refine awp_seq ?_ | refine awp_block ?_)
   | ((with_reducible first | refine awp_label ?_ | refine awp_skip ?_ | refine awp_exit ?_); try simp only [thenA, inBlockA, noGotoA, if_true, Nat.reduceEqDiff, if_false, ↓reduceIte])
   | ((with_reducible first | refine awp_reg 9 hX [0, 1, 4] ?_ | change postOf _ _ _ _ _); simp [-List.reduceReplicate, Nat.add_one_le_iff, -getElem?_pos, -getElem?_neg, u32C, u64C, iC, h])
   | ((first | (with_reducible refine awp_ret ?_; try simp only [thenA, inBlockA, noGotoA]) | ((with_reducible refine Den.at_ (f := 107) ?_); refine (take_den b at_ 4 hat hb (by omega) _).det ?_)); try simp [-List.reduceReplicate, Nat.add_one_le_iff, -getElem?_pos, -getElem?_neg, u32C, u64C, iC, h])
   | (with_reducible refine awp_if_b rfl (fun hc => ?_) (fun hc => ?_) <;> (try simp [-getElem?_pos, -getElem?_neg] at hc) <;> (try (exfalso; omega)))
   | (with_reducible refine And.intro (by omega) ?_)
   | fail)
theorem take01_den (b : ByteArray) (at_ : Int) (n : Nat) (hat : -9223372036854775808 ≤ at_ ∧ at_ ≤ 9223372036854775807) (hb : b.size ≤ 9223372036854775807) (hn : n ≤ 8) : DenV Tryz.prog 73 [.c (.v (.string b)), .c (iC at_), .c (iC n)] (.c (u64C (takeN b at_ n))) := by
  refine Den.frame rfl rfl ?_
  refine den_of Tryz.func73 rfl rfl (by simp [Tryz.ntmps73]) (fun X hX hO => ?_)
  rw [Tryz.ntmps73] at hX
  simp only [Tryz.results73]
  repeat' (first 
   | (with_reducible first | refine awp_scope ?_ | refine awp_seq ?_ | refine awp_block ?_)
   | ((with_reducible first | refine awp_label ?_ | refine awp_skip ?_ | refine awp_exit ?_ | refine hother _ _ rfl ?_); try simp only [thenA, inBlockA, noGotoA, if_true, Nat.reduceEqDiff, if_false, ↓reduceIte])
   | ((with_reducible first | refine awp_reg 41 hX [0, 1, 2, 6, 7, 8, 11, 31] ?_ | change postOf _ _ _ _ _); simp [-List.reduceReplicate, Nat.add_one_le_iff, -getElem?_pos, -getElem?_neg, u64C, iC])
   | ((first | (with_reducible refine awp_ret ?_; try simp only [thenA, inBlockA, noGotoA])); try simp [-List.reduceReplicate, Nat.add_one_le_iff, -getElem?_pos, -getElem?_neg, u64C, iC])
   | (with_reducible refine awp_if_b rfl (fun hc => ?_) (fun hc => ?_) <;> (try simp [-getElem?_pos, -getElem?_neg] at hc) <;> (try (exfalso; omega)))
   | ((with_reducible first | refine GuardK_b (fun hc => ?_) (fun hc => ?_)) <;> (try simp only [Bool.not_eq_true', Bool.not_eq_false', decide_eq_true_eq, decide_eq_false_iff_not] at hc) <;> (first | (exfalso; omega) | skip) <;> simp [-List.reduceReplicate, Nat.add_one_le_iff, -getElem?_pos, -getElem?_neg, u64C, iC, hc])
   | (with_reducible refine And.intro (by omega) ?_)
   | fail)
  refine awp_forU [0, 1, 2, 7, 8] (fun i (_u : Unit) => [(7, .c (u64C (takeN b at_ i))), (8, .c (iC i))]) (fun i (_u : Unit) => []) (fun i (_u : Unit) => True) (n) (()) (by first | trivial | (simp; done) | omega | (intros; simp at *; done)) (by simp [-List.reduceReplicate, keep, u64C, iC, takeN]) (by simp [-List.reduceReplicate, u64C, iC, takeN]) ?_
  rintro i _u Q1 hi hH next hother
  conv => arg 5; arg 1; simp only [List.cons_append, List.nil_append, keep, get, Nat.reduceEqDiff, if_true, if_false, ↓reduceIte]
  have hwi := wrap_in ((i : Int) + 1) (by omega)
  by_cases hlt : i < n
  · have h1 := takeN_u64 b at_ i (by omega)
    have h2 := takeN_u64 b at_ (i + 1) (by omega)
    have hbl := byteI_lt b at_ i
    have hst : takeN b at_ (i + 1) = takeN b at_ i * 256 + byteI b at_ i := rfl
    have hw : IntKind.u64.wrap (((takeN b at_ i : Nat) : Int) * 256) = ((takeN b at_ i : Nat) : Int) * 256 := wrapU64 _ (by omega)
    have hor : IntKind.u64.wrap ((takeN b at_ i : Int) * 256 + (byteI b at_ i : Int)) = (takeN b at_ (i + 1) : Int) := (wrapU64 _ (by omega)).trans (by omega)
    by_cases c1 : 0 ≤ at_
    · by_cases c2 : at_ < b.size
      · have w1 := wrap_in ((b.size : Int) - at_) (by omega)
        by_cases c3 : (i : Int) < (b.size : Int) - at_
        · have hby : byteI b at_ i = (b.toList.getD (at_ + i).toNat 0).toNat := by unfold byteI; rw [if_pos ⟨c1, by omega⟩, toList_data]
          have w2 := wrap_in (at_ + (i : Int)) (by omega)
          have hbi : byteAt b (at_ + i).toNat = (byteI b at_ i : Int) := by unfold byteAt; rw [hby]
          have w3 := wrapU64 ((byteI b at_ i : Nat) : Int) (by omega)
          have c4 : 0 ≤ at_ + (i : Int) := by omega
          have c5 : at_ + (i : Int) < b.size := by omega
          repeat' (first 
           | (with_reducible first | refine awp_scope ?_ | refine awp_seq ?_ | refine awp_block ?_)
           | ((with_reducible first | refine awp_label ?_ | refine awp_skip ?_ | refine awp_exit ?_ | refine hother _ _ rfl ?_); try simp only [thenA, inBlockA, noGotoA, if_true, Nat.reduceEqDiff, if_false, ↓reduceIte])
           | ((with_reducible first | refine awp_reg 41 hX [0, 1, 2, 6, 7, 8, 11, 31] ?_ | change postOf _ _ _ _ _); simp [-List.reduceReplicate, Nat.add_one_le_iff, -getElem?_pos, -getElem?_neg, u64C, iC, hlt, hwi, hw, c1, c2, c3, c4, c5, w1, w2, w3, hbi, hor])
           | ((first | (with_reducible refine awp_ret ?_; try simp only [thenA, inBlockA, noGotoA])); try simp [-List.reduceReplicate, Nat.add_one_le_iff, -getElem?_pos, -getElem?_neg, u64C, iC, hlt, hwi, hw, c1, c2, c3, c4, c5, w1, w2, w3, hbi, hor])
           | (with_reducible refine awp_if_b rfl (fun hc => ?_) (fun hc => ?_) <;> (try simp [-getElem?_pos, -getElem?_neg] at hc) <;> (try (exfalso; omega)))
           | ((with_reducible first | refine GuardK_b (fun hc => ?_) (fun hc => ?_)) <;> (try simp only [Bool.not_eq_true', Bool.not_eq_false', decide_eq_true_eq, decide_eq_false_iff_not] at hc) <;> (first | (exfalso; omega) | skip) <;> simp [-List.reduceReplicate, Nat.add_one_le_iff, -getElem?_pos, -getElem?_neg, u64C, iC, hlt, hwi, hw, c1, c2, c3, c4, c5, w1, w2, w3, hbi, hor, hc])
           | (with_reducible refine And.intro (by omega) ?_)
           | fail)
          refine next _ _ (()) (by omega) (by first | trivial | omega | assumption) (by simp [-List.reduceReplicate, keep, u64C, iC]) (by simp [-List.reduceReplicate, u64C, iC])
        · have hz : byteI b at_ i = 0 := by unfold byteI; rw [if_neg (by omega)]
          repeat' (first 
           | (with_reducible first | refine awp_scope ?_ | refine awp_seq ?_ | refine awp_block ?_)
           | ((with_reducible first | refine awp_label ?_ | refine awp_skip ?_ | refine awp_exit ?_ | refine hother _ _ rfl ?_); try simp only [thenA, inBlockA, noGotoA, if_true, Nat.reduceEqDiff, if_false, ↓reduceIte])
           | ((with_reducible first | refine awp_reg 41 hX [0, 1, 2, 6, 7, 8, 11, 31] ?_ | change postOf _ _ _ _ _); simp [-List.reduceReplicate, Nat.add_one_le_iff, -getElem?_pos, -getElem?_neg, u64C, iC, hlt, hwi, hw, c1, c2, c3, w1])
           | ((first | (with_reducible refine awp_ret ?_; try simp only [thenA, inBlockA, noGotoA])); try simp [-List.reduceReplicate, Nat.add_one_le_iff, -getElem?_pos, -getElem?_neg, u64C, iC, hlt, hwi, hw, c1, c2, c3, w1])
           | (with_reducible refine awp_if_b rfl (fun hc => ?_) (fun hc => ?_) <;> (try simp [-getElem?_pos, -getElem?_neg] at hc) <;> (try (exfalso; omega)))
           | ((with_reducible first | refine GuardK_b (fun hc => ?_) (fun hc => ?_)) <;> (try simp only [Bool.not_eq_true', Bool.not_eq_false', decide_eq_true_eq, decide_eq_false_iff_not] at hc) <;> (first | (exfalso; omega) | skip) <;> simp [-List.reduceReplicate, Nat.add_one_le_iff, -getElem?_pos, -getElem?_neg, u64C, iC, hlt, hwi, hw, c1, c2, c3, w1, hc])
           | (with_reducible refine And.intro (by omega) ?_)
           | fail)
          refine next _ _ (()) (by omega) (by first | trivial | omega | assumption) (by simp [-List.reduceReplicate, keep, u64C, iC, takeN, hz]) (by simp [-List.reduceReplicate, u64C, iC, takeN, hz])
      · have hz : byteI b at_ i = 0 := by unfold byteI; rw [if_neg (by omega)]
        repeat' (first 
         | (with_reducible first | refine awp_scope ?_ | refine awp_seq ?_ | refine awp_block ?_)
         | ((with_reducible first | refine awp_label ?_ | refine awp_skip ?_ | refine awp_exit ?_ | refine hother _ _ rfl ?_); try simp only [thenA, inBlockA, noGotoA, if_true, Nat.reduceEqDiff, if_false, ↓reduceIte])
         | ((with_reducible first | refine awp_reg 41 hX [0, 1, 2, 6, 7, 8, 11, 31] ?_ | change postOf _ _ _ _ _); simp [-List.reduceReplicate, Nat.add_one_le_iff, -getElem?_pos, -getElem?_neg, u64C, iC, hlt, hwi, hw, c1, c2])
         | ((first | (with_reducible refine awp_ret ?_; try simp only [thenA, inBlockA, noGotoA])); try simp [-List.reduceReplicate, Nat.add_one_le_iff, -getElem?_pos, -getElem?_neg, u64C, iC, hlt, hwi, hw, c1, c2])
         | (with_reducible refine awp_if_b rfl (fun hc => ?_) (fun hc => ?_) <;> (try simp [-getElem?_pos, -getElem?_neg] at hc) <;> (try (exfalso; omega)))
         | ((with_reducible first | refine GuardK_b (fun hc => ?_) (fun hc => ?_)) <;> (try simp only [Bool.not_eq_true', Bool.not_eq_false', decide_eq_true_eq, decide_eq_false_iff_not] at hc) <;> (first | (exfalso; omega) | skip) <;> simp [-List.reduceReplicate, Nat.add_one_le_iff, -getElem?_pos, -getElem?_neg, u64C, iC, hlt, hwi, hw, c1, c2, hc])
         | (with_reducible refine And.intro (by omega) ?_)
         | fail)
        refine next _ _ (()) (by omega) (by first | trivial | omega | assumption) (by simp [-List.reduceReplicate, keep, u64C, iC, takeN, hz]) (by simp [-List.reduceReplicate, u64C, iC, takeN, hz])
    · have hz : byteI b at_ i = 0 := by unfold byteI; rw [if_neg (by omega)]
      repeat' (first 
       | (with_reducible first | refine awp_scope ?_ | refine awp_seq ?_ | refine awp_block ?_)
       | ((with_reducible first | refine awp_label ?_ | refine awp_skip ?_ | refine awp_exit ?_ | refine hother _ _ rfl ?_); try simp only [thenA, inBlockA, noGotoA, if_true, Nat.reduceEqDiff, if_false, ↓reduceIte])
       | ((with_reducible first | refine awp_reg 41 hX [0, 1, 2, 6, 7, 8, 11, 31] ?_ | change postOf _ _ _ _ _); simp [-List.reduceReplicate, Nat.add_one_le_iff, -getElem?_pos, -getElem?_neg, u64C, iC, hlt, hwi, hw, c1])
       | ((first | (with_reducible refine awp_ret ?_; try simp only [thenA, inBlockA, noGotoA])); try simp [-List.reduceReplicate, Nat.add_one_le_iff, -getElem?_pos, -getElem?_neg, u64C, iC, hlt, hwi, hw, c1])
       | (with_reducible refine awp_if_b rfl (fun hc => ?_) (fun hc => ?_) <;> (try simp [-getElem?_pos, -getElem?_neg] at hc) <;> (try (exfalso; omega)))
       | ((with_reducible first | refine GuardK_b (fun hc => ?_) (fun hc => ?_)) <;> (try simp only [Bool.not_eq_true', Bool.not_eq_false', decide_eq_true_eq, decide_eq_false_iff_not] at hc) <;> (first | (exfalso; omega) | skip) <;> simp [-List.reduceReplicate, Nat.add_one_le_iff, -getElem?_pos, -getElem?_neg, u64C, iC, hlt, hwi, hw, c1, hc])
       | (with_reducible refine And.intro (by omega) ?_)
       | fail)
      refine next _ _ (()) (by omega) (by first | trivial | omega | assumption) (by simp [-List.reduceReplicate, keep, u64C, iC, takeN, hz]) (by simp [-List.reduceReplicate, u64C, iC, takeN, hz])
  · have hin : i = n := by omega
    subst hin
    repeat' (first 
     | (with_reducible first | refine awp_scope ?_ | refine awp_seq ?_ | refine awp_block ?_)
     | ((with_reducible first | refine awp_label ?_ | refine awp_skip ?_ | refine awp_exit ?_ | refine hother _ _ rfl ?_); try simp only [thenA, inBlockA, noGotoA, if_true, Nat.reduceEqDiff, if_false, ↓reduceIte])
     | ((with_reducible first | refine awp_reg 41 hX [0, 1, 2, 6, 7, 8, 11, 31] ?_ | change postOf _ _ _ _ _); simp [-List.reduceReplicate, Nat.add_one_le_iff, -getElem?_pos, -getElem?_neg, u64C, iC, hlt])
     | ((first | (with_reducible refine awp_ret ?_; try simp only [thenA, inBlockA, noGotoA])); try simp [-List.reduceReplicate, Nat.add_one_le_iff, -getElem?_pos, -getElem?_neg, u64C, iC, hlt])
     | (with_reducible refine awp_if_b rfl (fun hc => ?_) (fun hc => ?_) <;> (try simp [-getElem?_pos, -getElem?_neg] at hc) <;> (try (exfalso; omega)))
     | ((with_reducible first | refine GuardK_b (fun hc => ?_) (fun hc => ?_)) <;> (try simp only [Bool.not_eq_true', Bool.not_eq_false', decide_eq_true_eq, decide_eq_false_iff_not] at hc) <;> (first | (exfalso; omega) | skip) <;> simp [-List.reduceReplicate, Nat.add_one_le_iff, -getElem?_pos, -getElem?_neg, u64C, iC, hlt, hc])
     | (with_reducible refine And.intro (by omega) ?_)
     | fail)
end Go.Av

set_option exponentiation.threshold 1000
set_option linter.unusedVariables false
set_option linter.unusedSimpArgs false
set_option maxRecDepth 100000
set_option maxHeartbeats 4000000
namespace Go.Av
open Go Go.Proofs Go.Proofs.YtpcnacknlgmmlaaGreat Go.RowKit
attribute [local simp] List.getElem?_cons_zero List.getElem?_cons_succ
/-! ### sha: words -/
abbrev W := BitVec 32
def rotr (x : W) (n : Nat) : W := (x >>> n) ||| (x <<< (32 - n))
theorem rot_den (x : W) (n : Nat) (hn : n < 32) : DenV Tryz.prog 175 [.c (wC x), .c (iC n)] (.c (wC (rotr x n))) := by
  refine Den.frame rfl rfl ?_
  refine den_of Tryz.func175 rfl rfl (by simp [Tryz.ntmps175]) (fun X hX hO => ?_)
  rw [Tryz.ntmps175] at hX
  simp only [Tryz.results175]
  have h1 := wrapU64 (n : Int) (by omega)
  have h2 := andN .u64 n 31 (by show n < 2 ^ 64; omega) (by decide) (fun h => by simp [IntKind.signed] at h)
  have h3 : n &&& 31 = n := by
    have := Nat.and_two_pow_sub_one_eq_mod n 5
    simp at this
    rw [this]
    omega
  rw [h3] at h2
  have h4 : IntKind.u64.wrap (32 - (n : Int)) = ((32 - n : Nat) : Int) := (wrapU64 _ (by omega)).trans (by omega)
  have h5 : min n 32 = n := by omega
  have h6 : min (32 - n) 32 = 32 - n := by omega
  have h10 : ¬ ((32 - n : Nat) : Int) < 0 := by omega
  have h11 : ¬ (n : Int) < 0 := by omega
  have hr : rotr x n = (x >>> n) ||| (x <<< (32 - n)) := rfl
  generalize hk : 32 - n = k at *
  have h2' : andI IntKind.u64 (n : Int) 31 = (n : Int) := h2
  repeat' (first 
   | (with_reducible first | refine awp_scope ?_ | refine awp_seq ?_ | refine awp_block ?_)
   | ((with_reducible first | refine awp_label ?_ | refine awp_skip ?_ | refine awp_exit ?_); try simp only [thenA, inBlockA, noGotoA, if_true, Nat.reduceEqDiff, if_false, ↓reduceIte])
   | ((with_reducible first | refine awp_reg 17 hX [0, 1, 4, 5] ?_ | change postOf _ _ _ _ _); simp [-List.reduceReplicate, Nat.add_one_le_iff, -getElem?_pos, -getElem?_neg, wC, iC, h1, h2', h4, h5, h6, wI_shr, wI_shr', wI_shl, wI_or, h10, h11, IntKind.bits, hr])
   | ((first | (with_reducible refine awp_ret ?_; try simp only [thenA, inBlockA, noGotoA])); try simp [-List.reduceReplicate, Nat.add_one_le_iff, -getElem?_pos, -getElem?_neg, wC, iC, h1, h2', h4, h5, h6, wI_shr, wI_shr', wI_shl, wI_or, h10, h11, IntKind.bits, hr])
   | (with_reducible refine awp_if_b rfl (fun hc => ?_) (fun hc => ?_) <;> (try simp [-getElem?_pos, -getElem?_neg] at hc) <;> (try (exfalso; omega)))
   | (with_reducible refine And.intro (by omega) ?_)
   | fail)
theorem rotr_add (x : W) (n : Nat) (h0 : 0 < n) (h : n < 32) : x >>> n + x <<< (32 - n) = rotr x n := by
  unfold rotr
  refine BitVec.add_eq_or_of_and_eq_zero _ _ ?_
  apply BitVec.eq_of_getLsbD_eq
  intro i hi
  simp
  intro h1 h2
  have := BitVec.lt_of_getLsbD h1
  omega
theorem turn_den (x : W) (n : Nat) (h0 : 0 < n) (hn : n < 32) : DenV Tryz.prog 153 [.c (wC x), .c (.v (.int .u64 (n : Int)))] (.c (wC (rotr x n))) := by
  refine Den.frame rfl rfl ?_
  refine den_of Tryz.func153 rfl rfl (by simp [Tryz.ntmps153]) (fun X hX hO => ?_)
  rw [Tryz.ntmps153] at hX
  simp only [Tryz.results153]
  have h4 : IntKind.u64.wrap (32 - (n : Int)) = ((32 - n : Nat) : Int) := (wrapU64 _ (by omega)).trans (by omega)
  have h5 : min n 32 = n := by omega
  have h6 : min (32 - n) 32 = 32 - n := by omega
  have h9 := rotr_add x n h0 hn
  have h10 : ¬ ((32 - n : Nat) : Int) < 0 := by omega
  have h11 : ¬ (n : Int) < 0 := by omega
  generalize hk : 32 - n = k at *
  repeat' (first 
   | (with_reducible first | refine awp_scope ?_ | refine awp_seq ?_ | refine awp_block ?_)
   | ((with_reducible first | refine awp_label ?_ | refine awp_skip ?_ | refine awp_exit ?_); try simp only [thenA, inBlockA, noGotoA, if_true, Nat.reduceEqDiff, if_false, ↓reduceIte])
   | ((with_reducible first | refine awp_reg 13 hX [0, 1, 4] ?_ | change postOf _ _ _ _ _); simp [-List.reduceReplicate, Nat.add_one_le_iff, -getElem?_pos, -getElem?_neg, wC, h4, h5, h6, wI_shr, wI_shr', wI_shl, wI_add, h9, h10, h11, IntKind.bits])
   | ((first | (with_reducible refine awp_ret ?_; try simp only [thenA, inBlockA, noGotoA])); try simp [-List.reduceReplicate, Nat.add_one_le_iff, -getElem?_pos, -getElem?_neg, wC, h4, h5, h6, wI_shr, wI_shr', wI_shl, wI_add, h9, h10, h11, IntKind.bits])
   | (with_reducible refine awp_if_b rfl (fun hc => ?_) (fun hc => ?_) <;> (try simp [-getElem?_pos, -getElem?_neg] at hc) <;> (try (exfalso; omega)))
   | (with_reducible refine And.intro (by omega) ?_)
   | fail)
def g0 (x : W) : W := rotr x 7 ^^^ rotr x 18 ^^^ (x >>> 3)
def g1 (x : W) : W := rotr x 17 ^^^ rotr x 19 ^^^ (x >>> 10)
def spStep (b : ByteArray) (l : List W) : W :=
  if l.length < 16 then BitVec.ofNat 32 (takeN b (4 * l.length : Nat) 4) else l.getD (l.length - 16) 0 + g0 (l.getD (l.length - 15) 0) + l.getD (l.length - 7) 0 + g1 (l.getD (l.length - 2) 0)
def spTo (b : ByteArray) : Nat → List W
  | 0 => []
  | n + 1 => spTo b n ++ [spStep b (spTo b n)]
theorem spTo_len (b : ByteArray) (n : Nat) : (spTo b n).length = n := by
  induction n with
  | zero => rfl
  | succ n ih => rw [spTo, List.length_append, ih]; rfl
def spread (b : ByteArray) : List W := spTo b 64
/-- The row as it is filled. -/
def spRow (b : ByteArray) (i : Nat) : List C := ((spTo b i) ++ List.replicate (64 - i) 0).map wC
theorem spRow_len (b : ByteArray) (i : Nat) (h : i ≤ 64) : (spRow b i).length = 64 := by simp [spRow, spTo_len]; omega
theorem spRow_get (b : ByteArray) (i j : Nat) (h : j < i) : (spRow b i)[j]? = some (wC ((spTo b i).getD j 0)) := by
  have hl := spTo_len b i
  unfold spRow
  rw [List.getElem?_map, List.getElem?_append_left (by omega), List.getD_eq_getElem?_getD, List.getElem?_eq_getElem (by omega)]
  rfl
theorem spRow_set (b : ByteArray) (i : Nat) (h : i < 64) : (spRow b i).set i (wC (spStep b (spTo b i))) = spRow b (i + 1) := by
  have hl := spTo_len b i
  unfold spRow
  rw [← List.map_set, show 64 - i = (64 - (i + 1)) + 1 by omega, List.replicate_succ, List.set_append_right _ _ (by omega), hl, show i - i = 0 by omega, spTo]
  simp
theorem spRow_zero (b : ByteArray) : List.replicate 64 (C.v (.int .u32 0)) = spRow b 0 := by
  unfold spRow
  rw [spTo, List.nil_append, List.map_replicate]
  rfl
theorem fd8 (x : W) : (wI x).fdiv 8 = wI (x >>> 3) := wI_shr x 3
theorem fd1024 (x : W) : (wI x).fdiv 1024 = wI (x >>> 10) := wI_shr x 10
theorem ofNat32 (n : Nat) (h : n < 4294967296) : ((BitVec.ofNat 32 n).toNat : Int) = (n : Int) := by rw [BitVec.toNat_ofNat]; omega
theorem take4_lt (b : ByteArray) (a : Int) : takeN b a 4 < 4294967296 := by have := takeN_lt b a 4; omega
theorem spread_den (b : ByteArray) (hb : b.size ≤ 9223372036854775807) : DenV Tryz.prog 173 [.c (.v (.string b))] (.agg (up ((spread b).map wC))) := by
  refine Den.frame rfl (by simp [ltB]) ?_
  refine den_of Tryz.func173 rfl rfl (by simp [Tryz.ntmps173]) (fun X hX hO => ?_)
  rw [Tryz.ntmps173] at hX
  simp only [Tryz.results173]
  repeat' (first 
   | (with_reducible first | refine awp_scope ?_ | refine awp_seq ?_ | refine awp_block ?_)
   | ((with_reducible first | refine awp_label ?_ | refine awp_skip ?_ | refine awp_exit ?_ | refine hother _ _ rfl ?_); try simp only [thenA, inBlockA, noGotoA, if_true, Nat.reduceEqDiff, if_false, ↓reduceIte])
   | ((with_reducible first | refine awp_reg 61 hX [0, 2, 3, 4, 5, 6, 7, 8, 9, 10, 13] ?_ | refine awp_drw 61 hX [0, 2, 3, 4, 5, 6, 7, 8, 9, 10, 13] Tab.mixed (by kernel_rfl) ?_ | refine DEv_cut _ _ _ _ _ _ _ _ _ _ _ _ (by kernel_rfl) ?_ | change postOf _ _ _ _ _); simp [-List.reduceReplicate, Nat.add_one_le_iff, -getElem?_pos, -getElem?_neg, spRow_zero b])
   | ((first | (with_reducible refine awp_ret ?_; try simp only [thenA, inBlockA, noGotoA])); try simp [-List.reduceReplicate, Nat.add_one_le_iff, -getElem?_pos, -getElem?_neg, spRow_zero b])
   | (with_reducible refine awp_if_b rfl (fun hc => ?_) (fun hc => ?_) <;> (try simp [-getElem?_pos, -getElem?_neg] at hc) <;> (try (exfalso; omega)))
   | (with_reducible refine And.intro (by omega) ?_)
   | fail)
  refine awp_forU [0, 2, 3, 9] (fun i (_u : Unit) => [(9, .c (iC i))]) (fun i (_u : Unit) => [⟨194, 1, false, 0, up (List.replicate 64 (.v (.int .u32 0))), none⟩, ⟨194, 1, false, 0, up (spRow b i), none⟩]) (fun i (_u : Unit) => True) (64) (()) (by first | trivial | (simp; done) | omega | (intros; simp at *; done)) (by simp [-List.reduceReplicate, keep, iC, spRow_zero b]) (by simp [-List.reduceReplicate, iC, spRow_zero b]) ?_
  rintro i _u Q1 hi hH next hother
  conv => arg 5; arg 1; simp only [List.cons_append, List.nil_append, keep, get, Nat.reduceEqDiff, if_true, if_false, ↓reduceIte]
  have hwi := wrap_in ((i : Int) + 1) (by omega)
  have hlen := spRow_len b i hi
  by_cases hlt : i < 64
  · have hset := spRow_set b i hlt
    have hl := spTo_len b i
    by_cases h16 : i < 16
    · have hw4 := wrap_in (4 * (i : Int)) (by omega)
      have hst : spStep b (spTo b i) = BitVec.ofNat 32 (takeN b (4 * (i : Int)) 4) := by unfold spStep; rw [hl, if_pos h16, Int.natCast_mul]; rfl
      have hx : wC (spStep b (spTo b i)) = .v (.int .u32 (takeN b (4 * (i : Int)) 4 : Int)) := by unfold wC wI; rw [hst, ofNat32 _ (take4_lt _ _)]
      rw [hx] at hset
      generalize spRow b i = r0 at *
      repeat' (first 
       | (with_reducible first | refine awp_scope ?_ | refine awp_seq ?_ | refine awp_block ?_)
       | ((with_reducible first | refine awp_label ?_ | refine awp_skip ?_ | refine awp_exit ?_ | refine hother _ _ rfl ?_); try simp only [thenA, inBlockA, noGotoA, if_true, Nat.reduceEqDiff, if_false, ↓reduceIte])
       | ((with_reducible first | refine awp_reg 61 hX [0, 2, 3, 4, 5, 6, 7, 8, 9, 10, 13] ?_ | refine awp_drw 61 hX [0, 2, 3, 4, 5, 6, 7, 8, 9, 10, 13] Tab.mixed (by kernel_rfl) ?_ | refine DEv_cut _ _ _ _ _ _ _ _ _ _ _ _ (by kernel_rfl) ?_ | change postOf _ _ _ _ _); simp [-List.reduceReplicate, Nat.add_one_le_iff, -getElem?_pos, -getElem?_neg, iC, hlt, h16, hwi, hw4, u32C, hlen])
       | ((first | (with_reducible refine awp_ret ?_; try simp only [thenA, inBlockA, noGotoA]) | ((with_reducible refine Den.at_ (f := 65) ?_); refine (take32_den b (4 * (i : Int)) (by omega) hb _).det ?_) | ((with_reducible refine drawn_at (f := 65) ?_); refine ⟨_, _, take32_den b (4 * (i : Int)) (by omega) hb _, fun _ => rfl, ?_⟩)); try simp [-List.reduceReplicate, Nat.add_one_le_iff, -getElem?_pos, -getElem?_neg, iC, hlt, h16, hwi, hw4, u32C, hlen])
       | (with_reducible refine awp_if_b rfl (fun hc => ?_) (fun hc => ?_) <;> (try simp [-getElem?_pos, -getElem?_neg] at hc) <;> (try (exfalso; omega)))
       | (with_reducible refine And.intro (by omega) ?_)
       | fail)
      refine next _ _ (()) (by omega) (by first | trivial | omega | assumption) (by simp [-List.reduceReplicate, keep, iC, ← hset]) (by simp [-List.reduceReplicate, iC, ← hset])
    · have i1 := wrap_in ((i : Int) - 15) (by omega)
      have i2 := wrap_in ((i : Int) - 2) (by omega)
      have i3 := wrap_in ((i : Int) - 16) (by omega)
      have i4 := wrap_in ((i : Int) - 7) (by omega)
      have j1 : ((i : Int) - 15).toNat = i - 15 := by omega
      have j2 : ((i : Int) - 2).toNat = i - 2 := by omega
      have j3 : ((i : Int) - 16).toNat = i - 16 := by omega
      have j4 : ((i : Int) - 7).toNat = i - 7 := by omega
      have k1 : 15 ≤ (i : Int) := by omega
      have k2 : 2 ≤ (i : Int) := by omega
      have k3 : 16 ≤ (i : Int) := by omega
      have k4 : 7 ≤ (i : Int) := by omega
      have m1 : (i : Int) - 15 < 64 := by omega
      have m2 : (i : Int) - 2 < 64 := by omega
      have m3 : (i : Int) - 16 < 64 := by omega
      have m4 : (i : Int) - 7 < 64 := by omega
      have n1 := spRow_get b i (i - 15) (by omega)
      have n2 := spRow_get b i (i - 2) (by omega)
      have n3 := spRow_get b i (i - 16) (by omega)
      have n4 := spRow_get b i (i - 7) (by omega)
      have hst : spStep b (spTo b i) = (spTo b i).getD (i - 16) 0 + g0 ((spTo b i).getD (i - 15) 0) + (spTo b i).getD (i - 7) 0 + g1 ((spTo b i).getD (i - 2) 0) := by unfold spStep; rw [hl, if_neg h16]
      rw [hst] at hset
      unfold g0 g1 at hset
      generalize (spTo b i).getD (i - 16) 0 = x16 at *
      generalize (spTo b i).getD (i - 15) 0 = x15 at *
      generalize (spTo b i).getD (i - 7) 0 = x7 at *
      generalize (spTo b i).getD (i - 2) 0 = x2 at *
      generalize spRow b i = r0 at *
      repeat' (first 
       | (with_reducible first | refine awp_scope ?_ | refine awp_seq ?_ | refine awp_block ?_)
       | ((with_reducible first | refine awp_label ?_ | refine awp_skip ?_ | refine awp_exit ?_ | refine hother _ _ rfl ?_); try simp only [thenA, inBlockA, noGotoA, if_true, Nat.reduceEqDiff, if_false, ↓reduceIte])
       | ((with_reducible first | refine awp_reg 61 hX [0, 2, 3, 4, 5, 6, 7, 8, 9, 10, 13] ?_ | refine awp_drw 61 hX [0, 2, 3, 4, 5, 6, 7, 8, 9, 10, 13] Tab.mixed (by kernel_rfl) ?_ | refine DEv_cut _ _ _ _ _ _ _ _ _ _ _ _ (by kernel_rfl) ?_ | change postOf _ _ _ _ _); simp [-List.reduceReplicate, Nat.add_one_le_iff, -getElem?_pos, -getElem?_neg, iC, hlt, h16, hwi, i1, i2, i3, i4, j1, j2, j3, j4, k1, k2, k3, k4, m1, m2, m3, m4, n1, n2, n3, n4, hlen, wC, wI_shr, wI_shr', wI_xor, wI_add, fd8, fd1024, IntKind.bits])
       | ((first | (with_reducible refine awp_ret ?_; try simp only [thenA, inBlockA, noGotoA]) | ((with_reducible refine Den.at_ (f := 175) ?_); refine (rot_den _ 7 (by omega) _).det ?_) | ((with_reducible refine drawn_at (f := 175) ?_); refine ⟨_, _, rot_den _ 7 (by omega) _, fun _ => rfl, ?_⟩) | ((with_reducible refine Den.at_ (f := 175) ?_); refine (rot_den _ 18 (by omega) _).det ?_) | ((with_reducible refine drawn_at (f := 175) ?_); refine ⟨_, _, rot_den _ 18 (by omega) _, fun _ => rfl, ?_⟩) | ((with_reducible refine Den.at_ (f := 175) ?_); refine (rot_den _ 17 (by omega) _).det ?_) | ((with_reducible refine drawn_at (f := 175) ?_); refine ⟨_, _, rot_den _ 17 (by omega) _, fun _ => rfl, ?_⟩) | ((with_reducible refine Den.at_ (f := 175) ?_); refine (rot_den _ 19 (by omega) _).det ?_) | ((with_reducible refine drawn_at (f := 175) ?_); refine ⟨_, _, rot_den _ 19 (by omega) _, fun _ => rfl, ?_⟩)); try simp [-List.reduceReplicate, Nat.add_one_le_iff, -getElem?_pos, -getElem?_neg, iC, hlt, h16, hwi, i1, i2, i3, i4, j1, j2, j3, j4, k1, k2, k3, k4, m1, m2, m3, m4, n1, n2, n3, n4, hlen, wC, wI_shr, wI_shr', wI_xor, wI_add, fd8, fd1024, IntKind.bits])
       | (with_reducible refine awp_if_b rfl (fun hc => ?_) (fun hc => ?_) <;> (try simp [-getElem?_pos, -getElem?_neg] at hc) <;> (try (exfalso; omega)))
       | (with_reducible refine And.intro (by omega) ?_)
       | fail)
      refine next _ _ (()) (by omega) (by first | trivial | omega | assumption) (by simp [-List.reduceReplicate, keep, iC, ← hset, wC]) (by simp [-List.reduceReplicate, iC, ← hset, wC])
  · have h64 : i = 64 := by omega
    subst h64
    have hfin : spRow b 64 = (spread b).map wC := by unfold spRow spread; simp
    rw [hfin] at hlen
    have htk : ((spread b).map wC).take 64 = (spread b).map wC := List.take_of_length_le (by omega)
    rw [hfin]
    repeat' (first 
     | (with_reducible first | refine awp_scope ?_ | refine awp_seq ?_ | refine awp_block ?_)
     | ((with_reducible first | refine awp_label ?_ | refine awp_skip ?_ | refine awp_exit ?_ | refine hother _ _ rfl ?_); try simp only [thenA, inBlockA, noGotoA, if_true, Nat.reduceEqDiff, if_false, ↓reduceIte])
     | ((with_reducible first | refine awp_reg 61 hX [0, 2, 3, 4, 5, 6, 7, 8, 9, 10, 13] ?_ | refine awp_drw 61 hX [0, 2, 3, 4, 5, 6, 7, 8, 9, 10, 13] Tab.mixed (by kernel_rfl) ?_ | refine DEv_cut _ _ _ _ _ _ _ _ _ _ _ _ (by kernel_rfl) ?_ | change postOf _ _ _ _ _); simp [-List.reduceReplicate, Nat.add_one_le_iff, -getElem?_pos, -getElem?_neg, iC, hlen, htk])
     | ((first | (with_reducible refine awp_ret ?_; try simp only [thenA, inBlockA, noGotoA])); try simp [-List.reduceReplicate, Nat.add_one_le_iff, -getElem?_pos, -getElem?_neg, iC, hlen, htk])
     | (with_reducible refine awp_if_b rfl (fun hc => ?_) (fun hc => ?_) <;> (try simp [-getElem?_pos, -getElem?_neg] at hc) <;> (try (exfalso; omega)))
     | (with_reducible refine And.intro (by omega) ?_)
     | fail)
theorem spread02_den (b : ByteArray) (hb : b.size ≤ 9223372036854775807) : DenV Tryz.prog 152 [.c (.v (.string b))] (.agg (up ((spread b).map wC))) := by
  refine Den.frame rfl (by simp [ltB]) ?_
  refine den_of Tryz.func152 rfl rfl (by simp [Tryz.ntmps152]) (fun X hX hO => ?_)
  rw [Tryz.ntmps152] at hX
  simp only [Tryz.results152]
  repeat' (first 
   | (with_reducible first | refine awp_scope ?_ | refine awp_seq ?_ | refine awp_block ?_)
   | ((with_reducible first | refine awp_label ?_ | refine awp_skip ?_ | refine awp_exit ?_ | refine hother _ _ rfl ?_); try simp only [thenA, inBlockA, noGotoA, if_true, Nat.reduceEqDiff, if_false, ↓reduceIte])
   | ((with_reducible first | refine awp_reg 61 hX [0, 2, 3, 4, 5, 6, 7, 9, 20] ?_ | refine awp_drw 61 hX [0, 2, 3, 4, 5, 6, 7, 9, 20] Tab.mixed (by kernel_rfl) ?_ | refine DEv_cut _ _ _ _ _ _ _ _ _ _ _ _ (by kernel_rfl) ?_ | change postOf _ _ _ _ _); simp [-List.reduceReplicate, Nat.add_one_le_iff, -getElem?_pos, -getElem?_neg, spRow_zero b])
   | ((first | (with_reducible refine awp_ret ?_; try simp only [thenA, inBlockA, noGotoA])); try simp [-List.reduceReplicate, Nat.add_one_le_iff, -getElem?_pos, -getElem?_neg, spRow_zero b])
   | (with_reducible refine awp_if_b rfl (fun hc => ?_) (fun hc => ?_) <;> (try simp [-getElem?_pos, -getElem?_neg] at hc) <;> (try (exfalso; omega)))
   | (with_reducible refine And.intro (by omega) ?_)
   | fail)
  refine awp_forU [0, 2, 3, 4] (fun i (_u : Unit) => [(4, .c (iC i))]) (fun i (_u : Unit) => [⟨194, 1, false, 0, up (List.replicate 64 (.v (.int .u32 0))), none⟩, ⟨194, 1, false, 0, up (spRow b i), none⟩]) (fun i (_u : Unit) => True) (16) (()) (by first | trivial | (simp; done) | omega | (intros; simp at *; done)) (by simp [-List.reduceReplicate, keep, iC, spRow_zero b]) (by simp [-List.reduceReplicate, iC, spRow_zero b]) ?_
  rintro i _u Q1 hi hH next hother
  conv => arg 5; arg 1; simp only [List.cons_append, List.nil_append, keep, get, Nat.reduceEqDiff, if_true, if_false, ↓reduceIte]
  have hwi := wrap_in ((i : Int) + 1) (by omega)
  have hlen := spRow_len b i (by omega)
  by_cases hlt : i < 16
  · have hset := spRow_set b i (by omega)
    have hl := spTo_len b i
    have hw4 := wrap_in (4 * (i : Int)) (by omega)
    have hst : spStep b (spTo b i) = BitVec.ofNat 32 (takeN b (4 * (i : Int)) 4) := by unfold spStep; rw [hl, if_pos hlt, Int.natCast_mul]; rfl
    have ht4 := take4_lt b (4 * (i : Int))
    have hx : wC (spStep b (spTo b i)) = .v (.int .u32 (takeN b (4 * (i : Int)) 4 : Int)) := by unfold wC wI; rw [hst, ofNat32 _ ht4]
    have hm := wrapU32 (takeN b (4 * (i : Int)) 4 : Int) (by omega)
    have h64 : (i : Int) < 64 := by omega
    have h64' : i < 64 := by omega
    rw [hx] at hset
    generalize spRow b i = r0 at *
    repeat' (first 
     | (with_reducible first | refine awp_scope ?_ | refine awp_seq ?_ | refine awp_block ?_)
     | ((with_reducible first | refine awp_label ?_ | refine awp_skip ?_ | refine awp_exit ?_ | refine hother _ _ rfl ?_); try simp only [thenA, inBlockA, noGotoA, if_true, Nat.reduceEqDiff, if_false, ↓reduceIte])
     | ((with_reducible first | refine awp_reg 61 hX [0, 2, 3, 4, 5, 6, 7, 9, 20] ?_ | refine awp_drw 61 hX [0, 2, 3, 4, 5, 6, 7, 9, 20] Tab.mixed (by kernel_rfl) ?_ | refine DEv_cut _ _ _ _ _ _ _ _ _ _ _ _ (by kernel_rfl) ?_ | change postOf _ _ _ _ _); simp [-List.reduceReplicate, Nat.add_one_le_iff, -getElem?_pos, -getElem?_neg, iC, hlt, h64, h64', hwi, hw4, u64C, hlen, hm])
     | ((first | (with_reducible refine awp_ret ?_; try simp only [thenA, inBlockA, noGotoA]) | ((with_reducible refine Den.at_ (f := 73) ?_); refine (take01_den b (4 * (i : Int)) 4 (by omega) hb (by omega) _).det ?_) | ((with_reducible refine drawn_at (f := 73) ?_); refine ⟨_, _, take01_den b (4 * (i : Int)) 4 (by omega) hb (by omega) _, fun _ => rfl, ?_⟩)); try simp [-List.reduceReplicate, Nat.add_one_le_iff, -getElem?_pos, -getElem?_neg, iC, hlt, h64, h64', hwi, hw4, u64C, hlen, hm])
     | (with_reducible refine awp_if_b rfl (fun hc => ?_) (fun hc => ?_) <;> (try simp [-getElem?_pos, -getElem?_neg] at hc) <;> (try (exfalso; omega)))
     | (with_reducible refine And.intro (by omega) ?_)
     | fail)
    refine next _ _ (()) (by omega) (by first | trivial | omega | assumption) (by simp [-List.reduceReplicate, keep, iC, ← hset]) (by simp [-List.reduceReplicate, iC, ← hset])
  · have h16 : i = 16 := by omega
    subst h16
    clear next hlen hwi
    repeat' (first 
     | (with_reducible first | refine awp_scope ?_ | refine awp_seq ?_ | refine awp_block ?_)
     | ((with_reducible first | refine awp_label ?_ | refine awp_skip ?_ | refine awp_exit ?_ | refine hother _ _ rfl ?_); try simp only [thenA, inBlockA, noGotoA, if_true, Nat.reduceEqDiff, if_false, ↓reduceIte])
     | ((with_reducible first | refine awp_reg 61 hX [0, 2, 3, 4, 5, 6, 7, 9, 20] ?_ | refine awp_drw 61 hX [0, 2, 3, 4, 5, 6, 7, 9, 20] Tab.mixed (by kernel_rfl) ?_ | refine DEv_cut _ _ _ _ _ _ _ _ _ _ _ _ (by kernel_rfl) ?_ | change postOf _ _ _ _ _); simp [-List.reduceReplicate, Nat.add_one_le_iff, -getElem?_pos, -getElem?_neg, iC])
     | ((first | (with_reducible refine awp_ret ?_; try simp only [thenA, inBlockA, noGotoA])); try simp [-List.reduceReplicate, Nat.add_one_le_iff, -getElem?_pos, -getElem?_neg, iC])
     | (with_reducible refine awp_if_b rfl (fun hc => ?_) (fun hc => ?_) <;> (try simp [-getElem?_pos, -getElem?_neg] at hc) <;> (try (exfalso; omega)))
     | (with_reducible refine And.intro (by omega) ?_)
     | fail)
    refine awp_forU [2, 3, 5] (fun i (_u : Unit) => [(5, .c (iC (16 + i : Nat)))]) (fun i (_u : Unit) => [⟨194, 1, false, 0, up (List.replicate 64 (.v (.int .u32 0))), none⟩, ⟨194, 1, false, 0, up (spRow b (16 + i)), none⟩]) (fun i (_u : Unit) => True) (48) (()) (by first | trivial | (simp; done) | omega | (intros; simp at *; done)) (by simp [-List.reduceReplicate, keep, iC]) (by simp [-List.reduceReplicate, iC]) ?_
    rintro i _u Q1 hi hH next hother
    conv => arg 5; arg 1; simp only [List.cons_append, List.nil_append, keep, get, Nat.reduceEqDiff, if_true, if_false, ↓reduceIte]
    have hwi := wrap_in ((16 + i : Nat) + 1 : Int) (by omega)
    have hlen := spRow_len b (16 + i) (by omega)
    by_cases hlt : i < 48
    · have hset := spRow_set b (16 + i) (by omega)
      have hl := spTo_len b (16 + i)
      have hst : spStep b (spTo b (16 + i)) = (spTo b (16 + i)).getD (16 + i - 16) 0 + g0 ((spTo b (16 + i)).getD (16 + i - 15) 0) + (spTo b (16 + i)).getD (16 + i - 7) 0 + g1 ((spTo b (16 + i)).getD (16 + i - 2) 0) := by unfold spStep; rw [hl, if_neg (by omega)]
      have hn : 16 + (i + 1) = 16 + i + 1 := by omega
      rw [hst] at hset
      rw [hn] at next
      have hn0 : 16 ≤ 16 + i := by omega
      have hn1 : 16 + i < 64 := by omega
      generalize 16 + i = q at *
      have i1 := wrap_in ((q : Int) - 15) (by omega)
      have i2 := wrap_in ((q : Int) - 2) (by omega)
      have i3 := wrap_in ((q : Int) - 16) (by omega)
      have i4 := wrap_in ((q : Int) - 7) (by omega)
      have j1 : ((q : Int) - 15).toNat = q - 15 := by omega
      have j2 : ((q : Int) - 2).toNat = q - 2 := by omega
      have j3 : ((q : Int) - 16).toNat = q - 16 := by omega
      have j4 : ((q : Int) - 7).toNat = q - 7 := by omega
      have k1 : 15 ≤ (q : Int) := by omega
      have k2 : 2 ≤ (q : Int) := by omega
      have k3 : 16 ≤ (q : Int) := by omega
      have k4 : 7 ≤ (q : Int) := by omega
      have m1 : (q : Int) - 15 < 64 := by omega
      have m2 : (q : Int) - 2 < 64 := by omega
      have m3 : (q : Int) - 16 < 64 := by omega
      have m4 : (q : Int) - 7 < 64 := by omega
      have m5 : (q : Int) < 64 := by omega
      have n1 := spRow_get b q (q - 15) (by omega)
      have n2 := spRow_get b q (q - 2) (by omega)
      have n3 := spRow_get b q (q - 16) (by omega)
      have n4 := spRow_get b q (q - 7) (by omega)
      unfold g0 g1 at hset
      generalize (spTo b q).getD (q - 16) 0 = x16 at *
      generalize (spTo b q).getD (q - 15) 0 = x15 at *
      generalize (spTo b q).getD (q - 7) 0 = x7 at *
      generalize (spTo b q).getD (q - 2) 0 = x2 at *
      generalize spRow b q = r0 at *
      repeat' (first 
       | (with_reducible first | refine awp_scope ?_ | refine awp_seq ?_ | refine awp_block ?_)
       | ((with_reducible first | refine awp_label ?_ | refine awp_skip ?_ | refine awp_exit ?_ | refine hother _ _ rfl ?_); try simp only [thenA, inBlockA, noGotoA, if_true, Nat.reduceEqDiff, if_false, ↓reduceIte])
       | ((with_reducible first | refine awp_reg 61 hX [0, 2, 3, 4, 5, 6, 7, 9, 20] ?_ | refine awp_drw 61 hX [0, 2, 3, 4, 5, 6, 7, 9, 20] Tab.mixed (by kernel_rfl) ?_ | refine DEv_cut _ _ _ _ _ _ _ _ _ _ _ _ (by kernel_rfl) ?_ | change postOf _ _ _ _ _); simp [-List.reduceReplicate, Nat.add_one_le_iff, -getElem?_pos, -getElem?_neg, iC, hn1, m5, hwi, i1, i2, i3, i4, j1, j2, j3, j4, k1, k2, k3, k4, m1, m2, m3, m4, n1, n2, n3, n4, hlen, wC, wI_shr, wI_shr', wI_xor, wI_add, fd8, fd1024, IntKind.bits])
       | ((first | (with_reducible refine awp_ret ?_; try simp only [thenA, inBlockA, noGotoA]) | ((with_reducible refine Den.at_ (f := 153) ?_); refine (turn_den _ 7 (by omega) (by omega) _).det ?_) | ((with_reducible refine drawn_at (f := 153) ?_); refine ⟨_, _, turn_den _ 7 (by omega) (by omega) _, fun _ => rfl, ?_⟩) | ((with_reducible refine Den.at_ (f := 153) ?_); refine (turn_den _ 18 (by omega) (by omega) _).det ?_) | ((with_reducible refine drawn_at (f := 153) ?_); refine ⟨_, _, turn_den _ 18 (by omega) (by omega) _, fun _ => rfl, ?_⟩) | ((with_reducible refine Den.at_ (f := 153) ?_); refine (turn_den _ 17 (by omega) (by omega) _).det ?_) | ((with_reducible refine drawn_at (f := 153) ?_); refine ⟨_, _, turn_den _ 17 (by omega) (by omega) _, fun _ => rfl, ?_⟩) | ((with_reducible refine Den.at_ (f := 153) ?_); refine (turn_den _ 19 (by omega) (by omega) _).det ?_) | ((with_reducible refine drawn_at (f := 153) ?_); refine ⟨_, _, turn_den _ 19 (by omega) (by omega) _, fun _ => rfl, ?_⟩)); try simp [-List.reduceReplicate, Nat.add_one_le_iff, -getElem?_pos, -getElem?_neg, iC, hn1, m5, hwi, i1, i2, i3, i4, j1, j2, j3, j4, k1, k2, k3, k4, m1, m2, m3, m4, n1, n2, n3, n4, hlen, wC, wI_shr, wI_shr', wI_xor, wI_add, fd8, fd1024, IntKind.bits])
       | (with_reducible refine awp_if_b rfl (fun hc => ?_) (fun hc => ?_) <;> (try simp [-getElem?_pos, -getElem?_neg] at hc) <;> (try (exfalso; omega)))
       | (with_reducible refine And.intro (by omega) ?_)
       | fail)
      refine next _ _ (()) (by omega) (by first | trivial | omega | assumption) (by simp [-List.reduceReplicate, keep, iC, ← hset, wC]) (by simp [-List.reduceReplicate, iC, ← hset, wC])
    · have h48 : i = 48 := by omega
      subst h48
      have hfin : spRow b (16 + 48) = (spread b).map wC := by unfold spRow spread; simp
      rw [hfin] at hlen
      have htk : ((spread b).map wC).take 64 = (spread b).map wC := List.take_of_length_le (by omega)
      rw [hfin]
      repeat' (first 
       | (with_reducible first | refine awp_scope ?_ | refine awp_seq ?_ | refine awp_block ?_)
       | ((with_reducible first | refine awp_label ?_ | refine awp_skip ?_ | refine awp_exit ?_ | refine hother _ _ rfl ?_); try simp only [thenA, inBlockA, noGotoA, if_true, Nat.reduceEqDiff, if_false, ↓reduceIte])
       | ((with_reducible first | refine awp_reg 61 hX [0, 2, 3, 4, 5, 6, 7, 9, 20] ?_ | refine awp_drw 61 hX [0, 2, 3, 4, 5, 6, 7, 9, 20] Tab.mixed (by kernel_rfl) ?_ | refine DEv_cut _ _ _ _ _ _ _ _ _ _ _ _ (by kernel_rfl) ?_ | change postOf _ _ _ _ _); simp [-List.reduceReplicate, Nat.add_one_le_iff, -getElem?_pos, -getElem?_neg, iC, hlen, htk])
       | ((first | (with_reducible refine awp_ret ?_; try simp only [thenA, inBlockA, noGotoA])); try simp [-List.reduceReplicate, Nat.add_one_le_iff, -getElem?_pos, -getElem?_neg, iC, hlen, htk])
       | (with_reducible refine awp_if_b rfl (fun hc => ?_) (fun hc => ?_) <;> (try simp [-getElem?_pos, -getElem?_neg] at hc) <;> (try (exfalso; omega)))
       | (with_reducible refine And.intro (by omega) ?_)
       | fail)
end Go.Av

set_option exponentiation.threshold 1000
set_option linter.unusedVariables false
set_option linter.unusedSimpArgs false
set_option maxRecDepth 100000
set_option maxHeartbeats 4000000
namespace Go.Av
open Go Go.Proofs Go.Proofs.YtpcnacknlgmmlaaGreat Go.RowKit
attribute [local simp] List.getElem?_cons_zero List.getElem?_cons_succ
/-! ### sha: a block laid into eight words -/
def kK : List W := [1116352408, 1899447441, 3049323471, 3921009573, 961987163, 1508970993, 2453635748, 2870763221, 3624381080, 310598401, 607225278, 1426881987, 1925078388, 2162078206, 2614888103, 3248222580, 3835390401, 4022224774, 264347078, 604807628, 770255983, 1249150122, 1555081692, 1996064986, 2554220882, 2821834349, 2952996808, 3210313671, 3336571891, 3584528711, 113926993, 338241895, 666307205, 773529912, 1294757372, 1396182291, 1695183700, 1986661051, 2177026350, 2456956037, 2730485921, 2820302411, 3259730800, 3345764771, 3516065817, 3600352804, 4094571909, 275423344, 430227734, 506948616, 659060556, 883997877, 958139571, 1322822218, 1537002063, 1747873779, 1955562222, 2024104815, 2227730452, 2361852424, 2428436474, 2756734187, 3204031479, 3329325298]
theorem rounds_den : DenV Tryz.prog 174 [] (.agg (up (kK.map wC))) := den_run 20 rfl (by simp [ltB]) (by kernel_rfl)
theorem kK_get (i : Nat) (h : i < 64) : (kK.map wC)[i]? = some (wC (kK.getD i 0)) := by
  have hl : kK.length = 64 := rfl
  rw [List.getElem?_map, List.getD_eq_getElem?_getD, List.getElem?_eq_getElem (by omega)]
  rfl
theorem number_all : (List.range 64).map (fun i => (runF Tryz.prog 20 154 [.c (iC (i : Nat))] []).map (·.1)) = (List.range 64).map fun i => some (M.c (wC (kK.getD i 0))) := by kernel_rfl
theorem number_den (i : Nat) (h : i < 64) : DenV Tryz.prog 154 [.c (iC i)] (.c (wC (kK.getD i 0))) :=
  den_run 20 rfl rfl (by
    have h2 := (List.map_inj_left.1 number_all) i (List.mem_range.2 h)
    with_reducible exact h2)
/-- Eight words. -/
structure S8 where
  (a b c d e f g h : W)
def S8.l (s : S8) : List W := [s.a, s.b, s.c, s.d, s.e, s.f, s.g, s.h]
def S8.add (s t : S8) : S8 := ⟨s.a + t.a, s.b + t.b, s.c + t.c, s.d + t.d, s.e + t.e, s.f + t.f, s.g + t.g, s.h + t.h⟩
def S8.t1 (s : S8) (k w : W) : W := s.h + (rotr s.e 6 ^^^ rotr s.e 11 ^^^ rotr s.e 25) + ((s.e &&& s.f) ^^^ (~~~ s.e &&& s.g)) + k + w
def S8.t2 (s : S8) : W := rotr s.a 2 ^^^ rotr s.a 13 ^^^ rotr s.a 22
def S8.t3 (s : S8) : W := (s.a &&& s.b) ^^^ (s.a &&& s.c) ^^^ (s.b &&& s.c)
def S8.step (s : S8) (k w : W) : S8 := ⟨s.t1 k w + s.t2 + s.t3, s.a, s.b, s.c, s.d + s.t1 k w, s.e, s.f, s.g⟩
def mixTo (ws : List W) (s : S8) : Nat → S8
  | 0 => s
  | n + 1 => (mixTo ws s n).step (kK.getD n 0) (ws.getD n 0)
def mix (s : S8) (b : ByteArray) : S8 := s.add (mixTo (spread b) s 64)
def s8M (s : S8) : M := .agg (up (s.l.map wC))
theorem spread_len (b : ByteArray) : (spread b).length = 64 := spTo_len b 64
theorem ws_get (ws : List W) (i n : Nat) (h : i < n) (hl : ws.length = n) : (ws.map wC)[i]? = some (wC (ws.getD i 0)) := by
  rw [List.getElem?_map, List.getD_eq_getElem?_getD, List.getElem?_eq_getElem (by omega)]
  rfl
theorem set8 (z a b c d e f g h : C) : ((((((((List.replicate 8 z).set 0 a).set 1 b).set 2 c).set 3 d).set 4 e).set 5 f).set 6 g).set 7 h = [a, b, c, d, e, f, g, h] := rfl
set_option maxHeartbeats 2000000 in
theorem mix_den (s : S8) (b : ByteArray) (hb : b.size ≤ 9223372036854775807) : DenV Tryz.prog 166 [s8M s, .c (.v (.string b))] (s8M (mix s b)) := by
  obtain ⟨r, hr⟩ : ∃ r, r = mix s b := ⟨_, rfl⟩
  rw [← hr]
  refine Den.frame (by simp [ltBs, s8M, ltB]) (by simp [ltB, s8M]) ?_
  refine den_of Tryz.func166 rfl rfl (by simp [Tryz.ntmps166]) (fun X hX hO => ?_)
  rw [Tryz.ntmps166] at hX
  simp only [Tryz.results166]
  have hsl := spread_len b
  have hkl : kK.length = 64 := rfl
  repeat' (first 
   | (with_reducible first | refine awp_scope ?_ | refine awp_seq ?_ | refine awp_block ?_)
   | ((with_reducible first | refine awp_label ?_ | refine awp_skip ?_ | refine awp_exit ?_ | refine hother _ _ rfl ?_); try simp only [thenA, inBlockA, noGotoA, if_true, Nat.reduceEqDiff, if_false, ↓reduceIte])
   | ((with_reducible first | refine awp_reg 122 hX [1, 2, 4, 5, 6, 7, 8, 9, 10, 11, 12, 13, 18, 19, 109, 110] ?_ | refine awp_drw 122 hX [1, 2, 4, 5, 6, 7, 8, 9, 10, 11, 12, 13, 18, 19, 109, 110] Tab.mixed (by kernel_rfl) ?_ | refine DEv_cut _ _ _ _ _ _ _ _ _ _ _ _ (by kernel_rfl) ?_ | change postOf _ _ _ _ _); simp [-List.reduceReplicate, Nat.add_one_le_iff, -getElem?_pos, -getElem?_neg, s8M, S8.l, hsl, hkl])
   | ((first | (with_reducible refine awp_ret ?_; try simp only [thenA, inBlockA, noGotoA]) | ((with_reducible refine Den.at_ (f := 173) ?_); refine (spread_den b hb _).det ?_) | ((with_reducible refine drawn_at (f := 173) ?_); refine ⟨_, _, spread_den b hb _, fun _ => rfl, ?_⟩) | ((with_reducible refine Den.at_ (f := 174) ?_); refine (rounds_den _).det ?_) | ((with_reducible refine drawn_at (f := 174) ?_); refine ⟨_, _, rounds_den _, fun _ => rfl, ?_⟩)); try simp [-List.reduceReplicate, Nat.add_one_le_iff, -getElem?_pos, -getElem?_neg, s8M, S8.l, hsl, hkl])
   | (with_reducible refine awp_if_b rfl (fun hc => ?_) (fun hc => ?_) <;> (try simp [-getElem?_pos, -getElem?_neg] at hc) <;> (try (exfalso; omega)))
   | (with_reducible refine And.intro (by omega) ?_)
   | fail)
  refine awp_forU [2, 4, 5, 6, 7, 18] (fun i (_u : Unit) => [(18, .c (iC i))]) (fun i (_u : Unit) => [⟨205, 1, false, 0, up [wC s.a, wC s.b, wC s.c, wC s.d, wC s.e, wC s.f, wC s.g, wC s.h], none⟩, ⟨205, 1, false, 0, up (List.replicate 8 (C.v (Value.int IntKind.u32 0))), none⟩, ⟨194, 1, false, 0, up (List.map wC (spread b)), none⟩, ⟨194, 1, false, 0, up (List.map wC kK), none⟩, ⟨205, 1, false, 0, up ((mixTo (spread b) s i).l.map wC), none⟩]) (fun i (_u : Unit) => True) (64) (()) (by first | trivial | (simp; done) | omega | (intros; simp at *; done)) (by simp [-List.reduceReplicate, keep, iC, mixTo, S8.l]) (by simp [-List.reduceReplicate, iC, mixTo, S8.l]) ?_
  rintro i _u Q1 hi hH next hother
  conv => arg 5; arg 1; simp only [List.cons_append, List.nil_append, keep, get, Nat.reduceEqDiff, if_true, if_false, ↓reduceIte]
  have hwi := wrap_in ((i : Int) + 1) (by omega)
  by_cases hlt : i < 64
  · have hw := ws_get (spread b) i 64 hlt hsl
    have hk := kK_get i hlt
    have h64 : (i : Int) < 64 := by omega
    have hst : mixTo (spread b) s (i + 1) = (mixTo (spread b) s i).step (kK.getD i 0) ((spread b).getD i 0) := rfl
    rw [hst] at next
    generalize mixTo (spread b) s i = v at *
    generalize kK.getD i 0 = kk at *
    generalize (spread b).getD i 0 = ww at *
    clear hst
    repeat' (first 
     | (with_reducible first | refine awp_scope ?_ | refine awp_seq ?_ | refine awp_block ?_)
     | ((with_reducible first | refine awp_label ?_ | refine awp_skip ?_ | refine awp_exit ?_ | refine hother _ _ rfl ?_); try simp only [thenA, inBlockA, noGotoA, if_true, Nat.reduceEqDiff, if_false, ↓reduceIte])
     | ((with_reducible first | refine awp_reg 122 hX [1, 2, 4, 5, 6, 7, 8, 9, 10, 11, 12, 13, 18, 19, 109, 110] ?_ | refine awp_drw 122 hX [1, 2, 4, 5, 6, 7, 8, 9, 10, 11, 12, 13, 18, 19, 109, 110] Tab.mixed (by kernel_rfl) ?_ | refine DEv_cut _ _ _ _ _ _ _ _ _ _ _ _ (by kernel_rfl) ?_ | change postOf _ _ _ _ _); simp [-List.reduceReplicate, Nat.add_one_le_iff, -getElem?_pos, -getElem?_neg, S8.l, iC, hlt, h64, hwi, hw, hk, wC, wI_xor, wI_add, wI_and, wI_not, set8])
     | ((first | (with_reducible refine awp_ret ?_; try simp only [thenA, inBlockA, noGotoA]) | ((with_reducible refine Den.at_ (f := 175) ?_); refine (rot_den _ 6 (by omega) _).det ?_) | ((with_reducible refine drawn_at (f := 175) ?_); refine ⟨_, _, rot_den _ 6 (by omega) _, fun _ => rfl, ?_⟩) | ((with_reducible refine Den.at_ (f := 175) ?_); refine (rot_den _ 11 (by omega) _).det ?_) | ((with_reducible refine drawn_at (f := 175) ?_); refine ⟨_, _, rot_den _ 11 (by omega) _, fun _ => rfl, ?_⟩) | ((with_reducible refine Den.at_ (f := 175) ?_); refine (rot_den _ 25 (by omega) _).det ?_) | ((with_reducible refine drawn_at (f := 175) ?_); refine ⟨_, _, rot_den _ 25 (by omega) _, fun _ => rfl, ?_⟩) | ((with_reducible refine Den.at_ (f := 175) ?_); refine (rot_den _ 2 (by omega) _).det ?_) | ((with_reducible refine drawn_at (f := 175) ?_); refine ⟨_, _, rot_den _ 2 (by omega) _, fun _ => rfl, ?_⟩) | ((with_reducible refine Den.at_ (f := 175) ?_); refine (rot_den _ 13 (by omega) _).det ?_) | ((with_reducible refine drawn_at (f := 175) ?_); refine ⟨_, _, rot_den _ 13 (by omega) _, fun _ => rfl, ?_⟩) | ((with_reducible refine Den.at_ (f := 175) ?_); refine (rot_den _ 22 (by omega) _).det ?_) | ((with_reducible refine drawn_at (f := 175) ?_); refine ⟨_, _, rot_den _ 22 (by omega) _, fun _ => rfl, ?_⟩)); try simp [-List.reduceReplicate, Nat.add_one_le_iff, -getElem?_pos, -getElem?_neg, S8.l, iC, hlt, h64, hwi, hw, hk, wC, wI_xor, wI_add, wI_and, wI_not, set8])
     | (with_reducible refine awp_if_b rfl (fun hc => ?_) (fun hc => ?_) <;> (try simp [-getElem?_pos, -getElem?_neg] at hc) <;> (try (exfalso; omega)))
     | (with_reducible refine And.intro (by omega) ?_)
     | fail)
    refine next _ _ (()) (by omega) (by first | trivial | omega | assumption) (by simp [-List.reduceReplicate, keep, iC, wC, S8.l, S8.step, S8.t1, S8.t2, S8.t3]) (by simp [-List.reduceReplicate, iC, wC, S8.l, S8.step, S8.t1, S8.t2, S8.t3])
  · have hi64 : i = 64 := by omega
    subst hi64
    have hmix : r = s.add (mixTo (spread b) s 64) := hr
    generalize mixTo (spread b) s 64 = v at *
    clear next hwi
    subst hmix
    repeat' (first 
     | (with_reducible first | refine awp_scope ?_ | refine awp_seq ?_ | refine awp_block ?_)
     | ((with_reducible first | refine awp_label ?_ | refine awp_skip ?_ | refine awp_exit ?_ | refine hother _ _ rfl ?_); try simp only [thenA, inBlockA, noGotoA, if_true, Nat.reduceEqDiff, if_false, ↓reduceIte])
     | ((with_reducible first | refine awp_reg 122 hX [1, 2, 4, 5, 6, 7, 8, 9, 10, 11, 12, 13, 18, 19, 109, 110] ?_ | refine awp_drw 122 hX [1, 2, 4, 5, 6, 7, 8, 9, 10, 11, 12, 13, 18, 19, 109, 110] Tab.mixed (by kernel_rfl) ?_ | refine DEv_cut _ _ _ _ _ _ _ _ _ _ _ _ (by kernel_rfl) ?_ | change postOf _ _ _ _ _); simp [-List.reduceReplicate, Nat.add_one_le_iff, -getElem?_pos, -getElem?_neg, S8.l, iC])
     | ((first | (with_reducible refine awp_ret ?_; try simp only [thenA, inBlockA, noGotoA])); try simp [-List.reduceReplicate, Nat.add_one_le_iff, -getElem?_pos, -getElem?_neg, S8.l, iC])
     | (with_reducible refine awp_if_b rfl (fun hc => ?_) (fun hc => ?_) <;> (try simp [-getElem?_pos, -getElem?_neg] at hc) <;> (try (exfalso; omega)))
     | (with_reducible refine And.intro (by omega) ?_)
     | fail)
    refine awp_forU [2, 4, 7, 109] (fun i (_u : Unit) => [(109, .c (iC i))]) (fun i (_u : Unit) => [⟨205, 1, false, 0, up (((s.add v).l.take i ++ s.l.drop i).map wC), none⟩, ⟨205, 1, false, 0, up (List.replicate 8 (C.v (Value.int IntKind.u32 0))), none⟩, ⟨194, 1, false, 0, up (List.map wC (spread b)), none⟩, ⟨194, 1, false, 0, up (List.map wC kK), none⟩, ⟨205, 1, false, 0, up (v.l.map wC), none⟩]) (fun i (_u : Unit) => True) (8) (()) (by first | trivial | (simp; done) | omega | (intros; simp at *; done)) (by simp [-List.reduceReplicate, keep, iC, S8.l]) (by simp [-List.reduceReplicate, iC, S8.l]) ?_
    rintro i _u Q1 hi hH next hother
    conv => arg 5; arg 1; simp only [List.cons_append, List.nil_append, keep, get, Nat.reduceEqDiff, if_true, if_false, ↓reduceIte]
    by_cases hlt : i < 8
    · rcases (by omega : i = 0 ∨ i = 1 ∨ i = 2 ∨ i = 3 ∨ i = 4 ∨ i = 5 ∨ i = 6 ∨ i = 7) with e | e | e | e | e | e | e | e
      all_goals subst e
      all_goals
        repeat' (first 
         | (with_reducible first | refine awp_scope ?_ | refine awp_seq ?_ | refine awp_block ?_)
         | ((with_reducible first | refine awp_label ?_ | refine awp_skip ?_ | refine awp_exit ?_ | refine hother _ _ rfl ?_); try simp only [thenA, inBlockA, noGotoA, if_true, Nat.reduceEqDiff, if_false, ↓reduceIte])
         | ((with_reducible first | refine awp_reg 122 hX [1, 2, 4, 5, 6, 7, 8, 9, 10, 11, 12, 13, 18, 19, 109, 110] ?_ | refine awp_drw 122 hX [1, 2, 4, 5, 6, 7, 8, 9, 10, 11, 12, 13, 18, 19, 109, 110] Tab.mixed (by kernel_rfl) ?_ | refine DEv_cut _ _ _ _ _ _ _ _ _ _ _ _ (by kernel_rfl) ?_ | change postOf _ _ _ _ _); simp [-List.reduceReplicate, Nat.add_one_le_iff, -getElem?_pos, -getElem?_neg, S8.l, S8.add, iC, wC, wI_add])
         | ((first | (with_reducible refine awp_ret ?_; try simp only [thenA, inBlockA, noGotoA])); try simp [-List.reduceReplicate, Nat.add_one_le_iff, -getElem?_pos, -getElem?_neg, S8.l, S8.add, iC, wC, wI_add])
         | (with_reducible refine awp_if_b rfl (fun hc => ?_) (fun hc => ?_) <;> (try simp [-getElem?_pos, -getElem?_neg] at hc) <;> (try (exfalso; omega)))
         | (with_reducible refine And.intro (by omega) ?_)
         | fail)
        refine next _ _ (()) (by omega) (by first | trivial | omega | assumption) (by simp [-List.reduceReplicate, keep, iC, wC, S8.l, S8.add, IntKind.wrap, IntKind.bits, IntKind.signed]) (by simp [-List.reduceReplicate, iC, wC, S8.l, S8.add, IntKind.wrap, IntKind.bits, IntKind.signed])
    · have hi8 : i = 8 := by omega
      subst hi8
      repeat' (first 
       | (with_reducible first | refine awp_scope ?_ | refine awp_seq ?_ | refine awp_block ?_)
       | ((with_reducible first | refine awp_label ?_ | refine awp_skip ?_ | refine awp_exit ?_ | refine hother _ _ rfl ?_); try simp only [thenA, inBlockA, noGotoA, if_true, Nat.reduceEqDiff, if_false, ↓reduceIte])
       | ((with_reducible first | refine awp_reg 122 hX [1, 2, 4, 5, 6, 7, 8, 9, 10, 11, 12, 13, 18, 19, 109, 110] ?_ | refine awp_drw 122 hX [1, 2, 4, 5, 6, 7, 8, 9, 10, 11, 12, 13, 18, 19, 109, 110] Tab.mixed (by kernel_rfl) ?_ | refine DEv_cut _ _ _ _ _ _ _ _ _ _ _ _ (by kernel_rfl) ?_ | change postOf _ _ _ _ _); simp [-List.reduceReplicate, Nat.add_one_le_iff, -getElem?_pos, -getElem?_neg, S8.l, S8.add, iC])
       | ((first | (with_reducible refine awp_ret ?_; try simp only [thenA, inBlockA, noGotoA])); try simp [-List.reduceReplicate, Nat.add_one_le_iff, -getElem?_pos, -getElem?_neg, S8.l, S8.add, iC])
       | (with_reducible refine awp_if_b rfl (fun hc => ?_) (fun hc => ?_) <;> (try simp [-getElem?_pos, -getElem?_neg] at hc) <;> (try (exfalso; omega)))
       | (with_reducible refine And.intro (by omega) ?_)
       | fail)
/-- Words moved one place on, from the end. -/
def shl8 (l : List W) (i : Nat) : List W := l.take (8 - i) ++ (l.drop (7 - i)).take i
set_option maxHeartbeats 2000000 in
theorem mix02_den (s : S8) (b : ByteArray) (hb : b.size ≤ 9223372036854775807) : DenV Tryz.prog 123 [s8M s, .c (.v (.string b))] (s8M (mix s b)) := by
  obtain ⟨r, hr⟩ : ∃ r, r = mix s b := ⟨_, rfl⟩
  rw [← hr]
  refine Den.frame (by simp [ltBs, s8M, ltB]) (by simp [ltB, s8M]) ?_
  refine den_of Tryz.func123 rfl rfl (by simp [Tryz.ntmps123]) (fun X hX hO => ?_)
  rw [Tryz.ntmps123] at hX
  simp only [Tryz.results123]
  have hsl := spread_len b
  have hkl : kK.length = 64 := rfl
  repeat' (first 
   | (with_reducible first | refine awp_scope ?_ | refine awp_seq ?_ | refine awp_block ?_)
   | ((with_reducible first | refine awp_label ?_ | refine awp_skip ?_ | refine awp_exit ?_ | refine hother _ _ rfl ?_ | refine hother2 _ _ rfl ?_); try simp only [thenA, inBlockA, noGotoA, if_true, Nat.reduceEqDiff, if_false, ↓reduceIte])
   | ((with_reducible first | refine awp_reg 110 hX [1, 2, 4, 5, 6, 7, 8, 9, 10, 11, 12, 13, 18, 79, 98] ?_ | refine awp_drw 110 hX [1, 2, 4, 5, 6, 7, 8, 9, 10, 11, 12, 13, 18, 79, 98] Tab.mixed (by kernel_rfl) ?_ | refine DEv_cut _ _ _ _ _ _ _ _ _ _ _ _ (by kernel_rfl) ?_ | change postOf _ _ _ _ _); simp [-List.reduceReplicate, Nat.add_one_le_iff, -getElem?_pos, -getElem?_neg, s8M, S8.l, hsl, hkl])
   | ((first | (with_reducible refine awp_ret ?_; try simp only [thenA, inBlockA, noGotoA]) | ((with_reducible refine Den.at_ (f := 152) ?_); refine (spread02_den b hb _).det ?_) | ((with_reducible refine drawn_at (f := 152) ?_); refine ⟨_, _, spread02_den b hb _, fun _ => rfl, ?_⟩)); try simp [-List.reduceReplicate, Nat.add_one_le_iff, -getElem?_pos, -getElem?_neg, s8M, S8.l, hsl, hkl])
   | (with_reducible refine awp_if_b rfl (fun hc => ?_) (fun hc => ?_) <;> (try simp [-getElem?_pos, -getElem?_neg] at hc) <;> (try (exfalso; omega)))
   | (with_reducible refine And.intro (by omega) ?_)
   | fail)
  refine awp_forU [2, 4, 5, 6, 7] (fun i (_u : Unit) => [(7, .c (iC i))]) (fun i (_u : Unit) => [⟨165, 1, false, 0, up ((mixTo (spread b) s i).l.map wC), none⟩, ⟨165, 1, false, 0, up (List.replicate 8 (C.v (Value.int IntKind.u32 0))), none⟩, ⟨194, 1, false, 0, up (List.map wC (spread b)), none⟩, ⟨165, 1, false, 0, up (s.l.map wC), none⟩]) (fun i (_u : Unit) => True) (64) (()) (by first | trivial | (simp; done) | omega | (intros; simp at *; done)) (by simp [-List.reduceReplicate, keep, iC, mixTo, S8.l]) (by simp [-List.reduceReplicate, iC, mixTo, S8.l]) ?_
  rintro i _u Q1 hi hH next hother
  conv => arg 5; arg 1; simp only [List.cons_append, List.nil_append, keep, get, Nat.reduceEqDiff, if_true, if_false, ↓reduceIte]
  have hwi := wrap_in ((i : Int) + 1) (by omega)
  by_cases hlt : i < 64
  · have hw := ws_get (spread b) i 64 hlt hsl
    have h64 : (i : Int) < 64 := by omega
    have hst : mixTo (spread b) s (i + 1) = (mixTo (spread b) s i).step (kK.getD i 0) ((spread b).getD i 0) := rfl
    rw [hst] at next
    have hnum := number_den i hlt
    generalize mixTo (spread b) s i = v at *
    generalize kK.getD i 0 = kk at *
    generalize (spread b).getD i 0 = ww at *
    clear hst
    repeat' (first 
     | (with_reducible first | refine awp_scope ?_ | refine awp_seq ?_ | refine awp_block ?_)
     | ((with_reducible first | refine awp_label ?_ | refine awp_skip ?_ | refine awp_exit ?_ | refine hother _ _ rfl ?_ | refine hother2 _ _ rfl ?_); try simp only [thenA, inBlockA, noGotoA, if_true, Nat.reduceEqDiff, if_false, ↓reduceIte])
     | ((with_reducible first | refine awp_reg 110 hX [1, 2, 4, 5, 6, 7, 8, 9, 10, 11, 12, 13, 18, 79, 98] ?_ | refine awp_drw 110 hX [1, 2, 4, 5, 6, 7, 8, 9, 10, 11, 12, 13, 18, 79, 98] Tab.mixed (by kernel_rfl) ?_ | refine DEv_cut _ _ _ _ _ _ _ _ _ _ _ _ (by kernel_rfl) ?_ | change postOf _ _ _ _ _); simp [-List.reduceReplicate, Nat.add_one_le_iff, -getElem?_pos, -getElem?_neg, S8.l, iC, hlt, h64, hwi, hw, wC, wI_xor, wI_add, wI_and, wI_notsub])
     | ((first | (with_reducible refine awp_ret ?_; try simp only [thenA, inBlockA, noGotoA]) | ((with_reducible refine Den.at_ (f := 153) ?_); refine (turn_den _ 6 (by omega) (by omega) _).det ?_) | ((with_reducible refine drawn_at (f := 153) ?_); refine ⟨_, _, turn_den _ 6 (by omega) (by omega) _, fun _ => rfl, ?_⟩) | ((with_reducible refine Den.at_ (f := 153) ?_); refine (turn_den _ 11 (by omega) (by omega) _).det ?_) | ((with_reducible refine drawn_at (f := 153) ?_); refine ⟨_, _, turn_den _ 11 (by omega) (by omega) _, fun _ => rfl, ?_⟩) | ((with_reducible refine Den.at_ (f := 153) ?_); refine (turn_den _ 25 (by omega) (by omega) _).det ?_) | ((with_reducible refine drawn_at (f := 153) ?_); refine ⟨_, _, turn_den _ 25 (by omega) (by omega) _, fun _ => rfl, ?_⟩) | ((with_reducible refine Den.at_ (f := 153) ?_); refine (turn_den _ 2 (by omega) (by omega) _).det ?_) | ((with_reducible refine drawn_at (f := 153) ?_); refine ⟨_, _, turn_den _ 2 (by omega) (by omega) _, fun _ => rfl, ?_⟩) | ((with_reducible refine Den.at_ (f := 153) ?_); refine (turn_den _ 13 (by omega) (by omega) _).det ?_) | ((with_reducible refine drawn_at (f := 153) ?_); refine ⟨_, _, turn_den _ 13 (by omega) (by omega) _, fun _ => rfl, ?_⟩) | ((with_reducible refine Den.at_ (f := 153) ?_); refine (turn_den _ 22 (by omega) (by omega) _).det ?_) | ((with_reducible refine drawn_at (f := 153) ?_); refine ⟨_, _, turn_den _ 22 (by omega) (by omega) _, fun _ => rfl, ?_⟩) | (refine (hnum _).det ?_) | (refine ⟨_, _, hnum _, fun _ => rfl, ?_⟩)); try simp [-List.reduceReplicate, Nat.add_one_le_iff, -getElem?_pos, -getElem?_neg, S8.l, iC, hlt, h64, hwi, hw, wC, wI_xor, wI_add, wI_and, wI_notsub])
     | (with_reducible refine awp_if_b rfl (fun hc => ?_) (fun hc => ?_) <;> (try simp [-getElem?_pos, -getElem?_neg] at hc) <;> (try (exfalso; omega)))
     | (with_reducible refine And.intro (by omega) ?_)
     | fail)
    have next0 := next
    have hother2 := hother
    clear next hother
    refine awp_forU [2, 4, 5, 6, 7, 10, 11, 12] (fun j (_u : Unit) => [(12, .c (iC (7 - j : Nat)))]) (fun j (_u : Unit) => [⟨165, 1, false, 0, up ((shl8 v.l j).map wC), none⟩, ⟨165, 1, false, 0, up (List.replicate 8 (C.v (Value.int IntKind.u32 0))), none⟩, ⟨194, 1, false, 0, up (List.map wC (spread b)), none⟩, ⟨165, 1, false, 0, up (s.l.map wC), none⟩]) (fun j (_u : Unit) => True) (7) (()) (by first | trivial | (simp; done) | omega | (intros; simp at *; done)) (by simp [-List.reduceReplicate, keep, iC, S8.l, shl8, wC]) (by simp [-List.reduceReplicate, iC, S8.l, shl8, wC]) ?_
    rintro j _u Q1 hi hH next hother
    conv => arg 5; arg 1; simp only [List.cons_append, List.nil_append, keep, get, Nat.reduceEqDiff, if_true, if_false, ↓reduceIte]
    by_cases hlj : j < 7
    · clear next0
      rcases (by omega : j = 0 ∨ j = 1 ∨ j = 2 ∨ j = 3 ∨ j = 4 ∨ j = 5 ∨ j = 6) with e | e | e | e | e | e | e
      all_goals subst e
      all_goals
        repeat' (first 
         | (with_reducible first | refine awp_scope ?_ | refine awp_seq ?_ | refine awp_block ?_)
         | ((with_reducible first | refine awp_label ?_ | refine awp_skip ?_ | refine awp_exit ?_ | refine hother _ _ rfl ?_ | refine hother2 _ _ rfl ?_); try simp only [thenA, inBlockA, noGotoA, if_true, Nat.reduceEqDiff, if_false, ↓reduceIte])
         | ((with_reducible first | refine awp_reg 110 hX [1, 2, 4, 5, 6, 7, 8, 9, 10, 11, 12, 13, 18, 79, 98] ?_ | refine awp_drw 110 hX [1, 2, 4, 5, 6, 7, 8, 9, 10, 11, 12, 13, 18, 79, 98] Tab.mixed (by kernel_rfl) ?_ | refine DEv_cut _ _ _ _ _ _ _ _ _ _ _ _ (by kernel_rfl) ?_ | change postOf _ _ _ _ _); simp [-List.reduceReplicate, Nat.add_one_le_iff, -getElem?_pos, -getElem?_neg, S8.l, shl8, iC, wC, IntKind.wrap, IntKind.bits, IntKind.signed])
         | ((first | (with_reducible refine awp_ret ?_; try simp only [thenA, inBlockA, noGotoA])); try simp [-List.reduceReplicate, Nat.add_one_le_iff, -getElem?_pos, -getElem?_neg, S8.l, shl8, iC, wC, IntKind.wrap, IntKind.bits, IntKind.signed])
         | (with_reducible refine awp_if_b rfl (fun hc => ?_) (fun hc => ?_) <;> (try simp [-getElem?_pos, -getElem?_neg] at hc) <;> (try (exfalso; omega)))
         | (with_reducible refine And.intro (by omega) ?_)
         | fail)
        refine next _ _ (()) (by omega) (by first | trivial | omega | assumption) (by simp [-List.reduceReplicate, keep, iC, wC, S8.l, shl8]) (by simp [-List.reduceReplicate, iC, wC, S8.l, shl8])
    · have hj7 : j = 7 := by omega
      subst hj7
      repeat' (first 
       | (with_reducible first | refine awp_scope ?_ | refine awp_seq ?_ | refine awp_block ?_)
       | ((with_reducible first | refine awp_label ?_ | refine awp_skip ?_ | refine awp_exit ?_ | refine hother _ _ rfl ?_ | refine hother2 _ _ rfl ?_); try simp only [thenA, inBlockA, noGotoA, if_true, Nat.reduceEqDiff, if_false, ↓reduceIte])
       | ((with_reducible first | refine awp_reg 110 hX [1, 2, 4, 5, 6, 7, 8, 9, 10, 11, 12, 13, 18, 79, 98] ?_ | refine awp_drw 110 hX [1, 2, 4, 5, 6, 7, 8, 9, 10, 11, 12, 13, 18, 79, 98] Tab.mixed (by kernel_rfl) ?_ | refine DEv_cut _ _ _ _ _ _ _ _ _ _ _ _ (by kernel_rfl) ?_ | change postOf _ _ _ _ _); simp [-List.reduceReplicate, Nat.add_one_le_iff, -getElem?_pos, -getElem?_neg, S8.l, shl8, iC, wC, wI_add, hwi, hlt])
       | ((first | (with_reducible refine awp_ret ?_; try simp only [thenA, inBlockA, noGotoA])); try simp [-List.reduceReplicate, Nat.add_one_le_iff, -getElem?_pos, -getElem?_neg, S8.l, shl8, iC, wC, wI_add, hwi, hlt])
       | (with_reducible refine awp_if_b rfl (fun hc => ?_) (fun hc => ?_) <;> (try simp [-getElem?_pos, -getElem?_neg] at hc) <;> (try (exfalso; omega)))
       | (with_reducible refine And.intro (by omega) ?_)
       | fail)
      refine next0 _ _ (()) (by omega) (by first | trivial | omega | assumption) (by simp [-List.reduceReplicate, keep, iC, wC, S8.l, S8.step, S8.t1, S8.t2, S8.t3, BitVec.add_assoc]) (by simp [-List.reduceReplicate, iC, wC, S8.l, S8.step, S8.t1, S8.t2, S8.t3, BitVec.add_assoc])
  · have hi64 : i = 64 := by omega
    subst hi64
    have hmix : r = s.add (mixTo (spread b) s 64) := hr
    generalize mixTo (spread b) s 64 = v at *
    clear next hwi
    subst hmix
    repeat' (first 
     | (with_reducible first | refine awp_scope ?_ | refine awp_seq ?_ | refine awp_block ?_)
     | ((with_reducible first | refine awp_label ?_ | refine awp_skip ?_ | refine awp_exit ?_ | refine hother _ _ rfl ?_ | refine hother2 _ _ rfl ?_); try simp only [thenA, inBlockA, noGotoA, if_true, Nat.reduceEqDiff, if_false, ↓reduceIte])
     | ((with_reducible first | refine awp_reg 110 hX [1, 2, 4, 5, 6, 7, 8, 9, 10, 11, 12, 13, 18, 79, 98] ?_ | refine awp_drw 110 hX [1, 2, 4, 5, 6, 7, 8, 9, 10, 11, 12, 13, 18, 79, 98] Tab.mixed (by kernel_rfl) ?_ | refine DEv_cut _ _ _ _ _ _ _ _ _ _ _ _ (by kernel_rfl) ?_ | change postOf _ _ _ _ _); simp [-List.reduceReplicate, Nat.add_one_le_iff, -getElem?_pos, -getElem?_neg, S8.l, iC])
     | ((first | (with_reducible refine awp_ret ?_; try simp only [thenA, inBlockA, noGotoA])); try simp [-List.reduceReplicate, Nat.add_one_le_iff, -getElem?_pos, -getElem?_neg, S8.l, iC])
     | (with_reducible refine awp_if_b rfl (fun hc => ?_) (fun hc => ?_) <;> (try simp [-getElem?_pos, -getElem?_neg] at hc) <;> (try (exfalso; omega)))
     | (with_reducible refine And.intro (by omega) ?_)
     | fail)
    refine awp_forU [2, 4, 6, 13] (fun i (_u : Unit) => [(13, .c (iC i))]) (fun i (_u : Unit) => [⟨165, 1, false, 0, up (((s.add v).l.take i ++ v.l.drop i).map wC), none⟩, ⟨165, 1, false, 0, up (List.replicate 8 (C.v (Value.int IntKind.u32 0))), none⟩, ⟨194, 1, false, 0, up (List.map wC (spread b)), none⟩, ⟨165, 1, false, 0, up (s.l.map wC), none⟩]) (fun i (_u : Unit) => True) (8) (()) (by first | trivial | (simp; done) | omega | (intros; simp at *; done)) (by simp [-List.reduceReplicate, keep, iC, S8.l]) (by simp [-List.reduceReplicate, iC, S8.l]) ?_
    rintro i _u Q1 hi hH next hother
    conv => arg 5; arg 1; simp only [List.cons_append, List.nil_append, keep, get, Nat.reduceEqDiff, if_true, if_false, ↓reduceIte]
    by_cases hlt : i < 8
    · have cm : ∀ x y : W, wI (x + y) = wI (y + x) := fun x y => by rw [BitVec.add_comm]
      rcases (by omega : i = 0 ∨ i = 1 ∨ i = 2 ∨ i = 3 ∨ i = 4 ∨ i = 5 ∨ i = 6 ∨ i = 7) with e | e | e | e | e | e | e | e
      all_goals subst e
      all_goals
        repeat' (first 
         | (with_reducible first | refine awp_scope ?_ | refine awp_seq ?_ | refine awp_block ?_)
         | ((with_reducible first | refine awp_label ?_ | refine awp_skip ?_ | refine awp_exit ?_ | refine hother _ _ rfl ?_ | refine hother2 _ _ rfl ?_); try simp only [thenA, inBlockA, noGotoA, if_true, Nat.reduceEqDiff, if_false, ↓reduceIte])
         | ((with_reducible first | refine awp_reg 110 hX [1, 2, 4, 5, 6, 7, 8, 9, 10, 11, 12, 13, 18, 79, 98] ?_ | refine awp_drw 110 hX [1, 2, 4, 5, 6, 7, 8, 9, 10, 11, 12, 13, 18, 79, 98] Tab.mixed (by kernel_rfl) ?_ | refine DEv_cut _ _ _ _ _ _ _ _ _ _ _ _ (by kernel_rfl) ?_ | change postOf _ _ _ _ _); simp [-List.reduceReplicate, Nat.add_one_le_iff, -getElem?_pos, -getElem?_neg, S8.l, S8.add, iC, wC, wI_add])
         | ((first | (with_reducible refine awp_ret ?_; try simp only [thenA, inBlockA, noGotoA])); try simp [-List.reduceReplicate, Nat.add_one_le_iff, -getElem?_pos, -getElem?_neg, S8.l, S8.add, iC, wC, wI_add])
         | (with_reducible refine awp_if_b rfl (fun hc => ?_) (fun hc => ?_) <;> (try simp [-getElem?_pos, -getElem?_neg] at hc) <;> (try (exfalso; omega)))
         | (with_reducible refine And.intro (by omega) ?_)
         | fail)
        refine next _ _ (()) (by omega) (by first | trivial | omega | assumption) (by simp [-List.reduceReplicate, keep, iC, wC, S8.l, S8.add, IntKind.wrap, IntKind.bits, IntKind.signed, BitVec.add_comm]) (by simp [-List.reduceReplicate, iC, wC, S8.l, S8.add, IntKind.wrap, IntKind.bits, IntKind.signed, BitVec.add_comm])
    · have hi8 : i = 8 := by omega
      subst hi8
      repeat' (first 
       | (with_reducible first | refine awp_scope ?_ | refine awp_seq ?_ | refine awp_block ?_)
       | ((with_reducible first | refine awp_label ?_ | refine awp_skip ?_ | refine awp_exit ?_ | refine hother _ _ rfl ?_ | refine hother2 _ _ rfl ?_); try simp only [thenA, inBlockA, noGotoA, if_true, Nat.reduceEqDiff, if_false, ↓reduceIte])
       | ((with_reducible first | refine awp_reg 110 hX [1, 2, 4, 5, 6, 7, 8, 9, 10, 11, 12, 13, 18, 79, 98] ?_ | refine awp_drw 110 hX [1, 2, 4, 5, 6, 7, 8, 9, 10, 11, 12, 13, 18, 79, 98] Tab.mixed (by kernel_rfl) ?_ | refine DEv_cut _ _ _ _ _ _ _ _ _ _ _ _ (by kernel_rfl) ?_ | change postOf _ _ _ _ _); simp [-List.reduceReplicate, Nat.add_one_le_iff, -getElem?_pos, -getElem?_neg, S8.l, S8.add, iC])
       | ((first | (with_reducible refine awp_ret ?_; try simp only [thenA, inBlockA, noGotoA])); try simp [-List.reduceReplicate, Nat.add_one_le_iff, -getElem?_pos, -getElem?_neg, S8.l, S8.add, iC])
       | (with_reducible refine awp_if_b rfl (fun hc => ?_) (fun hc => ?_) <;> (try simp [-getElem?_pos, -getElem?_neg] at hc) <;> (try (exfalso; omega)))
       | (with_reducible refine And.intro (by omega) ?_)
       | fail)
end Go.Av

set_option exponentiation.threshold 1000
set_option linter.unusedVariables false
set_option linter.unusedSimpArgs false
set_option maxRecDepth 100000
set_option maxHeartbeats 4000000
namespace Go.Av
open Go Go.Proofs Go.Proofs.YtpcnacknlgmmlaaGreat Go.RowKit
attribute [local simp] List.getElem?_cons_zero List.getElem?_cons_succ
/-! ### strings.Join, strings.Repeat -/
def zerosB (n : Nat) : List UInt8 := List.replicate n 0
theorem repeat_zeros (n : Nat) : Lib.repeatL [0] n = zerosB n := by
  induction n with
  | zero => rfl
  | succ n ih => rw [Lib.repeatL, ih]; rfl
theorem repeat_den (n : Nat) (hn : n ≤ 1000000) : DenV Tryz.prog 176 [.c (.v (.string ⟨#[0]⟩)), .c (.v (.int .i64 (n : Int)))] (.c (.v (.string (bsS (zerosB n))))) := by
  refine Den.of_below (by kernel_rfl) rfl fun w E vals hs ha hst => ?_
  have h1 := ha 1 _ rfl
  have h0 := ha 0 _ rfl
  obtain ⟨va, vb, rfl⟩ : ∃ va vb, vals = #[va, vb] := by
    obtain ⟨l⟩ := vals
    match l, hs with
    | [a, b], _ => exact ⟨a, b, rfl⟩
  obtain rfl : va = .string ⟨#[0]⟩ := arg_v h0
  obtain rfl : vb = .int .i64 n := arg_v h1
  refine (Tryz.strings_Repeat ⟨#[0]⟩ n w (by omega) (by show 1 * n ≤ _; omega)).mono fun e w' ⟨he, hw⟩ => ⟨?_, hw⟩
  rw [he]
  have : Lib.repeatL (⟨#[0]⟩ : ByteArray).data.toList n = zerosB n := repeat_zeros n
  rw [this]
  rfl
/-! ### sha: what stands behind -/
def padL (n : Nat) : List UInt8 := 128 :: (zerosB ((119 - n % 64) % 64) ++ putN (8 * n % 18446744073709551616) 8)
theorem pad_den (n : Nat) (hn : n < 18446744073709551616) : DenV Tryz.prog 167 [.c (u64C n)] (.c (.v (.string (bsS (padL n))))) := by
  refine Den.frame rfl rfl ?_
  refine den_of Tryz.func167 rfl rfl (by simp [Tryz.ntmps167]) (fun X hX hO => ?_)
  rw [Tryz.ntmps167] at hX
  simp only [Tryz.results167]
  have h0 : ((n : Int)).tmod 64 = ((n % 64 : Nat) : Int) := rfl
  have h1 : IntKind.u64.wrap (119 - ((n % 64 : Nat) : Int)) = ((119 - n % 64 : Nat) : Int) := (wrapU64 _ (by omega)).trans (by omega)
  have h2 : (((119 - n % 64 : Nat) : Int)).tmod 64 = (((119 - n % 64) % 64 : Nat) : Int) := rfl
  have h3 := wrap_in (((119 - n % 64) % 64 : Nat) : Int) (by omega)
  have h4 : IntKind.u64.wrap (8 * (n : Int)) = ((8 * n % 18446744073709551616 : Nat) : Int) := (modU64 _).trans (by omega)
  have hm : 8 * n % 18446744073709551616 < 18446744073709551616 := Nat.mod_lt _ (by omega)
  have hg : (119 - n % 64) % 64 < 64 := Nat.mod_lt _ (by omega)
  have hp : padL n = 128 :: (zerosB ((119 - n % 64) % 64) ++ putN (8 * n % 18446744073709551616) 8) := rfl
  generalize n % 64 = a at *
  generalize 119 - a = a2 at *
  generalize a2 % 64 = gap at *
  generalize 8 * n % 18446744073709551616 = m8 at *
  have h5 : (⟨#[128]⟩ : ByteArray) = bsS [128] := rfl
  have l1 : (zerosB gap).length = gap := by simp [zerosB]
  have l2 := putN_len m8 8
  have c1 : gap < 9223372036854775806 := by omega
  have c2 : gap + 1 + 7 < 9223372036854775807 := by omega
  have c3 : 1 + gap ≤ 9223372036854775807 := by omega
  have c4 : gap + 1 + 8 ≤ 9223372036854775807 := by omega
  repeat' (first 
   | (with_reducible first | refine awp_scope ?_ | refine awp_seq ?_ | refine awp_block ?_)
   | ((with_reducible first | refine awp_label ?_ | refine awp_skip ?_ | refine awp_exit ?_); try simp only [thenA, inBlockA, noGotoA, if_true, Nat.reduceEqDiff, if_false, ↓reduceIte])
   | ((with_reducible first | refine awp_reg 16 hX [0, 2, 3] ?_ | change postOf _ _ _ _ _); simp [-List.reduceReplicate, Nat.add_one_le_iff, -getElem?_pos, -getElem?_neg, u64C, h0, h1, h2, h3, h4, h5, bs_append, bs_size, l1, l2, c1, c2, c3, c4, hp])
   | ((first | (with_reducible refine awp_ret ?_; try simp only [thenA, inBlockA, noGotoA]) | ((with_reducible refine Den.at_ (f := 176) ?_); refine (repeat_den gap (by omega) _).det ?_) | ((with_reducible refine Den.at_ (f := 78) ?_); refine (put64_den m8 hm _).det ?_)); try simp [-List.reduceReplicate, Nat.add_one_le_iff, -getElem?_pos, -getElem?_neg, u64C, h0, h1, h2, h3, h4, h5, bs_append, bs_size, l1, l2, c1, c2, c3, c4, hp])
   | (with_reducible refine awp_if_b rfl (fun hc => ?_) (fun hc => ?_) <;> (try simp [-getElem?_pos, -getElem?_neg] at hc) <;> (try (exfalso; omega)))
   | (with_reducible refine And.intro (by omega) ?_)
   | fail)
end Go.Av

set_option exponentiation.threshold 1000
set_option linter.unusedVariables false
set_option linter.unusedSimpArgs false
set_option maxRecDepth 100000
set_option maxHeartbeats 4000000
namespace Go.Av
open Go Go.Proofs Go.Proofs.YtpcnacknlgmmlaaGreat Go.RowKit
attribute [local simp] List.getElem?_cons_zero List.getElem?_cons_succ
/-! ### sha: a State -/
def firstS : S8 := ⟨0x6a09e667, 0xbb67ae85, 0x3c6ef372, 0xa54ff53a, 0x510e527f, 0x9b05688c, 0x1f83d9ab, 0x5be0cd19⟩
theorem first_den : DenV Tryz.prog 165 [] (s8M firstS) := den_run 20 rfl (by simp [ltB, s8M]) (by kernel_rfl)
theorem first02_den : DenV Tryz.prog 121 [] (s8M firstS) := den_run 20 rfl (by simp [ltB, s8M]) (by kernel_rfl)
def blk (t : ByteArray) (i : Nat) : ByteArray := t.extract (64 * i) (64 * i + 64)
def blocksTo (s : S8) (t : ByteArray) : Nat → S8
  | 0 => s
  | i + 1 => mix (blocksTo s t i) (blk t i)
/-- A State's cells. -/
def stC (s : S8) (rest : ByteArray) (n : Nat) (on : Bool) : List C := [wC s.a, wC s.b, wC s.c, wC s.d, wC s.e, wC s.f, wC s.g, wC s.h, .v (.string rest), u64C n, bC on]
def stO (s : S8) (rest : ByteArray) (n : Nat) (on : Bool) : Ob := ⟨207, 11, false, 0, up (stC s rest n on), none⟩
def wS (s : S8) (on : Bool) : S8 := if on then s else firstS
theorem ext_size (t : ByteArray) (a b : Nat) (h : a ≤ b) (hb : b ≤ t.size) : (t.extract a b).size = b - a := by rw [ByteArray.size_extract]; omega
set_option maxHeartbeats 2000000 in
theorem write_den (pre suf : List Ob) (s : S8) (rest : ByteArray) (n : Nat) (on : Bool) (b : ByteArray) (hr : rest.size ≤ 1000000) (hb : b.size ≤ 1000000) (hn : n < 18446744073709551616) :
    Den Tryz.prog 145 [.mp pre.length 0 0, .c (.v (.string b))] (pre ++ stO s rest n on :: suf) (fun r ob' => r = .tup [] ∧
      ob' = pre ++ stO (blocksTo (wS s on) (rest ++ b) ((rest ++ b).size / 64)) ((rest ++ b).extract (64 * ((rest ++ b).size / 64)) (rest ++ b).size) ((n + b.size) % 18446744073709551616) true :: suf) := by
  refine den_of Tryz.func145 rfl rfl (by simp [Tryz.ntmps145]) (fun X hX hO => ?_)
  rw [Tryz.ntmps145] at hX
  simp only [Tryz.results145]
  have h1 := wrapU64 (b.size : Int) (by omega)
  have h2 : IntKind.u64.wrap ((n : Int) + (b.size : Int)) = (((n + b.size) % 18446744073709551616 : Nat) : Int) := (modU64 _).trans (by omega)
  have h3 : rest.size + b.size ≤ 9223372036854775807 := by omega
  have hts : (rest ++ b).size = rest.size + b.size := ByteArray.size_append
  have htl : (rest ++ b).size ≤ 2000000 := by omega
  obtain ⟨v0, hv0⟩ : ∃ v0, v0 = wS s on := ⟨_, rfl⟩
  rw [← hv0]
  generalize ht : rest ++ b = t at *
  generalize hn' : (n + b.size) % 18446744073709551616 = n' at *
  generalize hk : t.size / 64 = k at *
  rcases (Bool.eq_false_or_eq_true on) with hon | hon
  all_goals
    have hv1 := hv0
    unfold wS at hv1
    simp only [hon, if_true, Bool.false_eq_true, if_false] at hv1
    repeat' (first 
     | (with_reducible first | refine awp_scope ?_ | refine awp_seq ?_ | refine awp_block ?_)
     | ((with_reducible first | refine awp_label ?_ | refine awp_skip ?_ | refine awp_exit ?_ | refine hother _ _ rfl ?_); try simp only [thenA, inBlockA, noGotoA, if_true, Nat.reduceEqDiff, if_false, ↓reduceIte])
     | ((with_reducible first | refine awp_reg 72 hX [0, 1, 4, 6, 11, 44] ?_ | refine awp_drw 72 hX [0, 1, 4, 6, 11, 44] Tab.mixed (by kernel_rfl) ?_ | refine DEv_cut _ _ _ _ _ _ _ _ _ _ _ _ (by kernel_rfl) ?_ | change postOf _ _ _ _ _); simp [-List.reduceReplicate, Nat.add_one_le_iff, -getElem?_pos, -getElem?_neg, stO, stC, u64C, bC, h1, h2, h3, S8.l, s8M, hon, ht])
     | ((first | (with_reducible refine awp_ret ?_; try simp only [thenA, inBlockA, noGotoA]) | ((with_reducible refine Den.at_ (f := 165) ?_); refine (first_den _).det ?_) | ((with_reducible refine drawn_at (f := 165) ?_); refine ⟨_, _, first_den _, fun _ => rfl, ?_⟩)); try simp [-List.reduceReplicate, Nat.add_one_le_iff, -getElem?_pos, -getElem?_neg, stO, stC, u64C, bC, h1, h2, h3, S8.l, s8M, hon, ht])
     | (with_reducible refine awp_if_b rfl (fun hc => ?_) (fun hc => ?_) <;> (try simp [-getElem?_pos, -getElem?_neg] at hc) <;> (try (exfalso; omega)))
     | (with_reducible refine And.intro (by omega) ?_)
     | fail)
    refine awp_forU [0, 4] (fun i (_u : Unit) => [(4, .c (iC (64 * i : Nat)))]) (fun i (_u : Unit) => pre ++ stO (blocksTo v0 t i) t n' true :: suf) (fun i (_u : Unit) => True) (k) (()) (by first | trivial | (simp; done) | omega | (intros; simp at *; done)) (by simp [-List.reduceReplicate, keep, iC, stO, stC, blocksTo, u64C, bC, hv1, firstS]) (by simp [-List.reduceReplicate, iC, stO, stC, blocksTo, u64C, bC, hv1, firstS]) ?_
    rintro i _u Q1 hi hH next hother
    conv => arg 5; arg 1; simp only [List.cons_append, List.nil_append, keep, get, Nat.reduceEqDiff, if_true, if_false, ↓reduceIte]
    have hwi : IntKind.i64.wrap (64 * (i : Int) + 64) = 64 * (i : Int) + 64 := wrap_in _ (by omega)
    have hw2 : IntKind.i64.wrap ((t.size : Int) - 64 * (i : Int)) = (t.size : Int) - 64 * (i : Int) := wrap_in _ (by omega)
    have hst : blocksTo v0 t (i + 1) = mix (blocksTo v0 t i) (blk t i) := rfl
    by_cases hlt : i < k
    · have c1 : 64 ≤ (t.size : Int) - 64 * (i : Int) := by omega
      have c2 : 64 * (i : Int) + 64 ≤ t.size := by omega
      have t1 : (64 * (i : Int)).toNat = 64 * i := by omega
      have t2 : (64 * (i : Int) + 64).toNat = 64 * i + 64 := by omega
      have hbs : (blk t i).size ≤ 9223372036854775807 := by unfold blk; rw [ext_size _ _ _ (by omega) (by omega)]; omega
      have hbl : t.extract (64 * i) (64 * i + 64) = blk t i := rfl
      rw [hst] at next
      generalize blocksTo v0 t i = v at *
      repeat' (first 
       | (with_reducible first | refine awp_scope ?_ | refine awp_seq ?_ | refine awp_block ?_)
       | ((with_reducible first | refine awp_label ?_ | refine awp_skip ?_ | refine awp_exit ?_ | refine hother _ _ rfl ?_); try simp only [thenA, inBlockA, noGotoA, if_true, Nat.reduceEqDiff, if_false, ↓reduceIte])
       | ((with_reducible first | refine awp_reg 72 hX [0, 1, 4, 6, 11, 44] ?_ | refine awp_drw 72 hX [0, 1, 4, 6, 11, 44] Tab.mixed (by kernel_rfl) ?_ | refine DEv_cut _ _ _ _ _ _ _ _ _ _ _ _ (by kernel_rfl) ?_ | change postOf _ _ _ _ _); simp [-List.reduceReplicate, Nat.add_one_le_iff, -getElem?_pos, -getElem?_neg, stO, stC, S8.l, s8M, iC, u64C, bC, hwi, hw2, c1, c2, t1, t2, hbl])
       | ((first | (with_reducible refine awp_ret ?_; try simp only [thenA, inBlockA, noGotoA]) | ((with_reducible refine Den.at_ (f := 166) ?_); refine (mix_den v (blk t i) hbs _).det ?_) | ((with_reducible refine drawn_at (f := 166) ?_); refine ⟨_, _, mix_den v (blk t i) hbs _, fun _ => rfl, ?_⟩)); try simp [-List.reduceReplicate, Nat.add_one_le_iff, -getElem?_pos, -getElem?_neg, stO, stC, S8.l, s8M, iC, u64C, bC, hwi, hw2, c1, c2, t1, t2, hbl])
       | (with_reducible refine awp_if_b rfl (fun hc => ?_) (fun hc => ?_) <;> (try simp [-getElem?_pos, -getElem?_neg] at hc) <;> (try (exfalso; omega)))
       | (with_reducible refine And.intro (by omega) ?_)
       | fail)
      have hx : 64 * (i : Int) + 64 = 64 * ((i : Int) + 1) := by omega
      refine next _ _ (()) (by omega) (by first | trivial | omega | assumption) (by simp [-List.reduceReplicate, keep, iC, stO, stC, u64C, bC, hx]) (by simp [-List.reduceReplicate, iC, stO, stC, u64C, bC, hx])
    · obtain rfl : i = k := by omega
      have c1 : ¬ 64 ≤ (t.size : Int) - 64 * (i : Int) := by omega
      have c2 : 64 * (i : Int) ≤ t.size := by omega
      have t1 : (64 * (i : Int)).toNat = 64 * i := by omega
      generalize blocksTo v0 t i = v at *
      have c3 : 0 ≤ 64 * (i : Int) := by omega
      repeat' (first 
       | (with_reducible first | refine awp_scope ?_ | refine awp_seq ?_ | refine awp_block ?_)
       | ((with_reducible first | refine awp_label ?_ | refine awp_skip ?_ | refine awp_exit ?_ | refine hother _ _ rfl ?_); try simp only [thenA, inBlockA, noGotoA, if_true, Nat.reduceEqDiff, if_false, ↓reduceIte])
       | ((with_reducible first | refine awp_reg 72 hX [0, 1, 4, 6, 11, 44] ?_ | refine awp_drw 72 hX [0, 1, 4, 6, 11, 44] Tab.mixed (by kernel_rfl) ?_ | refine DEv_cut _ _ _ _ _ _ _ _ _ _ _ _ (by kernel_rfl) ?_ | change postOf _ _ _ _ _); simp [-List.reduceReplicate, Nat.add_one_le_iff, -getElem?_pos, -getElem?_neg, stO, stC, S8.l, s8M, iC, u64C, bC, hw2, c1, c2, c3, t1])
       | ((first | (with_reducible refine awp_ret ?_; try simp only [thenA, inBlockA, noGotoA])); try simp [-List.reduceReplicate, Nat.add_one_le_iff, -getElem?_pos, -getElem?_neg, stO, stC, S8.l, s8M, iC, u64C, bC, hw2, c1, c2, c3, t1])
       | (with_reducible refine awp_if_b rfl (fun hc => ?_) (fun hc => ?_) <;> (try simp [-getElem?_pos, -getElem?_neg] at hc) <;> (try (exfalso; omega)))
       | (with_reducible refine And.intro (by omega) ?_)
       | fail)
theorem stateNew_den (ob : List Ob) : Den Tryz.prog 144 [] ob (fun r ob' => r = .mp ob.length 0 0 ∧ ob' = ob ++ [stO ⟨0, 0, 0, 0, 0, 0, 0, 0⟩ ⟨#[]⟩ 0 false]) := by
  refine den_of Tryz.func144 rfl rfl (by simp [Tryz.ntmps144]) (fun X hX hO => ?_)
  rw [Tryz.ntmps144] at hX
  simp only [Tryz.results144]
  repeat' (first 
   | (with_reducible first | refine awp_scope ?_ | refine awp_seq ?_ | refine awp_block ?_)
   | ((with_reducible first | refine awp_label ?_ | refine awp_skip ?_ | refine awp_exit ?_); try simp only [thenA, inBlockA, noGotoA, if_true, Nat.reduceEqDiff, if_false, ↓reduceIte])
   | ((with_reducible first | refine awp_reg 3 hX [0] ?_ | change postOf _ _ _ _ _); simp [-List.reduceReplicate, Nat.add_one_le_iff, -getElem?_pos, -getElem?_neg, stO, stC, u64C, bC])
   | ((first | (with_reducible refine awp_ret ?_; try simp only [thenA, inBlockA, noGotoA])); try simp [-List.reduceReplicate, Nat.add_one_le_iff, -getElem?_pos, -getElem?_neg, stO, stC, u64C, bC])
   | (with_reducible refine awp_if_b rfl (fun hc => ?_) (fun hc => ?_) <;> (try simp [-getElem?_pos, -getElem?_neg] at hc) <;> (try (exfalso; omega)))
   | (with_reducible refine And.intro (by omega) ?_)
   | fail)
  rfl
/-- Words as bytes. -/
def wBytes (l : List W) : List UInt8 := l.flatMap fun x => putN x.toNat 4
/-- What comes of a State. -/
def sumS (s : S8) (rest : ByteArray) (n : Nat) (on : Bool) : List UInt8 := wBytes (blocksTo (wS s on) (rest ++ bsS (padL n)) ((rest ++ bsS (padL n)).size / 64)).l
theorem wBytes_len (l : List W) : (wBytes l).length = 4 * l.length := by
  induction l with
  | nil => rfl
  | cons x r ih => simp only [wBytes, List.flatMap_cons, List.length_append, putN_len, List.length_cons] at *; omega
theorem wBytes_app (a b : List W) : wBytes (a ++ b) = wBytes a ++ wBytes b := by simp [wBytes]
/-- The sum as it is filled. -/
def outTo (l : List W) (i : Nat) : List C := (wBytes (l.take i)).map bC8 ++ List.replicate (32 - 4 * i) (bC8 0)
theorem outTo_len (l : List W) (i : Nat) (h : i ≤ 8) (hl : l.length = 8) : (outTo l i).length = 32 := by
  simp [outTo, wBytes_len, hl]; omega
theorem outTo_lay (l : List W) (i : Nat) (h : i < 8) (hl : l.length = 8) : lay (up (outTo l i)) (4 * i) (up ((putN (l.getD i 0).toNat 4).map bC8)) = up (outTo l (i + 1)) := by
  have h4 := putN_len (l.getD i 0).toNat 4
  have hw : (wBytes (l.take i)).length = 4 * i := by rw [wBytes_len, List.length_take]; omega
  have ht : l.take (i + 1) = l.take i ++ [l.getD i 0] := by
    rw [List.take_add_one, List.getElem?_eq_getElem (by omega), List.getD_eq_getElem?_getD, List.getElem?_eq_getElem (by omega)]
    rfl
  have e : wBytes (l.take (i + 1)) = wBytes (l.take i) ++ putN (l.getD i 0).toNat 4 := by rw [ht, wBytes_app]; simp [wBytes]
  rw [lay_app _ _ _ (by simp only [up, List.length_map, outTo_len l i (by omega) hl, h4]; omega)]
  unfold outTo
  rw [e]
  generalize putN (l.getD i 0).toNat 4 = p at *
  generalize wBytes (l.take i) = q at *
  have e1 : (q.map bC8).length = 4 * i := by rw [List.length_map, hw]
  simp only [up, ← List.map_take, ← List.map_drop, ← List.map_append, List.length_map, h4]
  congr 1
  rw [List.take_append_of_le_length (by omega), List.take_of_length_le (by omega), List.drop_append, e1, List.drop_of_length_le (by omega), List.nil_append, List.drop_replicate, List.map_append]
  simp only [List.append_assoc]
  congr 3
  omega
set_option maxHeartbeats 2000000 in
theorem stateSum_den (ob : List Ob) (p : Nat) (s : S8) (rest : ByteArray) (n : Nat) (on : Bool) (hget : ob[p]? = some (stO s rest n on)) (hr : rest.size ≤ 900000) (hn : n < 18446744073709551616) :
    Den Tryz.prog 146 [.mp p 0 0] ob (fun r ob' => r = hashM (sumS s rest n on) ∧ ob' = ob) := by
  refine Den.dropM (lt_hash _ _) ?_
  have hlt : p < ob.length := (List.getElem?_eq_some_iff.1 hget).1
  have hget2 : ∀ l, (ob ++ l)[p]? = some (stO s rest n on) := fun l => by rw [List.getElem?_append_left hlt, hget]
  obtain ⟨out, hout⟩ : ∃ out, out = sumS s rest n on := ⟨_, rfl⟩
  rw [← hout]
  refine den_of Tryz.func146 rfl rfl (by simp [Tryz.ntmps146]) (fun X hX hO => ?_)
  rw [Tryz.ntmps146] at hX
  simp only [Tryz.results146]
  have hW := write_den (ob ++ [⟨24, 1, false, 0, up (List.replicate 32 (C.v (Value.int IntKind.u8 0))), none⟩]) [] s rest n on (bsS (padL n)) (by omega) (by rw [bs_size]; simp [padL, zerosB, putN_len]; omega) hn
  unfold sumS at hout
  generalize blocksTo (wS s on) (rest ++ bsS (padL n)) ((rest ++ bsS (padL n)).size / 64) = v at *
  generalize (rest ++ bsS (padL n)).extract (64 * ((rest ++ bsS (padL n)).size / 64)) (rest ++ bsS (padL n)).size = r2 at *
  generalize (n + (bsS (padL n)).size) % 18446744073709551616 = n2 at *
  simp only [stO, stC] at hget hget2 hW
  simp [-List.reduceReplicate] at hW
  repeat' (first 
   | (with_reducible first | refine awp_scope ?_ | refine awp_seq ?_ | refine awp_block ?_)
   | ((with_reducible first | refine awp_label ?_ | refine awp_skip ?_ | refine awp_exit ?_ | refine hother _ _ rfl ?_); try simp only [thenA, inBlockA, noGotoA, if_true, Nat.reduceEqDiff, if_false, ↓reduceIte])
   | ((with_reducible first | refine awp_reg 37 hX [0, 2, 3, 4, 5, 6, 9, 18, 19, 20] ?_ | refine awp_drw 37 hX [0, 2, 3, 4, 5, 6, 9, 18, 19, 20] Tab.mixed (by kernel_rfl) ?_ | refine DEv_cut _ _ _ _ _ _ _ _ _ _ _ _ (by kernel_rfl) ?_ | change postOf _ _ _ _ _); simp [-List.reduceReplicate, Nat.add_one_le_iff, -getElem?_pos, -getElem?_neg, u64C, bC, hget, hget2, hlt])
   | ((first | (with_reducible refine awp_ret ?_; try simp only [thenA, inBlockA, noGotoA]) | ((with_reducible refine Den.at_ (f := 167) ?_); refine (pad_den n hn _).det ?_) | ((with_reducible refine drawn_at (f := 167) ?_); refine ⟨_, _, pad_den n hn _, fun _ => rfl, ?_⟩) | (refine (hW).det ?_) | (refine ⟨_, _, hW, fun _ => rfl, ?_⟩)); try simp [-List.reduceReplicate, Nat.add_one_le_iff, -getElem?_pos, -getElem?_neg, u64C, bC, hget, hget2, hlt])
   | (with_reducible refine awp_if_b rfl (fun hc => ?_) (fun hc => ?_) <;> (try simp [-getElem?_pos, -getElem?_neg] at hc) <;> (try (exfalso; omega)))
   | (with_reducible refine And.intro (by omega) ?_)
   | fail)
  refine awp_forU [2, 4, 18, 19] (fun i (_u : Unit) => [(19, .c (iC i))]) (fun i (_u : Unit) => ob ++ [⟨24, 1, false, 0, up (List.replicate 32 (C.v (Value.int IntKind.u8 0))), none⟩, ⟨207, 11, false, 0, up [wC v.a, wC v.b, wC v.c, wC v.d, wC v.e, wC v.f, wC v.g, wC v.h, C.v (Value.string r2), C.v (Value.int IntKind.u64 n2), C.v (Value.bool true)], none⟩, ⟨24, 1, false, 0, up (outTo v.l i), none⟩]) (fun i (_u : Unit) => True) (8) (()) (by first | trivial | (simp; done) | omega | (intros; simp at *; done)) (by simp [-List.reduceReplicate, keep, iC, outTo, wBytes, bC8]) (by simp [-List.reduceReplicate, iC, outTo, wBytes, bC8]) ?_
  rintro i _u Q1 hi hH next hother
  conv => arg 5; arg 1; simp only [List.cons_append, List.nil_append, keep, get, Nat.reduceEqDiff, if_true, if_false, ↓reduceIte]
  have hwi := wrap_in ((i : Int) + 1) (by omega)
  have hol := outTo_len v.l i (by show i ≤ 8; omega) rfl
  by_cases hlt : i < 8
  · have hlay := outTo_lay v.l i hlt rfl
    have hv : [wC v.a, wC v.b, wC v.c, wC v.d, wC v.e, wC v.f, wC v.g, wC v.h][i]? = some (wC (v.l.getD i 0)) := ws_get v.l i 8 hlt rfl
    have hw1 : IntKind.i64.wrap (4 * (i : Int)) = 4 * (i : Int) := wrap_in _ (by omega)
    have hw2 : IntKind.i64.wrap (4 * (i : Int) + 4) = 4 * (i : Int) + 4 := wrap_in _ (by omega)
    have h8 : (i : Int) < 8 := by omega
    have c1 : 0 ≤ 4 * (i : Int) := by omega
    have c2 : 4 * (i : Int) < 4 * (i : Int) + 4 := by omega
    have c3 : 4 * (i : Int) + 4 ≤ 32 := by omega
    have c4 : 4 * (i : Int) + 4 - 4 * (i : Int) = 4 := by omega
    have c5 : (4 * (i : Int)).toNat = 4 * i := by omega
    have c6 : 4 * i + 4 ≤ 32 := by omega
    have hpl := putN_len (v.l.getD i 0).toNat 4
    have hxl := (v.l.getD i 0).isLt
    have hbt := bs_toList (putN (v.l.getD i 0).toNat 4)
    have hbz := bs_size (putN (v.l.getD i 0).toNat 4)
    generalize v.l.getD i 0 = x at *
    have htk : ∀ f : UInt8 → C, ((putN x.toNat 4).map f).take 4 = (putN x.toNat 4).map f := fun f => List.take_of_length_le (by simp [hpl])
    have hfn : (fun b : UInt8 => C.v (.int .u8 (b.toNat : Int))) = bC8 := rfl
    repeat' (first 
     | (with_reducible first | refine awp_scope ?_ | refine awp_seq ?_ | refine awp_block ?_)
     | ((with_reducible first | refine awp_label ?_ | refine awp_skip ?_ | refine awp_exit ?_ | refine hother _ _ rfl ?_); try simp only [thenA, inBlockA, noGotoA, if_true, Nat.reduceEqDiff, if_false, ↓reduceIte])
     | ((with_reducible first | refine awp_reg 37 hX [0, 2, 3, 4, 5, 6, 9, 18, 19, 20] ?_ | refine awp_drw 37 hX [0, 2, 3, 4, 5, 6, 9, 18, 19, 20] Tab.mixed (by kernel_rfl) ?_ | refine DEv_cut _ _ _ _ _ _ _ _ _ _ _ _ (by kernel_rfl) ?_ | change postOf _ _ _ _ _); simp [-List.reduceReplicate, Nat.add_one_le_iff, -getElem?_pos, -getElem?_neg, iC, hlt, h8, hwi, hv, hw1, hw2, c1, c2, c3, c4, c5, c6, hol, hpl, hbt, hbz, htk, hfn])
     | ((first | (with_reducible refine awp_ret ?_; try simp only [thenA, inBlockA, noGotoA]) | ((with_reducible refine Den.at_ (f := 77) ?_); refine (put32_den x.toNat hxl _).det ?_) | ((with_reducible refine drawn_at (f := 77) ?_); refine ⟨_, _, put32_den x.toNat hxl _, fun _ => rfl, ?_⟩)); try simp [-List.reduceReplicate, Nat.add_one_le_iff, -getElem?_pos, -getElem?_neg, iC, hlt, h8, hwi, hv, hw1, hw2, c1, c2, c3, c4, c5, c6, hol, hpl, hbt, hbz, htk, hfn])
     | (with_reducible refine awp_if_b rfl (fun hc => ?_) (fun hc => ?_) <;> (try simp [-getElem?_pos, -getElem?_neg] at hc) <;> (try (exfalso; omega)))
     | (with_reducible refine And.intro (by omega) ?_)
     | fail)
    refine next _ _ (()) (by omega) (by first | trivial | omega | assumption) (by simp [-List.reduceReplicate, keep, iC, hlay]) (by simp [-List.reduceReplicate, iC, hlay])
  · obtain rfl : i = 8 := by omega
    have hfin : outTo v.l 8 = (wBytes v.l).map bC8 := by
      unfold outTo
      rw [List.take_of_length_le (by show 8 ≤ 8; omega)]
      simp
    have hl32 : (wBytes v.l).length = 32 := wBytes_len v.l
    have htk : ((wBytes v.l).map bC8).take 32 = (wBytes v.l).map bC8 := List.take_of_length_le (by simp [hl32])
    rw [hfin]
    repeat' (first 
     | (with_reducible first | refine awp_scope ?_ | refine awp_seq ?_ | refine awp_block ?_)
     | ((with_reducible first | refine awp_label ?_ | refine awp_skip ?_ | refine awp_exit ?_ | refine hother _ _ rfl ?_); try simp only [thenA, inBlockA, noGotoA, if_true, Nat.reduceEqDiff, if_false, ↓reduceIte])
     | ((with_reducible first | refine awp_reg 37 hX [0, 2, 3, 4, 5, 6, 9, 18, 19, 20] ?_ | refine awp_drw 37 hX [0, 2, 3, 4, 5, 6, 9, 18, 19, 20] Tab.mixed (by kernel_rfl) ?_ | refine DEv_cut _ _ _ _ _ _ _ _ _ _ _ _ (by kernel_rfl) ?_ | change postOf _ _ _ _ _); simp [-List.reduceReplicate, Nat.add_one_le_iff, -getElem?_pos, -getElem?_neg, iC, hl32, htk])
     | ((first | (with_reducible refine awp_ret ?_; try simp only [thenA, inBlockA, noGotoA])); try simp [-List.reduceReplicate, Nat.add_one_le_iff, -getElem?_pos, -getElem?_neg, iC, hl32, htk])
     | (with_reducible refine awp_if_b rfl (fun hc => ?_) (fun hc => ?_) <;> (try simp [-getElem?_pos, -getElem?_neg] at hc) <;> (try (exfalso; omega)))
     | (with_reducible refine And.intro (by omega) ?_)
     | fail)
    rw [hout]
    rfl
end Go.Av

set_option exponentiation.threshold 1000
set_option linter.unusedVariables false
set_option linter.unusedSimpArgs false
set_option maxRecDepth 100000
set_option maxHeartbeats 4000000
namespace Go.Av
open Go Go.Proofs Go.Proofs.YtpcnacknlgmmlaaGreat Go.RowKit
attribute [local simp] List.getElem?_cons_zero List.getElem?_cons_succ
/-! ### sha: texts that come piece by piece -/
theorem ext_list (t : ByteArray) (a b : Nat) : (t.extract a b).data.toList = (t.data.toList.drop a).take (b - a) := by
  rw [ByteArray.data_extract, Array.toList_extract]
theorem app_list (a b : ByteArray) : (a ++ b).data.toList = a.data.toList ++ b.data.toList := by simp
theorem blk_list (t : ByteArray) (i : Nat) : (blk t i).data.toList = (t.data.toList.drop (64 * i)).take 64 := by
  unfold blk
  rw [ext_list, show 64 * i + 64 - 64 * i = 64 by omega]
def restOf (t : ByteArray) : ByteArray := t.extract (64 * (t.size / 64)) t.size
theorem rest_list (t : ByteArray) : (restOf t).data.toList = t.data.toList.drop (64 * (t.size / 64)) := by
  unfold restOf
  rw [ext_list]
  exact List.take_of_length_le (by rw [List.length_drop, ← size_list]; omega)
theorem rest_size (t : ByteArray) : (restOf t).size = t.size % 64 := by rw [size_list, rest_list, List.length_drop, ← size_list]; omega
theorem blk_rest (t b : ByteArray) (i : Nat) : blk (t ++ b) (t.size / 64 + i) = blk (restOf t ++ b) i := by
  apply ba_ext
  rw [blk_list, blk_list, app_list, app_list, rest_list, Nat.mul_add, ← List.drop_drop, List.drop_append_of_le_length (by rw [← size_list]; omega)]
theorem blocks_congr (s : S8) (t t' : ByteArray) (n : Nat) (h : ∀ i, i < n → blk t i = blk t' i) : blocksTo s t n = blocksTo s t' n := by
  induction n with
  | zero => rfl
  | succ n ih => simp only [blocksTo]; rw [ih fun i hi => h i (by omega), h n (by omega)]
theorem blk_left (t b : ByteArray) (i : Nat) (h : i < t.size / 64) : blk (t ++ b) i = blk t i := by
  apply ba_ext
  rw [blk_list, blk_list, app_list, List.drop_append_of_le_length (by rw [← size_list]; omega), List.take_append_of_le_length (by rw [List.length_drop, ← size_list]; omega)]
theorem blocks_app (s : S8) (t b : ByteArray) (j : Nat) : blocksTo (blocksTo s t (t.size / 64)) (restOf t ++ b) j = blocksTo s (t ++ b) (t.size / 64 + j) := by
  induction j with
  | zero => exact (blocks_congr s _ _ _ fun i hi => blk_left t b i hi).symm
  | succ j ih => simp only [blocksTo]; rw [ih, ← blk_rest]; rfl
theorem count_app (t b : ByteArray) : (t ++ b).size / 64 = t.size / 64 + (restOf t ++ b).size / 64 := by
  rw [ByteArray.size_append, ByteArray.size_append, rest_size]; omega
/-- A State that a text came to. -/
def stT (t : ByteArray) : Ob := stO (blocksTo firstS t (t.size / 64)) (restOf t) t.size true
def st0 : Ob := stO ⟨0, 0, 0, 0, 0, 0, 0, 0⟩ ⟨#[]⟩ 0 false
/-- The sum of a text. -/
def shaL (t : ByteArray) : List UInt8 := wBytes (blocksTo firstS (t ++ bsS (padL t.size)) ((t ++ bsS (padL t.size)).size / 64)).l
theorem empty_app (b : ByteArray) : (⟨#[]⟩ : ByteArray) ++ b = b := by apply ba_ext; simp
theorem write0_den (pre suf : List Ob) (b : ByteArray) (hb : b.size ≤ 1000000) :
    Den Tryz.prog 145 [.mp pre.length 0 0, .c (.v (.string b))] (pre ++ st0 :: suf) (fun r ob' => r = .tup [] ∧ ob' = pre ++ stT b :: suf) := by
  have h := write_den pre suf ⟨0, 0, 0, 0, 0, 0, 0, 0⟩ ⟨#[]⟩ 0 false b (by decide) hb (by omega)
  have hw : wS ⟨0, 0, 0, 0, 0, 0, 0, 0⟩ false = firstS := rfl
  have e2 : (0 + b.size) % 18446744073709551616 = b.size := by omega
  rw [hw, empty_app, e2] at h
  exact h
theorem sumT_den (ob : List Ob) (p : Nat) (t : ByteArray) (hget : ob[p]? = some (stT t)) (ht : t.size ≤ 800000) :
    Den Tryz.prog 146 [.mp p 0 0] ob (fun r ob' => r = hashM (shaL t) ∧ ob' = ob) := by
  have h := stateSum_den ob p _ _ _ _ hget (by rw [rest_size]; omega) (by omega)
  have e : sumS (blocksTo firstS t (t.size / 64)) (restOf t) t.size true = shaL t := by
    unfold sumS shaL
    have hw : wS (blocksTo firstS t (t.size / 64)) true = blocksTo firstS t (t.size / 64) := rfl
    rw [hw, blocks_app, ← count_app]
  rw [e] at h
  exact h
theorem sha_den (b : ByteArray) (hb : b.size ≤ 800000) : DenV Tryz.prog 115 [.c (.v (.string b))] (hashM (shaL b)) := by
  refine Den.frame rfl (lt_hash _ _) ?_
  obtain ⟨out, hout⟩ : ∃ out, out = shaL b := ⟨_, rfl⟩
  rw [← hout]
  refine den_of Tryz.func115 rfl rfl (by simp [Tryz.ntmps115]) (fun X hX hO => ?_)
  rw [Tryz.ntmps115] at hX
  simp only [Tryz.results115]
  have h1 := stateNew_den [⟨24, 1, false, 0, up (List.replicate 32 (C.v (Value.int IntKind.u8 0))), none⟩]
  have h2 := write0_den [⟨24, 1, false, 0, up (List.replicate 32 (C.v (Value.int IntKind.u8 0))), none⟩] [] b (by omega)
  have h3 := sumT_den [⟨24, 1, false, 0, up (List.replicate 32 (C.v (Value.int IntKind.u8 0))), none⟩, stT b] 1 b rfl hb
  rw [← hout] at h3
  have hl : out.length = 32 := by rw [hout]; exact wBytes_len _
  have htk : (out.map bC8).take 32 = out.map bC8 := List.take_of_length_le (by simp [hl])
  change Den Tryz.prog _ _ _ (fun r ob' => r = _ ∧ ob' = _ ++ [st0]) at h1
  simp [-List.reduceReplicate] at h1 h2
  repeat' (first 
   | (with_reducible first | refine awp_scope ?_ | refine awp_seq ?_ | refine awp_block ?_)
   | ((with_reducible first | refine awp_label ?_ | refine awp_skip ?_ | refine awp_exit ?_); try simp only [thenA, inBlockA, noGotoA, if_true, Nat.reduceEqDiff, if_false, ↓reduceIte])
   | ((with_reducible first | refine awp_reg 10 hX [0, 2, 3] ?_ | change postOf _ _ _ _ _); simp [-List.reduceReplicate, Nat.add_one_le_iff, -getElem?_pos, -getElem?_neg, hashM, hl, htk])
   | ((first | (with_reducible refine awp_ret ?_; try simp only [thenA, inBlockA, noGotoA]) | (refine (h1).det ?_) | (refine (h2).det ?_) | (refine (h3).det ?_)); try simp [-List.reduceReplicate, Nat.add_one_le_iff, -getElem?_pos, -getElem?_neg, hashM, hl, htk])
   | (with_reducible refine awp_if_b rfl (fun hc => ?_) (fun hc => ?_) <;> (try simp [-getElem?_pos, -getElem?_neg] at hc) <;> (try (exfalso; omega)))
   | (with_reducible refine And.intro (by omega) ?_)
   | fail)
end Go.Av

set_option exponentiation.threshold 1000
set_option linter.unusedVariables false
set_option linter.unusedSimpArgs false
set_option maxRecDepth 100000
set_option maxHeartbeats 4000000
namespace Go.Av
open Go Go.Proofs Go.Proofs.YtpcnacknlgmmlaaGreat Go.RowKit
attribute [local simp] List.getElem?_cons_zero List.getElem?_cons_succ
/-! ### the document's sha -/
theorem zerosB_succ (i : Nat) : zerosB i ++ [0] = zerosB (i + 1) := by unfold zerosB; rw [List.replicate_succ']
theorem pad02_den (n : Nat) (hn : n < 18446744073709551616) : DenV Tryz.prog 122 [.c (u64C n)] (.c (.v (.string (bsS (padL n))))) := by
  refine Den.frame rfl rfl ?_
  refine den_of Tryz.func122 rfl rfl (by simp [Tryz.ntmps122]) (fun X hX hO => ?_)
  rw [Tryz.ntmps122] at hX
  simp only [Tryz.results122]
  have hp : padL n = 128 :: (zerosB ((119 - n % 64) % 64) ++ putN (8 * n % 18446744073709551616) 8) := rfl
  have h4 : IntKind.u64.wrap ((n : Int) * 8) = ((8 * n % 18446744073709551616 : Nat) : Int) := (modU64 _).trans (by omega)
  have hm8 : 8 * n % 18446744073709551616 < 18446744073709551616 := Nat.mod_lt _ (by omega)
  have hg : (119 - n % 64) % 64 < 64 := Nat.mod_lt _ (by omega)
  have ha : n % 64 < 64 := Nat.mod_lt _ (by omega)
  have h0 : ((n : Int)).tmod 64 = ((n % 64 : Nat) : Int) := rfl
  have hgap : ∀ i, i ≤ (119 - n % 64) % 64 → (i < (119 - n % 64) % 64 ↔ (n % 64 + (1 + i) + 8) % 64 ≠ 0) := fun i hi => by omega
  generalize n % 64 = a at *
  generalize (119 - a) % 64 = gap at *
  generalize 8 * n % 18446744073709551616 = m8 at *
  have z1 : bsS [UInt8.ofNat (128 % 256 : Int).toNat] = bsS (128 :: zerosB 0) := rfl
  have z2 : bsS [UInt8.ofNat (0 % 256 : Int).toNat] = bsS [0] := rfl
  repeat' (first 
   | (with_reducible first | refine awp_scope ?_ | refine awp_seq ?_ | refine awp_block ?_)
   | ((with_reducible first | refine awp_label ?_ | refine awp_skip ?_ | refine awp_exit ?_ | refine hother _ _ rfl ?_); try simp only [thenA, inBlockA, noGotoA, if_true, Nat.reduceEqDiff, if_false, ↓reduceIte])
   | ((with_reducible first | refine awp_reg 22 hX [0, 2, 3, 13] ?_ | change postOf _ _ _ _ _); simp [-List.reduceReplicate, Nat.add_one_le_iff, -getElem?_pos, -getElem?_neg, u64C, z1])
   | ((first | (with_reducible refine awp_ret ?_; try simp only [thenA, inBlockA, noGotoA]) | ((with_reducible refine Den.at_ (f := 82) ?_); refine (byte01_den 128 _).det ?_)); try simp [-List.reduceReplicate, Nat.add_one_le_iff, -getElem?_pos, -getElem?_neg, u64C, z1])
   | (with_reducible refine awp_if_b rfl (fun hc => ?_) (fun hc => ?_) <;> (try simp [-getElem?_pos, -getElem?_neg] at hc) <;> (try (exfalso; omega)))
   | (with_reducible refine And.intro (by omega) ?_)
   | fail)
  refine awp_forU [0, 3] (fun i (_u : Unit) => [(3, .c (.v (.string (bsS (128 :: zerosB i)))))]) (fun i (_u : Unit) => []) (fun i (_u : Unit) => True) (gap) (()) (by first | trivial | (simp; done) | omega | (intros; simp at *; done)) (by simp [-List.reduceReplicate, keep, z1, zerosB]) (by simp [-List.reduceReplicate, z1, zerosB]) ?_
  rintro i _u Q1 hi hH next hother
  conv => arg 5; arg 1; simp only [List.cons_append, List.nil_append, keep, get, Nat.reduceEqDiff, if_true, if_false, ↓reduceIte]
  have l1 : (zerosB i).length = i := by simp [zerosB]
  have w1 := wrapU64 ((i : Int) + 1) (by omega)
  have w2 := wrapU64 ((a : Int) + ((i : Int) + 1)) (by omega)
  have w3 := wrapU64 ((a : Int) + ((i : Int) + 1) + 8) (by omega)
  have hiff := hgap i hi
  by_cases hlt : i < gap
  · have hne : ¬ (((a : Int) + ((i : Int) + 1) + 8)).tmod 64 = 0 := by
      have := hiff.1 hlt
      rw [show ((a : Int) + ((i : Int) + 1) + 8).tmod 64 = (((a + (1 + i) + 8) % 64 : Nat) : Int) by rw [show (a : Int) + ((i : Int) + 1) + 8 = ((a + (1 + i) + 8 : Nat) : Int) by omega]; rfl]
      omega
    have hz := zerosB_succ i
    have c1 : i + 1 < 9223372036854775807 := by omega
    repeat' (first 
     | (with_reducible first | refine awp_scope ?_ | refine awp_seq ?_ | refine awp_block ?_)
     | ((with_reducible first | refine awp_label ?_ | refine awp_skip ?_ | refine awp_exit ?_ | refine hother _ _ rfl ?_); try simp only [thenA, inBlockA, noGotoA, if_true, Nat.reduceEqDiff, if_false, ↓reduceIte])
     | ((with_reducible first | refine awp_reg 22 hX [0, 2, 3, 13] ?_ | change postOf _ _ _ _ _); simp [-List.reduceReplicate, Nat.add_one_le_iff, -getElem?_pos, -getElem?_neg, u64C, h0, l1, w1, w2, w3, hne, z2, bs_append, bs_size, hz, c1])
     | ((first | (with_reducible refine awp_ret ?_; try simp only [thenA, inBlockA, noGotoA]) | ((with_reducible refine Den.at_ (f := 82) ?_); refine (byte01_den 0 _).det ?_)); try simp [-List.reduceReplicate, Nat.add_one_le_iff, -getElem?_pos, -getElem?_neg, u64C, h0, l1, w1, w2, w3, hne, z2, bs_append, bs_size, hz, c1])
     | (with_reducible refine awp_if_b rfl (fun hc => ?_) (fun hc => ?_) <;> (try simp [-getElem?_pos, -getElem?_neg] at hc) <;> (try (exfalso; omega)))
     | (with_reducible refine And.intro (by omega) ?_)
     | fail)
    refine next _ _ (()) (by omega) (by first | trivial | omega | assumption) (by simp [-List.reduceReplicate, keep, u64C]) (by simp [-List.reduceReplicate, u64C])
  · obtain rfl : i = gap := by omega
    have he : (((a : Int) + ((i : Int) + 1) + 8)).tmod 64 = 0 := by
      have : (a + (1 + i) + 8) % 64 = 0 := by
        by_cases h : (a + (1 + i) + 8) % 64 = 0
        · exact h
        · exact absurd (hiff.2 h) hlt
      rw [show ((a : Int) + ((i : Int) + 1) + 8).tmod 64 = (((a + (1 + i) + 8) % 64 : Nat) : Int) by rw [show (a : Int) + ((i : Int) + 1) + 8 = ((a + (1 + i) + 8 : Nat) : Int) by omega]; rfl]
      omega
    have l2 := putN_len m8 8
    have c2 : i + 1 + 7 < 9223372036854775807 := by omega
    repeat' (first 
     | (with_reducible first | refine awp_scope ?_ | refine awp_seq ?_ | refine awp_block ?_)
     | ((with_reducible first | refine awp_label ?_ | refine awp_skip ?_ | refine awp_exit ?_ | refine hother _ _ rfl ?_); try simp only [thenA, inBlockA, noGotoA, if_true, Nat.reduceEqDiff, if_false, ↓reduceIte])
     | ((with_reducible first | refine awp_reg 22 hX [0, 2, 3, 13] ?_ | change postOf _ _ _ _ _); simp [-List.reduceReplicate, Nat.add_one_le_iff, -getElem?_pos, -getElem?_neg, u64C, h0, l1, l2, w1, w2, w3, he, h4, bs_append, bs_size, c2, hp])
     | ((first | (with_reducible refine awp_ret ?_; try simp only [thenA, inBlockA, noGotoA]) | ((with_reducible refine Den.at_ (f := 81) ?_); refine (put01_den m8 8 hm8 (by omega) _).det ?_)); try simp [-List.reduceReplicate, Nat.add_one_le_iff, -getElem?_pos, -getElem?_neg, u64C, h0, l1, l2, w1, w2, w3, he, h4, bs_append, bs_size, c2, hp])
     | (with_reducible refine awp_if_b rfl (fun hc => ?_) (fun hc => ?_) <;> (try simp [-getElem?_pos, -getElem?_neg] at hc) <;> (try (exfalso; omega)))
     | (with_reducible refine And.intro (by omega) ?_)
     | fail)
/-- The sum as it is filled, byte by byte. -/
def outTo2 (l : List W) (j : Nat) (p : List UInt8) (q : Nat) : List C := (wBytes (l.take j) ++ p.take q).map bC8 ++ List.replicate (32 - 4 * j - q) (bC8 0)
theorem outTo2_zero (l : List W) (j : Nat) (p : List UInt8) : outTo2 l j p 0 = outTo l j := by simp [outTo2, outTo]
theorem outTo2_len (l : List W) (j q : Nat) (p : List UInt8) (h : j < 8) (hq : q ≤ 4) (hp : p.length = 4) (hl : l.length = 8) : (outTo2 l j p q).length = 32 := by
  simp [outTo2, wBytes_len, hl, hp]; omega
theorem outTo2_set (l : List W) (j q : Nat) (p : List UInt8) (c : UInt8) (h : j < 8) (hq : q < 4) (hp : p.length = 4) (hl : l.length = 8) (hc : p[q]? = some c) : (outTo2 l j p q).set (4 * j + q) (bC8 c) = outTo2 l j p (q + 1) := by
  have hw : (wBytes (l.take j)).length = 4 * j := by rw [wBytes_len, List.length_take]; omega
  unfold outTo2
  rw [show 32 - 4 * j - q = (32 - 4 * j - (q + 1)) + 1 by omega, List.replicate_succ, List.set_append_right _ _ (by simp [hw, hp]; omega), List.length_map, List.length_append, hw, List.length_take, hp, show 4 * j + q - (4 * j + min q 4) = 0 by omega, List.take_add_one, hc]
  simp
set_option maxHeartbeats 2000000 in
theorem sha02_den (b : ByteArray) (hb : b.size ≤ 800000) : DenV Tryz.prog 93 [.c (.v (.string b))] (hashM (shaL b)) := by
  refine Den.frame rfl (lt_hash _ _) ?_
  obtain ⟨out, hout⟩ : ∃ out, out = shaL b := ⟨_, rfl⟩
  rw [← hout]
  refine den_of Tryz.func93 rfl rfl (by simp [Tryz.ntmps93]) (fun X hX hO => ?_)
  rw [Tryz.ntmps93] at hX
  simp only [Tryz.results93]
  have hpl : (padL b.size).length = 9 + (119 - b.size % 64) % 64 := by simp [padL, zerosB, putN_len]; omega
  have hts : (b ++ bsS (padL b.size)).size = b.size + (9 + (119 - b.size % 64) % 64) := by rw [ByteArray.size_append, bs_size, hpl]
  have h1 := wrapU64 (b.size : Int) (by omega)
  have h2 : b.size + (9 + (119 - b.size % 64) % 64) ≤ 9223372036854775807 := by omega
  have hsz := bs_size (padL b.size)
  obtain ⟨t, ht⟩ : ∃ t, t = b ++ bsS (padL b.size) := ⟨_, rfl⟩
  unfold shaL at hout
  rw [← ht] at hout hts
  have hk64 : t.size = 64 * (t.size / 64) := by omega
  generalize hk : t.size / 64 = k at *
  obtain ⟨f0, hf0⟩ : ∃ f0, f0 = firstS := ⟨_, rfl⟩
  rw [← hf0] at hout
  have hfd := first02_den
  rw [← hf0] at hfd
  repeat' (first 
   | (with_reducible first | refine awp_scope ?_ | refine awp_seq ?_ | refine awp_block ?_)
   | ((with_reducible first | refine awp_label ?_ | refine awp_skip ?_ | refine awp_exit ?_ | refine hother _ _ rfl ?_ | refine hother2 _ _ rfl ?_); try simp only [thenA, inBlockA, noGotoA, if_true, Nat.reduceEqDiff, if_false, ↓reduceIte])
   | ((with_reducible first | refine awp_reg 51 hX [0, 2, 3, 4, 5, 6, 7, 8, 19, 30, 39] ?_ | refine awp_drw 51 hX [0, 2, 3, 4, 5, 6, 7, 8, 19, 30, 39] Tab.mixed (by kernel_rfl) ?_ | refine DEv_cut _ _ _ _ _ _ _ _ _ _ _ _ (by kernel_rfl) ?_ | change postOf _ _ _ _ _); simp [-List.reduceReplicate, Nat.add_one_le_iff, -getElem?_pos, -getElem?_neg, u64C, s8M, S8.l, h1, hsz, hpl, h2, ← ht])
   | ((first | (with_reducible refine awp_ret ?_; try simp only [thenA, inBlockA, noGotoA]) | (refine (hfd _).det ?_) | (refine ⟨_, _, hfd _, fun _ => rfl, ?_⟩) | ((with_reducible refine Den.at_ (f := 122) ?_); refine (pad02_den b.size (by omega) _).det ?_) | ((with_reducible refine drawn_at (f := 122) ?_); refine ⟨_, _, pad02_den b.size (by omega) _, fun _ => rfl, ?_⟩)); try simp [-List.reduceReplicate, Nat.add_one_le_iff, -getElem?_pos, -getElem?_neg, u64C, s8M, S8.l, h1, hsz, hpl, h2, ← ht])
   | (with_reducible refine awp_if_b rfl (fun hc => ?_) (fun hc => ?_) <;> (try simp [-getElem?_pos, -getElem?_neg] at hc) <;> (try (exfalso; omega)))
   | (with_reducible refine And.intro (by omega) ?_)
   | fail)
  refine awp_forU [0, 2, 3, 4] (fun i (_u : Unit) => [(4, .c (iC (64 * i : Nat)))]) (fun i (_u : Unit) => [⟨24, 1, false, 0, up (List.replicate 32 (C.v (Value.int IntKind.u8 0))), none⟩, ⟨165, 1, false, 0, up ((blocksTo f0 t i).l.map wC), none⟩]) (fun i (_u : Unit) => True) (k) (()) (by first | trivial | (simp; done) | omega | (intros; simp at *; done)) (by simp [-List.reduceReplicate, keep, iC, blocksTo, S8.l]) (by simp [-List.reduceReplicate, iC, blocksTo, S8.l]) ?_
  rintro i _u Q1 hi hH next hother
  conv => arg 5; arg 1; simp only [List.cons_append, List.nil_append, keep, get, Nat.reduceEqDiff, if_true, if_false, ↓reduceIte]
  have hwi : IntKind.i64.wrap (64 * (i : Int) + 64) = 64 * (i : Int) + 64 := wrap_in _ (by omega)
  by_cases hlt : i < k
  · have hst : blocksTo f0 t (i + 1) = mix (blocksTo f0 t i) (blk t i) := rfl
    have c1 : 64 * (i : Int) < t.size := by omega
    have c2 : 64 * (i : Int) + 64 ≤ t.size := by omega
    have t1 : (64 * (i : Int)).toNat = 64 * i := by omega
    have t2 : (64 * (i : Int) + 64).toNat = 64 * i + 64 := by omega
    have c3 : 0 ≤ 64 * (i : Int) := by omega
    have c4 : 64 * (i : Int) ≤ 64 * (i : Int) + 64 := by omega
    have hbs : (blk t i).size ≤ 9223372036854775807 := by unfold blk; rw [ext_size _ _ _ (by omega) (by omega)]; omega
    have hbl : t.extract (64 * i) (64 * i + 64) = blk t i := rfl
    rw [hst] at next
    generalize blocksTo f0 t i = v at *
    have hx : 64 * (i : Int) + 64 = 64 * ((i : Int) + 1) := by omega
    repeat' (first 
     | (with_reducible first | refine awp_scope ?_ | refine awp_seq ?_ | refine awp_block ?_)
     | ((with_reducible first | refine awp_label ?_ | refine awp_skip ?_ | refine awp_exit ?_ | refine hother _ _ rfl ?_ | refine hother2 _ _ rfl ?_); try simp only [thenA, inBlockA, noGotoA, if_true, Nat.reduceEqDiff, if_false, ↓reduceIte])
     | ((with_reducible first | refine awp_reg 51 hX [0, 2, 3, 4, 5, 6, 7, 8, 19, 30, 39] ?_ | refine awp_drw 51 hX [0, 2, 3, 4, 5, 6, 7, 8, 19, 30, 39] Tab.mixed (by kernel_rfl) ?_ | refine DEv_cut _ _ _ _ _ _ _ _ _ _ _ _ (by kernel_rfl) ?_ | change postOf _ _ _ _ _); simp [-List.reduceReplicate, Nat.add_one_le_iff, -getElem?_pos, -getElem?_neg, S8.l, s8M, iC, hwi, c1, c2, c3, c4, t1, t2, hbl])
     | ((first | (with_reducible refine awp_ret ?_; try simp only [thenA, inBlockA, noGotoA]) | ((with_reducible refine Den.at_ (f := 123) ?_); refine (mix02_den v (blk t i) hbs _).det ?_) | ((with_reducible refine drawn_at (f := 123) ?_); refine ⟨_, _, mix02_den v (blk t i) hbs _, fun _ => rfl, ?_⟩)); try simp [-List.reduceReplicate, Nat.add_one_le_iff, -getElem?_pos, -getElem?_neg, S8.l, s8M, iC, hwi, c1, c2, c3, c4, t1, t2, hbl])
     | (with_reducible refine awp_if_b rfl (fun hc => ?_) (fun hc => ?_) <;> (try simp [-getElem?_pos, -getElem?_neg] at hc) <;> (try (exfalso; omega)))
     | (with_reducible refine And.intro (by omega) ?_)
     | fail)
    refine next _ _ (()) (by omega) (by first | trivial | omega | assumption) (by simp [-List.reduceReplicate, keep, iC, hx, S8.l]) (by simp [-List.reduceReplicate, iC, hx, S8.l])
  · obtain rfl : i = k := by omega
    have c1 : ¬ 64 * (i : Int) < t.size := by omega
    generalize blocksTo f0 t i = v at *
    clear next
    repeat' (first 
     | (with_reducible first | refine awp_scope ?_ | refine awp_seq ?_ | refine awp_block ?_)
     | ((with_reducible first | refine awp_label ?_ | refine awp_skip ?_ | refine awp_exit ?_ | refine hother _ _ rfl ?_ | refine hother2 _ _ rfl ?_); try simp only [thenA, inBlockA, noGotoA, if_true, Nat.reduceEqDiff, if_false, ↓reduceIte])
     | ((with_reducible first | refine awp_reg 51 hX [0, 2, 3, 4, 5, 6, 7, 8, 19, 30, 39] ?_ | refine awp_drw 51 hX [0, 2, 3, 4, 5, 6, 7, 8, 19, 30, 39] Tab.mixed (by kernel_rfl) ?_ | refine DEv_cut _ _ _ _ _ _ _ _ _ _ _ _ (by kernel_rfl) ?_ | change postOf _ _ _ _ _); simp [-List.reduceReplicate, Nat.add_one_le_iff, -getElem?_pos, -getElem?_neg, S8.l, iC, c1])
     | ((first | (with_reducible refine awp_ret ?_; try simp only [thenA, inBlockA, noGotoA])); try simp [-List.reduceReplicate, Nat.add_one_le_iff, -getElem?_pos, -getElem?_neg, S8.l, iC, c1])
     | (with_reducible refine awp_if_b rfl (fun hc => ?_) (fun hc => ?_) <;> (try simp [-getElem?_pos, -getElem?_neg] at hc) <;> (try (exfalso; omega)))
     | (with_reducible refine And.intro (by omega) ?_)
     | fail)
    refine awp_forU [2, 3, 5, 6] (fun j (_u : Unit) => [(6, .c (iC j))]) (fun j (_u : Unit) => [⟨24, 1, false, 0, up (List.replicate 32 (C.v (Value.int IntKind.u8 0))), none⟩, ⟨165, 1, false, 0, up (v.l.map wC), none⟩, ⟨24, 1, false, 0, up (outTo v.l j), none⟩]) (fun j (_u : Unit) => True) (8) (()) (by first | trivial | (simp; done) | omega | (intros; simp at *; done)) (by simp [-List.reduceReplicate, keep, iC, S8.l, outTo, wBytes, bC8]) (by simp [-List.reduceReplicate, iC, S8.l, outTo, wBytes, bC8]) ?_
    rintro j _u Q1 hi hH next hother
    conv => arg 5; arg 1; simp only [List.cons_append, List.nil_append, keep, get, Nat.reduceEqDiff, if_true, if_false, ↓reduceIte]
    have hwj := wrap_in ((j : Int) + 1) (by omega)
    have hol := outTo_len v.l j (by show j ≤ 8; omega) rfl
    by_cases hlj : j < 8
    · have hv : [wC v.a, wC v.b, wC v.c, wC v.d, wC v.e, wC v.f, wC v.g, wC v.h][j]? = some (wC (v.l.getD j 0)) := ws_get v.l j 8 hlj rfl
      have h8 : (j : Int) < 8 := by omega
      have ht1 : v.l.take (j + 1) = v.l.take j ++ [v.l.getD j 0] := by
        rw [List.take_add_one, List.getElem?_eq_getElem (by show j < 8; omega), List.getD_eq_getElem?_getD, List.getElem?_eq_getElem (by show j < 8; omega)]
        rfl
      have hq : ∀ q, q ≤ 4 → outTo2 v.l j (putN (v.l.getD j 0).toNat 4) 4 = outTo v.l (j + 1) := fun q _ => by
        unfold outTo2 outTo
        rw [ht1, wBytes_app, List.take_of_length_le (l := putN (v.l.getD j 0).toNat 4) (by rw [putN_len]; omega), show 32 - 4 * j - 4 = 32 - 4 * (j + 1) by omega]
        simp [wBytes]
      have hq4 := hq 4 (by omega)
      have hxl := (v.l.getD j 0).isLt
      have hpl := putN_len (v.l.getD j 0).toNat 4
      have hbz := bs_size (putN (v.l.getD j 0).toNat 4)
      have hz := outTo2_zero v.l j (putN (v.l.getD j 0).toNat 4)
      generalize v.l.getD j 0 = x at *
      have hm := wrapU64 (x.toNat : Int) (by omega)
      have hwx : wI x = (x.toNat : Int) := rfl
      simp only [wC] at hv
      have next0 := next
      have hother2 := hother
      clear next hother
      repeat' (first 
       | (with_reducible first | refine awp_scope ?_ | refine awp_seq ?_ | refine awp_block ?_)
       | ((with_reducible first | refine awp_label ?_ | refine awp_skip ?_ | refine awp_exit ?_ | refine hother _ _ rfl ?_ | refine hother2 _ _ rfl ?_); try simp only [thenA, inBlockA, noGotoA, if_true, Nat.reduceEqDiff, if_false, ↓reduceIte])
       | ((with_reducible first | refine awp_reg 51 hX [0, 2, 3, 4, 5, 6, 7, 8, 19, 30, 39] ?_ | refine awp_drw 51 hX [0, 2, 3, 4, 5, 6, 7, 8, 19, 30, 39] Tab.mixed (by kernel_rfl) ?_ | refine DEv_cut _ _ _ _ _ _ _ _ _ _ _ _ (by kernel_rfl) ?_ | change postOf _ _ _ _ _); simp [-List.reduceReplicate, Nat.add_one_le_iff, -getElem?_pos, -getElem?_neg, S8.l, iC, hlj, h8, hv, hm, wC, hwx, u64C])
       | ((first | (with_reducible refine awp_ret ?_; try simp only [thenA, inBlockA, noGotoA]) | ((with_reducible refine Den.at_ (f := 81) ?_); refine (put01_den x.toNat 4 (by omega) (by omega) _).det ?_) | ((with_reducible refine drawn_at (f := 81) ?_); refine ⟨_, _, put01_den x.toNat 4 (by omega) (by omega) _, fun _ => rfl, ?_⟩)); try simp [-List.reduceReplicate, Nat.add_one_le_iff, -getElem?_pos, -getElem?_neg, S8.l, iC, hlj, h8, hv, hm, wC, hwx, u64C])
       | (with_reducible refine awp_if_b rfl (fun hc => ?_) (fun hc => ?_) <;> (try simp [-getElem?_pos, -getElem?_neg] at hc) <;> (try (exfalso; omega)))
       | (with_reducible refine And.intro (by omega) ?_)
       | fail)
      refine awp_forU [2, 3, 5, 6, 7, 8] (fun q (_u : Unit) => [(8, .c (iC q))]) (fun q (_u : Unit) => [⟨24, 1, false, 0, up (List.replicate 32 (C.v (Value.int IntKind.u8 0))), none⟩, ⟨165, 1, false, 0, up (v.l.map wC), none⟩, ⟨24, 1, false, 0, up (outTo2 v.l j (putN x.toNat 4) q), none⟩]) (fun q (_u : Unit) => True) (4) (()) (by first | trivial | (simp; done) | omega | (intros; simp at *; done)) (by simp [-List.reduceReplicate, keep, iC, S8.l, wC, outTo2_zero]) (by simp [-List.reduceReplicate, iC, S8.l, wC, outTo2_zero]) ?_
      rintro q _u Q1 hi hH next hother
      conv => arg 5; arg 1; simp only [List.cons_append, List.nil_append, keep, get, Nat.reduceEqDiff, if_true, if_false, ↓reduceIte]
      have hwq := wrap_in ((q : Int) + 1) (by omega)
      have w4 : IntKind.i64.wrap (4 * (j : Int)) = 4 * (j : Int) := wrap_in _ (by omega)
      have w5 : IntKind.i64.wrap (4 * (j : Int) + (q : Int)) = 4 * (j : Int) + (q : Int) := wrap_in _ (by omega)
      have ho2 := outTo2_len v.l j q (putN x.toNat 4) hlj (by omega) hpl rfl
      by_cases hlq : q < 4
      · obtain ⟨c, hc⟩ := getI (putN x.toNat 4) (q : Nat) (by omega) (by omega)
        simp only [Int.toNat_natCast] at hc
        have hset := outTo2_set v.l j q (putN x.toNat 4) c hlj hlq hpl rfl hc
        have hby : byteAt (bsS (putN x.toNat 4)) q = (c.toNat : Int) := by unfold byteAt; rw [bs_toList, List.getD_eq_getElem?_getD, hc]; rfl
        have d1 : (4 * (j : Int) + (q : Int)).toNat = 4 * j + q := by omega
        have d2 : 0 ≤ 4 * (j : Int) + (q : Int) := by omega
        have d3 : 4 * (j : Int) + (q : Int) < 32 := by omega
        have d4 : 4 * j + q < 32 := by omega
        have d5 : (q : Int) < 4 := by omega
        have hbc : C.v (.int .u8 (c.toNat : Int)) = bC8 c := rfl
        rw [← hbc] at hset
        generalize outTo2 v.l j (putN x.toNat 4) q = r0 at *
        repeat' (first 
         | (with_reducible first | refine awp_scope ?_ | refine awp_seq ?_ | refine awp_block ?_)
         | ((with_reducible first | refine awp_label ?_ | refine awp_skip ?_ | refine awp_exit ?_ | refine hother _ _ rfl ?_ | refine hother2 _ _ rfl ?_); try simp only [thenA, inBlockA, noGotoA, if_true, Nat.reduceEqDiff, if_false, ↓reduceIte])
         | ((with_reducible first | refine awp_reg 51 hX [0, 2, 3, 4, 5, 6, 7, 8, 19, 30, 39] ?_ | refine awp_drw 51 hX [0, 2, 3, 4, 5, 6, 7, 8, 19, 30, 39] Tab.mixed (by kernel_rfl) ?_ | refine DEv_cut _ _ _ _ _ _ _ _ _ _ _ _ (by kernel_rfl) ?_ | change postOf _ _ _ _ _); simp [-List.reduceReplicate, Nat.add_one_le_iff, -getElem?_pos, -getElem?_neg, S8.l, iC, hlq, hwq, w4, w5, hby, hbz, hpl, d1, d2, d3, d4, d5, ho2])
         | ((first | (with_reducible refine awp_ret ?_; try simp only [thenA, inBlockA, noGotoA])); try simp [-List.reduceReplicate, Nat.add_one_le_iff, -getElem?_pos, -getElem?_neg, S8.l, iC, hlq, hwq, w4, w5, hby, hbz, hpl, d1, d2, d3, d4, d5, ho2])
         | (with_reducible refine awp_if_b rfl (fun hc => ?_) (fun hc => ?_) <;> (try simp [-getElem?_pos, -getElem?_neg] at hc) <;> (try (exfalso; omega)))
         | (with_reducible refine And.intro (by omega) ?_)
         | fail)
        simp only [S8.l] at hset
        refine next _ _ (()) (by omega) (by first | trivial | omega | assumption) (by simp [-List.reduceReplicate, keep, iC, ← hset, S8.l]) (by simp [-List.reduceReplicate, iC, ← hset, S8.l])
      · obtain rfl : q = 4 := by omega
        rw [hq4]
        clear next
        repeat' (first 
         | (with_reducible first | refine awp_scope ?_ | refine awp_seq ?_ | refine awp_block ?_)
         | ((with_reducible first | refine awp_label ?_ | refine awp_skip ?_ | refine awp_exit ?_ | refine hother _ _ rfl ?_ | refine hother2 _ _ rfl ?_); try simp only [thenA, inBlockA, noGotoA, if_true, Nat.reduceEqDiff, if_false, ↓reduceIte])
         | ((with_reducible first | refine awp_reg 51 hX [0, 2, 3, 4, 5, 6, 7, 8, 19, 30, 39] ?_ | refine awp_drw 51 hX [0, 2, 3, 4, 5, 6, 7, 8, 19, 30, 39] Tab.mixed (by kernel_rfl) ?_ | refine DEv_cut _ _ _ _ _ _ _ _ _ _ _ _ (by kernel_rfl) ?_ | change postOf _ _ _ _ _); simp [-List.reduceReplicate, Nat.add_one_le_iff, -getElem?_pos, -getElem?_neg, S8.l, iC, hwj])
         | ((first | (with_reducible refine awp_ret ?_; try simp only [thenA, inBlockA, noGotoA])); try simp [-List.reduceReplicate, Nat.add_one_le_iff, -getElem?_pos, -getElem?_neg, S8.l, iC, hwj])
         | (with_reducible refine awp_if_b rfl (fun hc => ?_) (fun hc => ?_) <;> (try simp [-getElem?_pos, -getElem?_neg] at hc) <;> (try (exfalso; omega)))
         | (with_reducible refine And.intro (by omega) ?_)
         | fail)
        refine next0 _ _ (()) (by omega) (by first | trivial | omega | assumption) (by simp [-List.reduceReplicate, keep, iC, S8.l]) (by simp [-List.reduceReplicate, iC, S8.l])
    · obtain rfl : j = 8 := by omega
      have hfin : outTo v.l 8 = (wBytes v.l).map bC8 := by
        unfold outTo
        rw [List.take_of_length_le (by show 8 ≤ 8; omega)]
        simp
      have hl32 : (wBytes v.l).length = 32 := wBytes_len v.l
      have htk : ((wBytes v.l).map bC8).take 32 = (wBytes v.l).map bC8 := List.take_of_length_le (by simp [hl32])
      rw [hfin]
      repeat' (first 
       | (with_reducible first | refine awp_scope ?_ | refine awp_seq ?_ | refine awp_block ?_)
       | ((with_reducible first | refine awp_label ?_ | refine awp_skip ?_ | refine awp_exit ?_ | refine hother _ _ rfl ?_ | refine hother2 _ _ rfl ?_); try simp only [thenA, inBlockA, noGotoA, if_true, Nat.reduceEqDiff, if_false, ↓reduceIte])
       | ((with_reducible first | refine awp_reg 51 hX [0, 2, 3, 4, 5, 6, 7, 8, 19, 30, 39] ?_ | refine awp_drw 51 hX [0, 2, 3, 4, 5, 6, 7, 8, 19, 30, 39] Tab.mixed (by kernel_rfl) ?_ | refine DEv_cut _ _ _ _ _ _ _ _ _ _ _ _ (by kernel_rfl) ?_ | change postOf _ _ _ _ _); simp [-List.reduceReplicate, Nat.add_one_le_iff, -getElem?_pos, -getElem?_neg, iC, hl32, htk])
       | ((first | (with_reducible refine awp_ret ?_; try simp only [thenA, inBlockA, noGotoA])); try simp [-List.reduceReplicate, Nat.add_one_le_iff, -getElem?_pos, -getElem?_neg, iC, hl32, htk])
       | (with_reducible refine awp_if_b rfl (fun hc => ?_) (fun hc => ?_) <;> (try simp [-getElem?_pos, -getElem?_neg] at hc) <;> (try (exfalso; omega)))
       | (with_reducible refine And.intro (by omega) ?_)
       | fail)
      rw [hout]
      rfl
end Go.Av

set_option exponentiation.threshold 1000
set_option linter.unusedVariables false
set_option linter.unusedSimpArgs false
set_option maxRecDepth 100000
set_option maxHeartbeats 4000000
namespace Go.Av
open Go Go.Proofs Go.Proofs.YtpcnacknlgmmlaaGreat Go.RowKit
attribute [local simp] List.getElem?_cons_zero List.getElem?_cons_succ
theorem shaL_len (t : ByteArray) : (shaL t).length = 32 := wBytes_len _
def primes8 : List Nat := [2, 3, 5, 7, 11, 13, 17, 19]
end Go.Av

set_option exponentiation.threshold 1000
set_option linter.unusedVariables false
set_option linter.unusedSimpArgs false
set_option maxRecDepth 100000
set_option maxHeartbeats 4000000
namespace Go.Av
open Go Go.Proofs Go.Proofs.YtpcnacknlgmmlaaGreat Go.RowKit
attribute [local simp] List.getElem?_cons_zero List.getElem?_cons_succ
/-! ### arguments whose weights are bounded -/
def OpensW (P : Program) (t : TypeId) {A : Type} (enc : A → List C) (Hyp : A → Prop) : Prop :=
  ∀ (H : Type) (e0 : TypeId × Value → H) (W : World) (fuel : Nat) (cs : List Value) (x : DataW H × List MemPlace), (x.1.weights P t).all (· ≤ reachBytes) = true → DataW.trod e0 P W 0 (fun _ => true) true fuel t cs = some x → ∃ a, Hyp a ∧ Reads W (enc a) cs
theorem OpensW.conv {P : Program} {t : TypeId} {A B : Type} {enc : A → List C} {Hyp : A → Prop} {enc' : B → List C} {Hyp' : B → Prop} (h : OpensW P t enc Hyp) (hc : ∀ a, Hyp a → ∃ b, Hyp' b ∧ enc' b = enc a) : OpensW P t enc' Hyp' := fun H e0 W fuel cs x hw hx => by
  obtain ⟨a, ha, hr⟩ := h H e0 W fuel cs x hw hx
  obtain ⟨b, hb, he⟩ := hc a ha
  exact ⟨b, hb, by rw [he]; exact hr⟩
/-! ### hashes -/
abbrev H32 := {l : List UInt8 // l.length = 32}
theorem opens_hash {P : Program} {t e : TypeId} (ht : P.underlying t = some (.array 32 e)) (he : P.underlying e = some (.int .u8)) (hc : P.cellsOf e = 1) (hct : P.cellsOf t = 32) :
    Opens P t (fun h : H32 => h.1.map bC8) (fun _ => True) :=
  (opens_array ht (by rw [hct, hc]) (by simp [hc]) (opens_int he)).conv fun l ⟨hl, hw⟩ => by
    refine ⟨⟨l.map fun n => UInt8.ofNat n.toNat, by simp [hl]⟩, trivial, ?_⟩
    have key : ∀ l' : List Int, (∀ n ∈ l', (Lit.int .u8 n).wf = true) → (l'.map fun n => UInt8.ofNat n.toNat).map bC8 = l'.flatMap fun n => [C.v (.int .u8 n)] := fun l' => by
      induction l' with
      | nil => intro _; rfl
      | cons n r ih =>
        intro hw
        have h : 0 ≤ n ∧ n ≤ 255 := by simpa [Lit.wf, IntKind.min, IntKind.max, IntKind.signed, IntKind.bits] using hw n (by simp)
        simp only [List.map_cons, List.flatMap_cons]
        rw [ih fun x hx => hw x (by simp [hx])]
        simp only [List.singleton_append, bC8, UInt8.toNat_ofNat']
        congr 4
        omega
    exact key l hw
end Go.Av

set_option exponentiation.threshold 1000
set_option linter.unusedVariables false
set_option linter.unusedSimpArgs false
set_option maxRecDepth 100000
set_option maxHeartbeats 4000000
namespace Go.Av
open Go Go.Proofs Go.Proofs.YtpcnacknlgmmlaaGreat Go.RowKit
attribute [local simp] List.getElem?_cons_zero List.getElem?_cons_succ
end Go.Av

set_option exponentiation.threshold 1000
set_option linter.unusedVariables false
set_option linter.unusedSimpArgs false
set_option maxRecDepth 100000
set_option maxHeartbeats 4000000
namespace Go.Av
open Go Go.Proofs Go.Proofs.YtpcnacknlgmmlaaGreat Go.RowKit
attribute [local simp] List.getElem?_cons_zero List.getElem?_cons_succ
theorem headerSum_den (s : ByteArray) (hs : s.size ≤ 2000) : DenV Tryz.prog 87 [.c (.v (.string s))] (hashM (shaL (bsS (headT s)))) := by
  have h1 : (bsS (headT s)).size = s.size + 1 := by rw [bs_size]; simp [headT]
  have h := sha_den (bsS (headT s)) (by omega)
  have ht := headerText_den s (by omega)
  have hl := shaL_len (bsS (headT s))
  generalize shaL (bsS (headT s)) = x at *
  generalize bsS (headT s) = y at *
  refine Den.frame rfl (lt_hash _ _) ?_
  refine den_of Tryz.func87 rfl rfl (by simp [Tryz.ntmps87]) (fun X hX hO => ?_)
  rw [Tryz.ntmps87] at hX
  simp only [Tryz.results87]
  have t1 := hash_take x hl
  repeat' (first 
   | (with_reducible first | refine awp_scope ?_ | refine awp_seq ?_ | refine awp_block ?_)
   | ((with_reducible first | refine awp_label ?_ | refine awp_skip ?_ | refine awp_exit ?_); try simp only [thenA, inBlockA, noGotoA, if_true, Nat.reduceEqDiff, if_false, ↓reduceIte])
   | ((with_reducible first | refine awp_reg 6 hX [0, 2] ?_ | change postOf _ _ _ _ _); simp [-List.reduceReplicate, Nat.add_one_le_iff, -getElem?_pos, -getElem?_neg, hashM, hl, t1])
   | ((first | (with_reducible refine awp_ret ?_; try simp only [thenA, inBlockA, noGotoA]) | (refine (ht _).det ?_) | (refine (h _).det ?_)); try simp [-List.reduceReplicate, Nat.add_one_le_iff, -getElem?_pos, -getElem?_neg, hashM, hl, t1])
   | (with_reducible refine awp_if_b rfl (fun hc => ?_) (fun hc => ?_) <;> (try simp [-getElem?_pos, -getElem?_neg] at hc) <;> (try (exfalso; omega)))
   | (with_reducible refine And.intro (by omega) ?_)
   | fail)
theorem rootSum_den (n : Nat) (a : List UInt8) (hn : n < 18446744073709551616) (ha : a.length = 32) : DenV Tryz.prog 111 [.c (u64C n), hashM a] (hashM (shaL (bsS (rootT n a)))) := by
  have h1 : (bsS (rootT n a)).size = 41 := by rw [bs_size]; simp [rootT, ha, putN_len]
  have h := sha_den (bsS (rootT n a)) (by omega)
  have ht := rootText_den n a hn ha
  have hl := shaL_len (bsS (rootT n a))
  generalize shaL (bsS (rootT n a)) = x at *
  generalize bsS (rootT n a) = y at *
  refine Den.frame (by simp [ltBs, ltB, lt_hash]) (lt_hash _ _) ?_
  refine den_of Tryz.func111 rfl rfl (by simp [Tryz.ntmps111]) (fun X hX hO => ?_)
  rw [Tryz.ntmps111] at hX
  simp only [Tryz.results111]
  have t1 := hash_take x hl
  have t2 := hash_take a ha
  repeat' (first 
   | (with_reducible first | refine awp_scope ?_ | refine awp_seq ?_ | refine awp_block ?_)
   | ((with_reducible first | refine awp_label ?_ | refine awp_skip ?_ | refine awp_exit ?_); try simp only [thenA, inBlockA, noGotoA, if_true, Nat.reduceEqDiff, if_false, ↓reduceIte])
   | ((with_reducible first | refine awp_reg 9 hX [0, 3, 4] ?_ | change postOf _ _ _ _ _); simp [-List.reduceReplicate, Nat.add_one_le_iff, -getElem?_pos, -getElem?_neg, hashM, hl, ha, t1, t2, u64C])
   | ((first | (with_reducible refine awp_ret ?_; try simp only [thenA, inBlockA, noGotoA]) | (refine (ht _).det ?_) | (refine (h _).det ?_)); try simp [-List.reduceReplicate, Nat.add_one_le_iff, -getElem?_pos, -getElem?_neg, hashM, hl, ha, t1, t2, u64C])
   | (with_reducible refine awp_if_b rfl (fun hc => ?_) (fun hc => ?_) <;> (try simp [-getElem?_pos, -getElem?_neg] at hc) <;> (try (exfalso; omega)))
   | (with_reducible refine And.intro (by omega) ?_)
   | fail)
theorem root03_den (n : Nat) (a : List UInt8) (hn : n < 18446744073709551616) (ha : a.length = 32) : DenV Tryz.prog 117 [.c (u64C n), hashM a] (hashM (shaL (bsS (rootT n a)))) := by
  have h1 : (bsS (rootT n a)).size = 41 := by rw [bs_size]; simp [rootT, ha, putN_len]
  have h := sha02_den (bsS (rootT n a)) (by omega)
  have ht := rootText03_den n a hn ha
  have hl := shaL_len (bsS (rootT n a))
  generalize shaL (bsS (rootT n a)) = x at *
  generalize bsS (rootT n a) = y at *
  refine Den.frame (by simp [ltBs, ltB, lt_hash]) (lt_hash _ _) ?_
  refine den_of Tryz.func117 rfl rfl (by simp [Tryz.ntmps117]) (fun X hX hO => ?_)
  rw [Tryz.ntmps117] at hX
  simp only [Tryz.results117]
  have t1 := hash_take x hl
  have t2 := hash_take a ha
  repeat' (first 
   | (with_reducible first | refine awp_scope ?_ | refine awp_seq ?_ | refine awp_block ?_)
   | ((with_reducible first | refine awp_label ?_ | refine awp_skip ?_ | refine awp_exit ?_); try simp only [thenA, inBlockA, noGotoA, if_true, Nat.reduceEqDiff, if_false, ↓reduceIte])
   | ((with_reducible first | refine awp_reg 9 hX [0, 3, 4] ?_ | change postOf _ _ _ _ _); simp [-List.reduceReplicate, Nat.add_one_le_iff, -getElem?_pos, -getElem?_neg, hashM, hl, ha, t1, t2, u64C])
   | ((first | (with_reducible refine awp_ret ?_; try simp only [thenA, inBlockA, noGotoA]) | (refine (ht _).det ?_) | (refine (h _).det ?_)); try simp [-List.reduceReplicate, Nat.add_one_le_iff, -getElem?_pos, -getElem?_neg, hashM, hl, ha, t1, t2, u64C])
   | (with_reducible refine awp_if_b rfl (fun hc => ?_) (fun hc => ?_) <;> (try simp [-getElem?_pos, -getElem?_neg] at hc) <;> (try (exfalso; omega)))
   | (with_reducible refine And.intro (by omega) ?_)
   | fail)
end Go.Av

set_option exponentiation.threshold 1000
set_option linter.unusedVariables false
set_option linter.unusedSimpArgs false
set_option maxRecDepth 100000
set_option maxHeartbeats 4000000
namespace Go.Av
open Go Go.Proofs Go.Proofs.YtpcnacknlgmmlaaGreat Go.RowKit
attribute [local simp] List.getElem?_cons_zero List.getElem?_cons_succ
theorem data_inj (a b : ByteArray) : a.data.toList = b.data.toList ↔ a = b := ⟨ba_ext, fun h => by rw [h]⟩
def textAt (s : ByteArray) (a b : List UInt8) (n : Nat) : List (List UInt8) := [leafT s, nodeT a b, rootT n a, headT s]
def sameAt (s t : ByteArray) (a b c d : List UInt8) (n m : Nat) : List Bool := [decide (s = t), decide (a = c) && decide (b = d), decide (n = m) && decide (a = c), decide (s = t)]
theorem toList_inj (x y : ByteArray) : x.toList = y.toList ↔ x = y := by rw [toList_data, toList_data]; exact data_inj x y
end Go.Av

set_option exponentiation.threshold 1000
set_option linter.unusedVariables false
set_option linter.unusedSimpArgs false
set_option maxRecDepth 100000
set_option maxHeartbeats 4000000
namespace Go.Av
open Go Go.Proofs Go.Proofs.YtpcnacknlgmmlaaGreat Go.RowKit
attribute [local simp] List.getElem?_cons_zero List.getElem?_cons_succ
/-! ### headers -/
structure HD where
  v : Nat
  a : H32
  b : H32
  n : Nat
def u32v (n : Nat) : C := .v (.int .u32 (n : Int))
def hdC (h : HD) : List C := u32v h.v :: (h.a.1.map bC8 ++ (h.b.1.map bC8 ++ [u64C h.n]))
def HDok (h : HD) : Prop := h.v < 4294967296 ∧ h.n < 18446744073709551616
def hdL (h : HD) : List UInt8 := putN h.v 4 ++ (h.a.1 ++ (h.b.1 ++ putN h.n 8))
def hdM (h : HD) : M := .agg (up (hdC h))
theorem hdC_len (h : HD) : (hdC h).length = 66 := by simp [hdC, h.a.2, h.b.2]
theorem hdL_len (h : HD) : (hdL h).length = 76 := by simp [hdL, h.a.2, h.b.2, putN_len]
theorem hdC_0 (h : HD) : (hdC h)[0]? = some (u32v h.v) := rfl
theorem hdC_1 (h : HD) : ((hdC h).drop 1).take 32 = h.a.1.map bC8 := by
  simp only [hdC, List.drop_succ_cons, List.drop_zero]
  rw [List.take_append_of_le_length (by simp [h.a.2]), List.take_of_length_le (by simp [h.a.2])]
theorem hdC_33 (h : HD) : ((hdC h).drop 33).take 32 = h.b.1.map bC8 := by
  simp only [hdC, List.drop_succ_cons, List.drop_zero]
  rw [List.drop_append_of_le_length (by simp [h.a.2]), List.drop_of_length_le (by simp [h.a.2]), List.nil_append, List.take_append_of_le_length (by simp [h.b.2]), List.take_of_length_le (by simp [h.b.2])]
theorem hdC_65 (h : HD) : (hdC h)[65]? = some (u64C h.n) := by
  simp only [hdC, List.getElem?_cons_succ]
  rw [List.getElem?_append_right (by simp [h.a.2]), List.getElem?_append_right (by simp [h.a.2, h.b.2])]
  simp [h.a.2, h.b.2]
theorem hdC_66 (h : HD) : (hdC h).take 66 = hdC h := List.take_of_length_le (by rw [hdC_len]; exact Nat.le_refl _)
theorem hdC_up1 (h : HD) : List.take 32 (up (hdC h)).tail = up (h.a.1.map bC8) := by
  have := hdC_1 h
  simp only [List.drop_one] at this
  simp only [up, ← List.map_tail, ← List.map_take]
  rw [this]
theorem headBytes_den (h : HD) (hok : HDok h) : DenV Tryz.prog 37 [hdM h] (.c (.v (.string (bsS (hdL h))))) := by
  refine Den.frame (by simp [ltBs, ltB, hdM, ltBs_up]) rfl ?_
  have c0 := hdC_0 h
  have c1 := hdC_1 h
  have c1' := hdC_up1 h
  have c2 := hdC_33 h
  have c3 := hdC_65 h
  have c4 := hdC_len h
  have c5 := hdC_66 h
  have l4 := putN_len h.v 4
  have l8 := putN_len h.n 8
  have b1 := bytesM_b8 h.a.1
  have b2 := bytesM_b8 h.b.1
  have la := h.a.2
  have lb := h.b.2
  have p1 := put32_den h.v hok.1
  have p2 := put64_den h.n hok.2
  unfold hdM hdL
  generalize hdC h = hd at *
  refine den_of Tryz.func37 rfl rfl (by simp [Tryz.ntmps37]) (fun X hX hO => ?_)
  rw [Tryz.ntmps37] at hX
  simp only [Tryz.results37]
  repeat' (first 
   | (with_reducible first | refine awp_scope ?_ | refine awp_seq ?_ | refine awp_block ?_)
   | ((with_reducible first | refine awp_label ?_ | refine awp_skip ?_ | refine awp_exit ?_); try simp only [thenA, inBlockA, noGotoA, if_true, Nat.reduceEqDiff, if_false, ↓reduceIte])
   | ((with_reducible first | refine awp_reg 18 hX [1, 2] ?_ | refine awp_drw 18 hX [1, 2] Tab.mixed (by kernel_rfl) ?_ | refine DEv_cut _ _ _ _ _ _ _ _ _ _ _ _ (by kernel_rfl) ?_ | change postOf _ _ _ _ _); simp [-List.reduceReplicate, Nat.add_one_le_iff, -getElem?_pos, -getElem?_neg, c0, c1, c1', c2, c3, c4, c5, u32v, u64C, b1, b2, la, lb, l4, l8, bs_append, bs_size, of_list])
   | ((first | (with_reducible refine awp_ret ?_; try simp only [thenA, inBlockA, noGotoA]) | (refine (p1 _).det ?_) | (refine ⟨_, _, p1 _, fun _ => rfl, ?_⟩) | (refine (p2 _).det ?_) | (refine ⟨_, _, p2 _, fun _ => rfl, ?_⟩)); try simp [-List.reduceReplicate, Nat.add_one_le_iff, -getElem?_pos, -getElem?_neg, c0, c1, c1', c2, c3, c4, c5, u32v, u64C, b1, b2, la, lb, l4, l8, bs_append, bs_size, of_list])
   | (with_reducible refine awp_if_b rfl (fun hc => ?_) (fun hc => ?_) <;> (try simp [-getElem?_pos, -getElem?_neg] at hc) <;> (try (exfalso; omega)))
   | (with_reducible refine And.intro (by omega) ?_)
   | fail)
theorem bytes17_den (h : HD) (hok : HDok h) : DenV Tryz.prog 41 [hdM h] (.c (.v (.string (bsS (hdL h))))) := by
  refine Den.frame (by simp [ltBs, ltB, hdM, ltBs_up]) rfl ?_
  have c0 := hdC_0 h
  have c1 := hdC_1 h
  have c1' := hdC_up1 h
  have c2 := hdC_33 h
  have c3 := hdC_65 h
  have c4 := hdC_len h
  have c5 := hdC_66 h
  have l4 := putN_len h.v 4
  have l8 := putN_len h.n 8
  have la := h.a.2
  have lb := h.b.2
  have p1 := put01_den h.v 4 (by have := hok.1; omega) (by omega)
  have p2 := put01_den h.n 8 hok.2 (by omega)
  have q1 := raw_den' h.a.1 h.a.2
  have q2 := raw_den' h.b.1 h.b.2
  unfold hdM hdL
  generalize hdC h = hd at *
  have w1 : IntKind.u64.wrap (h.v : Int) = (h.v : Int) := wrapU64 _ (by have := hok.1; omega)
  refine den_of Tryz.func41 rfl rfl (by simp [Tryz.ntmps41]) (fun X hX hO => ?_)
  rw [Tryz.ntmps41] at hX
  simp only [Tryz.results41]
  repeat' (first 
   | (with_reducible first | refine awp_scope ?_ | refine awp_seq ?_ | refine awp_block ?_)
   | ((with_reducible first | refine awp_label ?_ | refine awp_skip ?_ | refine awp_exit ?_); try simp only [thenA, inBlockA, noGotoA, if_true, Nat.reduceEqDiff, if_false, ↓reduceIte])
   | ((with_reducible first | refine awp_reg 19 hX [1, 2] ?_ | refine awp_drw 19 hX [1, 2] Tab.mixed (by kernel_rfl) ?_ | refine DEv_cut _ _ _ _ _ _ _ _ _ _ _ _ (by kernel_rfl) ?_ | change postOf _ _ _ _ _); simp [-List.reduceReplicate, Nat.add_one_le_iff, -getElem?_pos, -getElem?_neg, c0, c1, c1', c2, c3, c4, c5, u32v, u64C, la, lb, l4, l8, bs_append, bs_size, hashM, w1, iC])
   | ((first | (with_reducible refine awp_ret ?_; try simp only [thenA, inBlockA, noGotoA]) | (refine (p1 _).det ?_) | (refine ⟨_, _, p1 _, fun _ => rfl, ?_⟩) | (refine (q1 _).det ?_) | (refine ⟨_, _, q1 _, fun _ => rfl, ?_⟩) | (refine (q2 _).det ?_) | (refine ⟨_, _, q2 _, fun _ => rfl, ?_⟩) | (refine (p2 _).det ?_) | (refine ⟨_, _, p2 _, fun _ => rfl, ?_⟩)); try simp [-List.reduceReplicate, Nat.add_one_le_iff, -getElem?_pos, -getElem?_neg, c0, c1, c1', c2, c3, c4, c5, u32v, u64C, la, lb, l4, l8, bs_append, bs_size, hashM, w1, iC])
   | (with_reducible refine awp_if_b rfl (fun hc => ?_) (fun hc => ?_) <;> (try simp [-getElem?_pos, -getElem?_neg] at hc) <;> (try (exfalso; omega)))
   | (with_reducible refine And.intro (by omega) ?_)
   | fail)
end Go.Av

set_option linter.unusedVariables false
set_option linter.unusedSimpArgs false
namespace Go.Av
open Go Go.Proofs
attribute [local simp] List.getElem?_cons_zero List.getElem?_cons_succ
def row (v : List (List Int)) (i : Int) : List Int := (v[i.toNat]?).getD []
def beats (v : List (List Int)) (i k : Int) : Bool := decide (0 ≤ i) && decide (i < v.length) && decide (0 ≤ k) && decide (k < (row v i).length) && decide (0 < ((row v i)[k.toNat]?).getD 0)
end Go.Av

set_option linter.unusedVariables false
set_option linter.unusedSimpArgs false
namespace Go.Av
open Go Go.Proofs
attribute [local simp] List.getElem?_cons_zero List.getElem?_cons_succ
def isTop (v : List (List Int)) (i : Nat) : Bool := (List.range v.length).all fun k => decide (k = i) || beats v i k
def topsTo (v : List (List Int)) (m : Nat) : List Int := ((List.range m).filter (isTop v)).map Int.ofNat
def tops (v : List (List Int)) : List Int := topsTo v v.length
end Go.Av

set_option linter.unusedVariables false
set_option linter.unusedSimpArgs false
namespace Go.Av
open Go Go.Proofs Go.Proofs.YtpcnacknlgmmlaaGreat
attribute [local simp] List.getElem?_cons_zero List.getElem?_cons_succ
def winsTo (v : List (List Int)) (i : Int) (m : Nat) : Nat := ((List.range m).filter fun (k : Nat) => !decide ((k : Int) = i) && beats v i k).length
end Go.Av

set_option linter.unusedVariables false
set_option linter.unusedSimpArgs false
namespace Go.Av
open Go Go.Proofs Go.Proofs.YtpcnacknlgmmlaaGreat
attribute [local simp] List.getElem?_cons_zero List.getElem?_cons_succ
def foldTo (v : List (List Int)) (o : List Int) : Nat → Int
  | 0 => -1
  | m + 1 => if m = 0 ∨ beats v ((o[m]?).getD 0) (foldTo v o m) = true then (o[m]?).getD 0 else foldTo v o m
def great (v : List (List Int)) : Bool := ((v.take 30).any fun r => decide (30 < r.length)) || decide (20 < v.length)
end Go.Av

set_option linter.unusedVariables false
set_option linter.unusedSimpArgs false
namespace Go.Av
open Go Go.Proofs Go.Proofs.YtpcnacknlgmmlaaGreat
attribute [local simp] List.getElem?_cons_zero List.getElem?_cons_succ
def foldTopsWant (v : List (List Int)) (m : Nat) : List Int := ((List.range m).filter fun (i : Nat) => decide ((winsTo v i v.length : Int) = v.length - 1)).map Int.ofNat
end Go.Av

set_option linter.unusedVariables false
set_option linter.unusedSimpArgs false
namespace Go.Av
open Go Go.Proofs Go.Proofs.YtpcnacknlgmmlaaGreat
attribute [local simp] List.getElem?_cons_zero List.getElem?_cons_succ
end Go.Av

set_option linter.unusedVariables false
set_option linter.unusedSimpArgs false
namespace Go.Av
open Go Go.Proofs Go.Proofs.YtpcnacknlgmmlaaGreat
attribute [local simp] List.getElem?_cons_zero List.getElem?_cons_succ
def rowN (v : List (List Int)) (i : Nat) : List Int := (v[i]?).getD []
def cellN (v : List (List Int)) (i k : Nat) : Int := ((rowN v i)[k]?).getD 0
def duelAt (v : List (List Int)) (i k : Nat) : Bool :=
  decide ((rowN v k).length = v.length) && (decide (cellN v i k = IntKind.i64.wrap (-cellN v k i)) && (decide (-1 ≤ cellN v i k) && decide (cellN v i k ≤ 1)))
def duelTo (v : List (List Int)) (i : Nat) (m : Nat) : Bool := (List.range m).all (duelAt v i)
def duelRow (v : List (List Int)) (i : Nat) : Bool := (decide ((rowN v i).length = v.length) && decide (cellN v i i = 0)) && duelTo v i (rowN v i).length
def duelB (v : List (List Int)) : Bool := (List.range v.length).all (duelRow v)
end Go.Av

set_option linter.unusedVariables false
set_option linter.unusedSimpArgs false
namespace Go.Av
open Go Go.Proofs Go.Proofs.YtpcnacknlgmmlaaGreat
attribute [local simp] List.getElem?_cons_zero List.getElem?_cons_succ
def sC (s : ByteArray) : C := .v (.string s)
def strsC (l : List ByteArray) : C := .sl (l.map sC) l.length false
def less (a b : ByteArray) : Bool := Op.bytesLess a.toList b.toList
def winsAll (v : List (List Int)) (m : Nat) : List Int := (List.range m).map fun (i : Nat) => (winsTo v i v.length : Int)
def keyN (keys : List ByteArray) (i : Nat) : ByteArray := (keys[i]?).getD ByteArray.empty
def worse (keys : List ByteArray) (v : List (List Int)) (at_ i : Nat) : Bool :=
  decide (winsTo v at_ v.length < winsTo v i v.length) || (decide (winsTo v i v.length = winsTo v at_ v.length) && less (keyN keys i) (keyN keys at_))
def awins (keys : List ByteArray) (v : List (List Int)) (a : Int) : Bool :=
  (((decide (0 ≤ a) && decide (a < keys.length)) && decide (v.length = keys.length)) && (List.range v.length).all fun i => !worse keys v a.toNat i) && (tops v).all fun t => decide (t = a)
end Go.Av

set_option exponentiation.threshold 1000
set_option linter.unusedVariables false
set_option linter.unusedSimpArgs false
set_option maxRecDepth 100000
set_option maxHeartbeats 4000000
namespace Go.Av
open Go Go.Proofs Go.Proofs.YtpcnacknlgmmlaaGreat Go.RowKit
attribute [local simp] List.getElem?_cons_zero List.getElem?_cons_succ
/-! ### cursors: what is left, and the first error; milepostref08 -/
attribute [local simp] Tryz.underlying9 Tryz.underlying3 Tryz.underlying4 Tryz.underlying30
structure Cu where
  b : ByteArray
  e : Int
def e0 : ByteArray := ⟨#[]⟩
def cuC (c : Cu) : List C := [.v (.string c.b), iC c.e]
def cuM (c : Cu) : M := .agg (up (cuC c))
def failC (c : Cu) (e : Int) : Cu := if c.e = 0 ∧ e ≠ 0 then ⟨e0, e⟩ else c
def doneC (c : Cu) : Int := if c.e = 0 ∧ c.b.size ≠ 0 then 2 else c.e
theorem size0_eq (b : ByteArray) : b.size = 0 ↔ b = ByteArray.empty := by
  constructor
  · intro h
    cases b with
    | mk d => simp [ByteArray.size] at h; subst h; rfl
  · rintro rfl; rfl
theorem toList_ne {b : ByteArray} (h : ¬ b = ByteArray.empty) : ¬ b.toList = [] := by
  rw [toList_data]
  intro h2
  refine h ((size0_eq b).1 ?_)
  have := congrArg List.length h2
  rw [Array.length_toList] at this
  exact this
def cutC (c : Cu) (n : Nat) : ByteArray × Cu := if c.e ≠ 0 then (e0, c) else if c.b.size < n then (e0, ⟨e0, 1⟩) else (c.b.extract 0 n, ⟨c.b.extract n c.b.size, 0⟩)
def rawC (c : Cu) (n : Int) : ByteArray × Cu := if n < 0 then (e0, failC c 3) else cutC c n.toNat
def numC (c : Cu) (most : Nat) : Nat × Cu :=
  if c.e ≠ 0 then (0, c) else if (takeV c.b).2.2 ≠ 0 then (0, ⟨e0, (takeV c.b).2.2⟩) else if most < (takeV c.b).1 then (0, ⟨e0, 3⟩) else ((takeV c.b).1, ⟨c.b.extract (takeV c.b).2.1 c.b.size, 0⟩)
theorem takeV_ok (b : ByteArray) : (takeV b).2.1 ≤ b.size ∧ (takeV b).1 < 18446744073709551616 ∧ (takeV b).2.2 ≤ 3 ∧ (takeV b).2.1 ≤ 10 ∧ ((takeV b).2.2 = 0 → 0 < (takeV b).2.1) := by
  have htv : takeV b = if leadV 10 b.data.toList = 10 then (0, 0, 2) else if leadV 10 b.data.toList = b.data.toList.length then (0, 0, 1) else if 0 < leadV 10 b.data.toList ∧ (b.data.toList.getD (leadV 10 b.data.toList) 0).toNat = 0 then (0, 0, 2) else if leadV 10 b.data.toList = 9 ∧ 1 < (b.data.toList.getD (leadV 10 b.data.toList) 0).toNat then (0, 0, 3) else (valV b.data.toList (leadV 10 b.data.toList + 1), leadV 10 b.data.toList + 1, 0) := rfl
  obtain ⟨s1, s2, s3, s4⟩ := leadV_spec 10 b.data.toList
  have hlen : b.data.toList.length = b.size := by rw [Array.length_toList]; rfl
  have hvu := valV_u64 b.data.toList (leadV 10 b.data.toList)
  rw [htv]
  split
  · simp
  · split
    · simp
    · split
      · simp
      · split
        · simp
        · rename_i h1 h2 h3 h4
          refine ⟨by simp only; omega, by simp only; exact hvu (by omega) (by omega), by simp, by simp only; omega, by simp⟩
end Go.Av

set_option exponentiation.threshold 1000
set_option linter.unusedVariables false
set_option linter.unusedSimpArgs false
set_option maxRecDepth 100000
set_option maxHeartbeats 4000000
namespace Go.Av
open Go Go.Proofs Go.Proofs.YtpcnacknlgmmlaaGreat Go.RowKit
attribute [local simp] List.getElem?_cons_zero List.getElem?_cons_succ
/-! ### cur: an object -/
attribute [local simp] Tryz.underlying9 Tryz.underlying3 Tryz.underlying4 Tryz.underlying30
def curO (c : Cu) : Ob := ⟨113, 2, false, 0, up (cuC c), none⟩
theorem set_same {α : Type} (l : List α) (i : Nat) (x : α) (h : l[i]? = some x) : l.set i x = l := by
  apply List.ext_getElem?
  intro j
  rw [List.getElem?_set]
  split
  · rename_i hij
    subst hij
    obtain ⟨h1, h2⟩ := List.getElem?_eq_some_iff.1 h
    rw [if_pos h1, h]
  · rfl
theorem get_set {α : Type} (l : List α) (i : Nat) (x : α) (h : l[i]? = some x) (y : α) : (l.set i y)[i]? = some y := by
  have := (List.getElem?_eq_some_iff.1 h).1
  simp [this]
theorem read_den (s : ByteArray) (ob : List Ob) : Den Tryz.prog 25 [.c (sC s)] ob (fun r ob' => r = .mp ob.length 0 0 ∧ ob' = ob ++ [curO ⟨s, 0⟩]) := by
  refine den_of Tryz.func25 rfl rfl (by simp [Tryz.ntmps25]) (fun X hX hO => ?_)
  rw [Tryz.ntmps25] at hX
  simp only [Tryz.results25]
  repeat' (first 
   | (with_reducible first | refine awp_scope ?_ | refine awp_seq ?_ | refine awp_block ?_)
   | ((with_reducible first | refine awp_label ?_ | refine awp_skip ?_ | refine awp_exit ?_); try simp only [thenA, inBlockA, noGotoA, if_true, Nat.reduceEqDiff, if_false, ↓reduceIte])
   | ((with_reducible first | refine awp_reg 7 hX [0, 2] ?_ | change postOf _ _ _ _ _); simp [-List.reduceReplicate, Nat.add_one_le_iff, -getElem?_pos, -getElem?_neg, sC, curO, cuC, iC])
   | ((first | (with_reducible refine awp_ret ?_; try simp only [thenA, inBlockA, noGotoA])); try simp [-List.reduceReplicate, Nat.add_one_le_iff, -getElem?_pos, -getElem?_neg, sC, curO, cuC, iC])
   | (with_reducible refine awp_if_b rfl (fun hc => ?_) (fun hc => ?_) <;> (try simp [-getElem?_pos, -getElem?_neg] at hc) <;> (try (exfalso; omega)))
   | (with_reducible refine And.intro (by omega) ?_)
   | fail)
  all_goals rfl
theorem sfail_den (i : Nat) (c : Cu) (e : Int) (ob : List Ob) (h : ob[i]? = some (curO c)) : Den Tryz.prog 108 [.mp i 0 0, .c (iC e)] ob (fun r ob' => r = .tup [] ∧ ob' = ob.set i (curO (failC c e))) := by
  have hs := set_same ob i _ h
  have hg := get_set ob i _ h
  obtain ⟨b, f⟩ := c
  unfold failC
  refine den_of Tryz.func108 rfl rfl (by simp [Tryz.ntmps108]) (fun X hX hO => ?_)
  rw [Tryz.ntmps108] at hX
  simp only [Tryz.results108]
  by_cases h1 : f = 0
  · subst h1
    by_cases h2 : e = 0
    · subst h2
      simp only [curO, cuC, iC] at h hs
      repeat' (first 
       | (with_reducible first | refine awp_scope ?_ | refine awp_seq ?_ | refine awp_block ?_)
       | ((with_reducible first | refine awp_label ?_ | refine awp_skip ?_ | refine awp_exit ?_); try simp only [thenA, inBlockA, noGotoA, if_true, Nat.reduceEqDiff, if_false, ↓reduceIte])
       | ((with_reducible first | refine awp_reg 20 hX [0, 1, 12] ?_ | change postOf _ _ _ _ _); simp [-List.reduceReplicate, Nat.add_one_le_iff, -getElem?_pos, -getElem?_neg, curO, cuC, iC, e0, h, hs])
       | ((first | (with_reducible refine awp_ret ?_; try simp only [thenA, inBlockA, noGotoA])); try simp [-List.reduceReplicate, Nat.add_one_le_iff, -getElem?_pos, -getElem?_neg, curO, cuC, iC, e0, h, hs])
       | (with_reducible refine awp_if_b rfl (fun hc => ?_) (fun hc => ?_) <;> (try simp [-getElem?_pos, -getElem?_neg] at hc) <;> (try (exfalso; omega)))
       | ((with_reducible first | refine GuardK_b (fun hc => ?_) (fun hc => ?_)) <;> (try simp only [Bool.not_eq_true', Bool.not_eq_false', decide_eq_true_eq, decide_eq_false_iff_not] at hc) <;> (first | (exfalso; omega) | skip) <;> simp [-List.reduceReplicate, Nat.add_one_le_iff, -getElem?_pos, -getElem?_neg, curO, cuC, iC, e0, h, hs, hc])
       | (with_reducible refine And.intro (by omega) ?_)
       | fail)
    · repeat' (first 
       | (with_reducible first | refine awp_scope ?_ | refine awp_seq ?_ | refine awp_block ?_)
       | ((with_reducible first | refine awp_label ?_ | refine awp_skip ?_ | refine awp_exit ?_); try simp only [thenA, inBlockA, noGotoA, if_true, Nat.reduceEqDiff, if_false, ↓reduceIte])
       | ((with_reducible first | refine awp_reg 20 hX [0, 1, 12] ?_ | change postOf _ _ _ _ _); simp [-List.reduceReplicate, Nat.add_one_le_iff, -getElem?_pos, -getElem?_neg, curO, cuC, iC, e0, h2, h, hg])
       | ((first | (with_reducible refine awp_ret ?_; try simp only [thenA, inBlockA, noGotoA])); try simp [-List.reduceReplicate, Nat.add_one_le_iff, -getElem?_pos, -getElem?_neg, curO, cuC, iC, e0, h2, h, hg])
       | (with_reducible refine awp_if_b rfl (fun hc => ?_) (fun hc => ?_) <;> (try simp [-getElem?_pos, -getElem?_neg] at hc) <;> (try (exfalso; omega)))
       | ((with_reducible first | refine GuardK_b (fun hc => ?_) (fun hc => ?_)) <;> (try simp only [Bool.not_eq_true', Bool.not_eq_false', decide_eq_true_eq, decide_eq_false_iff_not] at hc) <;> (first | (exfalso; omega) | skip) <;> simp [-List.reduceReplicate, Nat.add_one_le_iff, -getElem?_pos, -getElem?_neg, curO, cuC, iC, e0, h2, h, hg, hc])
       | (with_reducible refine And.intro (by omega) ?_)
       | fail)
      all_goals trace_state
  · simp only [curO, cuC, iC] at h hs
    repeat' (first 
     | (with_reducible first | refine awp_scope ?_ | refine awp_seq ?_ | refine awp_block ?_)
     | ((with_reducible first | refine awp_label ?_ | refine awp_skip ?_ | refine awp_exit ?_); try simp only [thenA, inBlockA, noGotoA, if_true, Nat.reduceEqDiff, if_false, ↓reduceIte])
     | ((with_reducible first | refine awp_reg 20 hX [0, 1, 12] ?_ | change postOf _ _ _ _ _); simp [-List.reduceReplicate, Nat.add_one_le_iff, -getElem?_pos, -getElem?_neg, curO, cuC, iC, e0, h1, h, hs])
     | ((first | (with_reducible refine awp_ret ?_; try simp only [thenA, inBlockA, noGotoA])); try simp [-List.reduceReplicate, Nat.add_one_le_iff, -getElem?_pos, -getElem?_neg, curO, cuC, iC, e0, h1, h, hs])
     | (with_reducible refine awp_if_b rfl (fun hc => ?_) (fun hc => ?_) <;> (try simp [-getElem?_pos, -getElem?_neg] at hc) <;> (try (exfalso; omega)))
     | ((with_reducible first | refine GuardK_b (fun hc => ?_) (fun hc => ?_)) <;> (try simp only [Bool.not_eq_true', Bool.not_eq_false', decide_eq_true_eq, decide_eq_false_iff_not] at hc) <;> (first | (exfalso; omega) | skip) <;> simp [-List.reduceReplicate, Nat.add_one_le_iff, -getElem?_pos, -getElem?_neg, curO, cuC, iC, e0, h1, h, hs, hc])
     | (with_reducible refine And.intro (by omega) ?_)
     | fail)
theorem Fail_den (i : Nat) (c : Cu) (e : Int) (ob : List Ob) (h : ob[i]? = some (curO c)) : Den Tryz.prog 68 [.mp i 0 0, .c (iC e)] ob (fun r ob' => r = .tup [] ∧ ob' = ob.set i (curO (failC c e))) := by
  have hf := sfail_den i c e ob h
  generalize failC c e = d at *
  simp only [curO] at h
  refine den_of Tryz.func68 rfl rfl (by simp [Tryz.ntmps68]) (fun X hX hO => ?_)
  rw [Tryz.ntmps68] at hX
  simp only [Tryz.results68]
  repeat' (first 
   | (with_reducible first | refine awp_scope ?_ | refine awp_seq ?_ | refine awp_block ?_)
   | ((with_reducible first | refine awp_label ?_ | refine awp_skip ?_ | refine awp_exit ?_); try simp only [thenA, inBlockA, noGotoA, if_true, Nat.reduceEqDiff, if_false, ↓reduceIte])
   | ((with_reducible first | refine awp_reg 11 hX [0, 1, 5] ?_ | change postOf _ _ _ _ _); simp [-List.reduceReplicate, Nat.add_one_le_iff, -getElem?_pos, -getElem?_neg, iC, h])
   | ((first | (with_reducible refine awp_ret ?_; try simp only [thenA, inBlockA, noGotoA]) | (refine (hf).det ?_)); try simp [-List.reduceReplicate, Nat.add_one_le_iff, -getElem?_pos, -getElem?_neg, iC, h])
   | (with_reducible refine awp_if_b rfl (fun hc => ?_) (fun hc => ?_) <;> (try simp [-getElem?_pos, -getElem?_neg] at hc) <;> (try (exfalso; omega)))
   | (with_reducible refine And.intro (by omega) ?_)
   | fail)
theorem cut_den (i : Nat) (c : Cu) (n : Nat) (ob : List Ob) (h : ob[i]? = some (curO c)) : Den Tryz.prog 69 [.mp i 0 0, .c (iC n)] ob (fun r ob' => r = .c (sC (cutC c n).1) ∧ ob' = ob.set i (curO (cutC c n).2)) := by
  have hs := set_same ob i _ h
  have hg := get_set ob i _ h
  have hf := sfail_den i c 1 ob h
  unfold cutC
  obtain ⟨b, f⟩ := c
  refine den_of Tryz.func69 rfl rfl (by simp [Tryz.ntmps69]) (fun X hX hO => ?_)
  rw [Tryz.ntmps69] at hX
  simp only [Tryz.results69]
  by_cases h1 : f = 0
  · subst h1
    rw [show failC ⟨b, 0⟩ 1 = ⟨e0, 1⟩ by simp [failC]] at hf
    by_cases h2 : b.size < n
    · have h3 : (b.size : Int) < (n : Int) := by omega
      simp only [curO, cuC, iC] at h hs hf
      repeat' (first 
       | (with_reducible first | refine awp_scope ?_ | refine awp_seq ?_ | refine awp_block ?_)
       | ((with_reducible first | refine awp_label ?_ | refine awp_skip ?_ | refine awp_exit ?_); try simp only [thenA, inBlockA, noGotoA, if_true, Nat.reduceEqDiff, if_false, ↓reduceIte])
       | ((with_reducible first | refine awp_reg 43 hX [0, 1, 4, 5, 19, 26] ?_ | change postOf _ _ _ _ _); simp [-List.reduceReplicate, Nat.add_one_le_iff, -getElem?_pos, -getElem?_neg, curO, cuC, iC, e0, h, hs, hg, h2, h3, sC])
       | ((first | (with_reducible refine awp_ret ?_; try simp only [thenA, inBlockA, noGotoA]) | (refine (hf).det ?_)); try simp [-List.reduceReplicate, Nat.add_one_le_iff, -getElem?_pos, -getElem?_neg, curO, cuC, iC, e0, h, hs, hg, h2, h3, sC])
       | (with_reducible refine awp_if_b rfl (fun hc => ?_) (fun hc => ?_) <;> (try simp [-getElem?_pos, -getElem?_neg] at hc) <;> (try (exfalso; omega)))
       | ((with_reducible first | refine GuardK_b (fun hc => ?_) (fun hc => ?_)) <;> (try simp only [Bool.not_eq_true', Bool.not_eq_false', decide_eq_true_eq, decide_eq_false_iff_not] at hc) <;> (first | (exfalso; omega) | skip) <;> simp [-List.reduceReplicate, Nat.add_one_le_iff, -getElem?_pos, -getElem?_neg, curO, cuC, iC, e0, h, hs, hg, h2, h3, sC, hc])
       | (with_reducible refine And.intro (by omega) ?_)
       | fail)
    · have h3 : ¬ (b.size : Int) < (n : Int) := by omega
      have h4 : (n : Int) ≤ (b.size : Int) := by omega
      have h5 : n ≤ b.size := by omega
      simp only [curO, cuC, iC] at h hs
      repeat' (first 
       | (with_reducible first | refine awp_scope ?_ | refine awp_seq ?_ | refine awp_block ?_)
       | ((with_reducible first | refine awp_label ?_ | refine awp_skip ?_ | refine awp_exit ?_); try simp only [thenA, inBlockA, noGotoA, if_true, Nat.reduceEqDiff, if_false, ↓reduceIte])
       | ((with_reducible first | refine awp_reg 43 hX [0, 1, 4, 5, 19, 26] ?_ | change postOf _ _ _ _ _); simp [-List.reduceReplicate, Nat.add_one_le_iff, -getElem?_pos, -getElem?_neg, curO, cuC, iC, e0, h, hs, hg, h2, h3, h4, h5, sC])
       | ((first | (with_reducible refine awp_ret ?_; try simp only [thenA, inBlockA, noGotoA])); try simp [-List.reduceReplicate, Nat.add_one_le_iff, -getElem?_pos, -getElem?_neg, curO, cuC, iC, e0, h, hs, hg, h2, h3, h4, h5, sC])
       | (with_reducible refine awp_if_b rfl (fun hc => ?_) (fun hc => ?_) <;> (try simp [-getElem?_pos, -getElem?_neg] at hc) <;> (try (exfalso; omega)))
       | ((with_reducible first | refine GuardK_b (fun hc => ?_) (fun hc => ?_)) <;> (try simp only [Bool.not_eq_true', Bool.not_eq_false', decide_eq_true_eq, decide_eq_false_iff_not] at hc) <;> (first | (exfalso; omega) | skip) <;> simp [-List.reduceReplicate, Nat.add_one_le_iff, -getElem?_pos, -getElem?_neg, curO, cuC, iC, e0, h, hs, hg, h2, h3, h4, h5, sC, hc])
       | (with_reducible refine And.intro (by omega) ?_)
       | fail)
      all_goals trace_state
  · simp only [curO, cuC, iC] at h hs
    repeat' (first 
     | (with_reducible first | refine awp_scope ?_ | refine awp_seq ?_ | refine awp_block ?_)
     | ((with_reducible first | refine awp_label ?_ | refine awp_skip ?_ | refine awp_exit ?_); try simp only [thenA, inBlockA, noGotoA, if_true, Nat.reduceEqDiff, if_false, ↓reduceIte])
     | ((with_reducible first | refine awp_reg 43 hX [0, 1, 4, 5, 19, 26] ?_ | change postOf _ _ _ _ _); simp [-List.reduceReplicate, Nat.add_one_le_iff, -getElem?_pos, -getElem?_neg, curO, cuC, iC, e0, h1, h, hs, sC])
     | ((first | (with_reducible refine awp_ret ?_; try simp only [thenA, inBlockA, noGotoA])); try simp [-List.reduceReplicate, Nat.add_one_le_iff, -getElem?_pos, -getElem?_neg, curO, cuC, iC, e0, h1, h, hs, sC])
     | (with_reducible refine awp_if_b rfl (fun hc => ?_) (fun hc => ?_) <;> (try simp [-getElem?_pos, -getElem?_neg] at hc) <;> (try (exfalso; omega)))
     | ((with_reducible first | refine GuardK_b (fun hc => ?_) (fun hc => ?_)) <;> (try simp only [Bool.not_eq_true', Bool.not_eq_false', decide_eq_true_eq, decide_eq_false_iff_not] at hc) <;> (first | (exfalso; omega) | skip) <;> simp [-List.reduceReplicate, Nat.add_one_le_iff, -getElem?_pos, -getElem?_neg, curO, cuC, iC, e0, h1, h, hs, sC, hc])
     | (with_reducible refine And.intro (by omega) ?_)
     | fail)
end Go.Av

set_option exponentiation.threshold 1000
set_option linter.unusedVariables false
set_option linter.unusedSimpArgs false
set_option maxRecDepth 100000
set_option maxHeartbeats 4000000
namespace Go.Av
open Go Go.Proofs Go.Proofs.YtpcnacknlgmmlaaGreat Go.RowKit
attribute [local simp] List.getElem?_cons_zero List.getElem?_cons_succ
/-! ### cur: Raw, Hash, Num, Done -/
attribute [local simp] Tryz.underlying9 Tryz.underlying3 Tryz.underlying4 Tryz.underlying30 Tryz.underlying24
theorem Raw_den (i : Nat) (c : Cu) (n : Int) (ob : List Ob) (h : ob[i]? = some (curO c)) : Den Tryz.prog 64 [.mp i 0 0, .c (iC n)] ob (fun r ob' => r = .c (sC (rawC c n).1) ∧ ob' = ob.set i (curO (rawC c n).2)) := by
  unfold rawC
  by_cases hn : n < 0
  · have hf := Fail_den i c 3 ob h
    generalize failC c 3 = d at *
    simp only [curO] at h
    refine den_of Tryz.func64 rfl rfl (by simp [Tryz.ntmps64]) (fun X hX hO => ?_)
    rw [Tryz.ntmps64] at hX
    simp only [Tryz.results64]
    repeat' (first 
     | (with_reducible first | refine awp_scope ?_ | refine awp_seq ?_ | refine awp_block ?_)
     | ((with_reducible first | refine awp_label ?_ | refine awp_skip ?_ | refine awp_exit ?_); try simp only [thenA, inBlockA, noGotoA, if_true, Nat.reduceEqDiff, if_false, ↓reduceIte])
     | ((with_reducible first | refine awp_reg 20 hX [0, 1, 4, 10, 12] ?_ | change postOf _ _ _ _ _); simp [-List.reduceReplicate, Nat.add_one_le_iff, -getElem?_pos, -getElem?_neg, iC, h, hn, sC, e0])
     | ((first | (with_reducible refine awp_ret ?_; try simp only [thenA, inBlockA, noGotoA]) | (refine (hf).det ?_)); try simp [-List.reduceReplicate, Nat.add_one_le_iff, -getElem?_pos, -getElem?_neg, iC, h, hn, sC, e0])
     | (with_reducible refine awp_if_b rfl (fun hc => ?_) (fun hc => ?_) <;> (try simp [-getElem?_pos, -getElem?_neg] at hc) <;> (try (exfalso; omega)))
     | ((with_reducible first | refine GuardK_b (fun hc => ?_) (fun hc => ?_)) <;> (try simp only [Bool.not_eq_true', Bool.not_eq_false', decide_eq_true_eq, decide_eq_false_iff_not] at hc) <;> (first | (exfalso; omega) | skip) <;> simp [-List.reduceReplicate, Nat.add_one_le_iff, -getElem?_pos, -getElem?_neg, iC, h, hn, sC, e0, hc])
     | (with_reducible refine And.intro (by omega) ?_)
     | fail)
  · obtain ⟨k, rfl⟩ := Int.eq_ofNat_of_zero_le (by omega : 0 ≤ n)
    have hf := cut_den i c k ob h
    simp only [hn, if_false, Int.toNat_natCast]
    generalize cutC c k = p at *
    obtain ⟨s, d⟩ := p
    simp only [curO] at h
    refine den_of Tryz.func64 rfl rfl (by simp [Tryz.ntmps64]) (fun X hX hO => ?_)
    rw [Tryz.ntmps64] at hX
    simp only [Tryz.results64]
    repeat' (first 
     | (with_reducible first | refine awp_scope ?_ | refine awp_seq ?_ | refine awp_block ?_)
     | ((with_reducible first | refine awp_label ?_ | refine awp_skip ?_ | refine awp_exit ?_); try simp only [thenA, inBlockA, noGotoA, if_true, Nat.reduceEqDiff, if_false, ↓reduceIte])
     | ((with_reducible first | refine awp_reg 20 hX [0, 1, 4, 10, 12] ?_ | change postOf _ _ _ _ _); simp [-List.reduceReplicate, Nat.add_one_le_iff, -getElem?_pos, -getElem?_neg, iC, h, hn, sC])
     | ((first | (with_reducible refine awp_ret ?_; try simp only [thenA, inBlockA, noGotoA]) | (refine (hf).det ?_)); try simp [-List.reduceReplicate, Nat.add_one_le_iff, -getElem?_pos, -getElem?_neg, iC, h, hn, sC])
     | (with_reducible refine awp_if_b rfl (fun hc => ?_) (fun hc => ?_) <;> (try simp [-getElem?_pos, -getElem?_neg] at hc) <;> (try (exfalso; omega)))
     | ((with_reducible first | refine GuardK_b (fun hc => ?_) (fun hc => ?_)) <;> (try simp only [Bool.not_eq_true', Bool.not_eq_false', decide_eq_true_eq, decide_eq_false_iff_not] at hc) <;> (first | (exfalso; omega) | skip) <;> simp [-List.reduceReplicate, Nat.add_one_le_iff, -getElem?_pos, -getElem?_neg, iC, h, hn, sC, hc])
     | (with_reducible refine And.intro (by omega) ?_)
     | fail)
theorem Err_den (i : Nat) (c : Cu) (ob : List Ob) (h : ob[i]? = some (curO c)) : Den Tryz.prog 70 [.mp i 0 0] ob (fun r ob' => r = .c (iC c.e) ∧ ob' = ob) := by
  obtain ⟨b, f⟩ := c
  simp only [curO, cuC, iC] at h
  refine den_of Tryz.func70 rfl rfl (by simp [Tryz.ntmps70]) (fun X hX hO => ?_)
  rw [Tryz.ntmps70] at hX
  simp only [Tryz.results70]
  repeat' (first 
   | (with_reducible first | refine awp_scope ?_ | refine awp_seq ?_ | refine awp_block ?_)
   | ((with_reducible first | refine awp_label ?_ | refine awp_skip ?_ | refine awp_exit ?_); try simp only [thenA, inBlockA, noGotoA, if_true, Nat.reduceEqDiff, if_false, ↓reduceIte])
   | ((with_reducible first | refine awp_reg 10 hX [0, 2, 4] ?_ | change postOf _ _ _ _ _); simp [-List.reduceReplicate, Nat.add_one_le_iff, -getElem?_pos, -getElem?_neg, iC, h])
   | ((first | (with_reducible refine awp_ret ?_; try simp only [thenA, inBlockA, noGotoA])); try simp [-List.reduceReplicate, Nat.add_one_le_iff, -getElem?_pos, -getElem?_neg, iC, h])
   | (with_reducible refine awp_if_b rfl (fun hc => ?_) (fun hc => ?_) <;> (try simp [-getElem?_pos, -getElem?_neg] at hc) <;> (try (exfalso; omega)))
   | (with_reducible refine And.intro (by omega) ?_)
   | fail)
theorem Left_den (i : Nat) (c : Cu) (ob : List Ob) (h : ob[i]? = some (curO c)) : Den Tryz.prog 71 [.mp i 0 0] ob (fun r ob' => r = .c (iC c.b.size) ∧ ob' = ob) := by
  obtain ⟨b, f⟩ := c
  simp only [curO, cuC, iC] at h
  refine den_of Tryz.func71 rfl rfl (by simp [Tryz.ntmps71]) (fun X hX hO => ?_)
  rw [Tryz.ntmps71] at hX
  simp only [Tryz.results71]
  repeat' (first 
   | (with_reducible first | refine awp_scope ?_ | refine awp_seq ?_ | refine awp_block ?_)
   | ((with_reducible first | refine awp_label ?_ | refine awp_skip ?_ | refine awp_exit ?_); try simp only [thenA, inBlockA, noGotoA, if_true, Nat.reduceEqDiff, if_false, ↓reduceIte])
   | ((with_reducible first | refine awp_reg 11 hX [0, 2, 4] ?_ | change postOf _ _ _ _ _); simp [-List.reduceReplicate, Nat.add_one_le_iff, -getElem?_pos, -getElem?_neg, iC, h])
   | ((first | (with_reducible refine awp_ret ?_; try simp only [thenA, inBlockA, noGotoA])); try simp [-List.reduceReplicate, Nat.add_one_le_iff, -getElem?_pos, -getElem?_neg, iC, h])
   | (with_reducible refine awp_if_b rfl (fun hc => ?_) (fun hc => ?_) <;> (try simp [-getElem?_pos, -getElem?_neg] at hc) <;> (try (exfalso; omega)))
   | (with_reducible refine And.intro (by omega) ?_)
   | fail)
theorem Done_den (i : Nat) (c : Cu) (ob : List Ob) (h : ob[i]? = some (curO c)) : Den Tryz.prog 30 [.mp i 0 0] ob (fun r ob' => r = .c (iC (doneC c)) ∧ ob' = ob) := by
  have c1 := Err_den i c ob h
  have c2 := Left_den i c ob h
  unfold doneC
  obtain ⟨b, f⟩ := c
  simp only at c1 c2 ⊢
  refine den_of Tryz.func30 rfl rfl (by simp [Tryz.ntmps30]) (fun X hX hO => ?_)
  rw [Tryz.ntmps30] at hX
  simp only [Tryz.results30]
  by_cases h1 : f = 0
  · subst h1
    by_cases h2 : b.size = 0
    · repeat' (first 
       | (with_reducible first | refine awp_scope ?_ | refine awp_seq ?_ | refine awp_block ?_)
       | ((with_reducible first | refine awp_label ?_ | refine awp_skip ?_ | refine awp_exit ?_); try simp only [thenA, inBlockA, noGotoA, if_true, Nat.reduceEqDiff, if_false, ↓reduceIte])
       | ((with_reducible first | refine awp_reg 13 hX [0, 2, 10] ?_ | change postOf _ _ _ _ _); simp [-List.reduceReplicate, Nat.add_one_le_iff, -getElem?_pos, -getElem?_neg, iC, h2])
       | ((first | (with_reducible refine awp_ret ?_; try simp only [thenA, inBlockA, noGotoA]) | (refine (c1).det ?_) | (refine (c2).det ?_)); try simp [-List.reduceReplicate, Nat.add_one_le_iff, -getElem?_pos, -getElem?_neg, iC, h2])
       | (with_reducible refine awp_if_b rfl (fun hc => ?_) (fun hc => ?_) <;> (try simp [-getElem?_pos, -getElem?_neg] at hc) <;> (try (exfalso; omega)))
       | ((with_reducible first | refine GuardK_b (fun hc => ?_) (fun hc => ?_)) <;> (try simp only [Bool.not_eq_true', Bool.not_eq_false', decide_eq_true_eq, decide_eq_false_iff_not] at hc) <;> (first | (exfalso; omega) | skip) <;> simp [-List.reduceReplicate, Nat.add_one_le_iff, -getElem?_pos, -getElem?_neg, iC, h2, hc])
       | (with_reducible refine And.intro (by omega) ?_)
       | fail)
    · have h3 : (0 : Int) < (b.size : Int) := by omega
      have h4 : 0 < b.size := by omega
      repeat' (first 
       | (with_reducible first | refine awp_scope ?_ | refine awp_seq ?_ | refine awp_block ?_)
       | ((with_reducible first | refine awp_label ?_ | refine awp_skip ?_ | refine awp_exit ?_); try simp only [thenA, inBlockA, noGotoA, if_true, Nat.reduceEqDiff, if_false, ↓reduceIte])
       | ((with_reducible first | refine awp_reg 13 hX [0, 2, 10] ?_ | change postOf _ _ _ _ _); simp [-List.reduceReplicate, Nat.add_one_le_iff, -getElem?_pos, -getElem?_neg, iC, h2, h3, h4])
       | ((first | (with_reducible refine awp_ret ?_; try simp only [thenA, inBlockA, noGotoA]) | (refine (c1).det ?_) | (refine (c2).det ?_)); try simp [-List.reduceReplicate, Nat.add_one_le_iff, -getElem?_pos, -getElem?_neg, iC, h2, h3, h4])
       | (with_reducible refine awp_if_b rfl (fun hc => ?_) (fun hc => ?_) <;> (try simp [-getElem?_pos, -getElem?_neg] at hc) <;> (try (exfalso; omega)))
       | ((with_reducible first | refine GuardK_b (fun hc => ?_) (fun hc => ?_)) <;> (try simp only [Bool.not_eq_true', Bool.not_eq_false', decide_eq_true_eq, decide_eq_false_iff_not] at hc) <;> (first | (exfalso; omega) | skip) <;> simp [-List.reduceReplicate, Nat.add_one_le_iff, -getElem?_pos, -getElem?_neg, iC, h2, h3, h4, hc])
       | (with_reducible refine And.intro (by omega) ?_)
       | fail)
  · repeat' (first 
     | (with_reducible first | refine awp_scope ?_ | refine awp_seq ?_ | refine awp_block ?_)
     | ((with_reducible first | refine awp_label ?_ | refine awp_skip ?_ | refine awp_exit ?_); try simp only [thenA, inBlockA, noGotoA, if_true, Nat.reduceEqDiff, if_false, ↓reduceIte])
     | ((with_reducible first | refine awp_reg 13 hX [0, 2, 10] ?_ | change postOf _ _ _ _ _); simp [-List.reduceReplicate, Nat.add_one_le_iff, -getElem?_pos, -getElem?_neg, iC, h1])
     | ((first | (with_reducible refine awp_ret ?_; try simp only [thenA, inBlockA, noGotoA]) | (refine (c1).det ?_) | (refine (c2).det ?_)); try simp [-List.reduceReplicate, Nat.add_one_le_iff, -getElem?_pos, -getElem?_neg, iC, h1])
     | (with_reducible refine awp_if_b rfl (fun hc => ?_) (fun hc => ?_) <;> (try simp [-getElem?_pos, -getElem?_neg] at hc) <;> (try (exfalso; omega)))
     | ((with_reducible first | refine GuardK_b (fun hc => ?_) (fun hc => ?_)) <;> (try simp only [Bool.not_eq_true', Bool.not_eq_false', decide_eq_true_eq, decide_eq_false_iff_not] at hc) <;> (first | (exfalso; omega) | skip) <;> simp [-List.reduceReplicate, Nat.add_one_le_iff, -getElem?_pos, -getElem?_neg, iC, h1, hc])
     | (with_reducible refine And.intro (by omega) ?_)
     | fail)
theorem Num_den (i : Nat) (c : Cu) (most : Nat) (hb : c.b.size ≤ 9223372036854775807) (ob : List Ob) (h : ob[i]? = some (curO c)) : Den Tryz.prog 29 [.mp i 0 0, .c (u64C most)] ob (fun r ob' => r = .c (u64C (numC c most).1) ∧ ob' = ob.set i (curO (numC c most).2)) := by
  have hs := set_same ob i _ h
  have ht := num_take_den c.b hb
  have hF := fun e => Fail_den i c e ob h
  have hC := fun n => cut_den i c n ob h
  obtain ⟨t1, t2, t3, t4, t5⟩ := takeV_ok c.b
  unfold numC
  generalize takeV c.b = p at *
  obtain ⟨x, n, e⟩ := p
  unfold takeM at ht
  obtain ⟨b, f⟩ := c
  simp only at *
  by_cases h1 : f = 0
  · subst h1
    by_cases h2 : e = 0
    · subst h2
      by_cases h3 : most < x
      · have h4 : (most : Int) < (x : Int) := by omega
        have f2 := hF 3
        rw [show failC ⟨b, 0⟩ 3 = ⟨e0, 3⟩ by simp [failC]] at f2
        clear hF hC
        simp only [curO, cuC, iC] at h hs f2
        refine den_of Tryz.func29 rfl rfl (by simp [Tryz.ntmps29]) (fun X hX hO => ?_)
        rw [Tryz.ntmps29] at hX
        simp only [Tryz.results29]
        repeat' (first 
         | (with_reducible first | refine awp_scope ?_ | refine awp_seq ?_ | refine awp_block ?_)
         | ((with_reducible first | refine awp_label ?_ | refine awp_skip ?_ | refine awp_exit ?_); try simp only [thenA, inBlockA, noGotoA, if_true, Nat.reduceEqDiff, if_false, ↓reduceIte])
         | ((with_reducible first | refine awp_reg 46 hX [0, 1, 4, 5, 6, 7, 17, 28, 34] ?_ | change postOf _ _ _ _ _); simp [-List.reduceReplicate, Nat.add_one_le_iff, -getElem?_pos, -getElem?_neg, curO, cuC, iC, u64C, e0, h3, h4, h])
         | ((first | (with_reducible refine awp_ret ?_; try simp only [thenA, inBlockA, noGotoA]) | (refine (ht _).det ?_) | (refine (f2).det ?_)); try simp [-List.reduceReplicate, Nat.add_one_le_iff, -getElem?_pos, -getElem?_neg, curO, cuC, iC, u64C, e0, h3, h4, h])
         | (with_reducible refine awp_if_b rfl (fun hc => ?_) (fun hc => ?_) <;> (try simp [-getElem?_pos, -getElem?_neg] at hc) <;> (try (exfalso; omega)))
         | ((with_reducible first | refine GuardK_b (fun hc => ?_) (fun hc => ?_)) <;> (try simp only [Bool.not_eq_true', Bool.not_eq_false', decide_eq_true_eq, decide_eq_false_iff_not] at hc) <;> (first | (exfalso; omega) | skip) <;> simp [-List.reduceReplicate, Nat.add_one_le_iff, -getElem?_pos, -getElem?_neg, curO, cuC, iC, u64C, e0, h3, h4, h, hc])
         | (with_reducible refine And.intro (by omega) ?_)
         | fail)
      · have h4 : ¬ (most : Int) < (x : Int) := by omega
        have f2 := hC n
        rw [show cutC ⟨b, 0⟩ n = (b.extract 0 n, ⟨b.extract n b.size, 0⟩) by simp [cutC]; omega] at f2
        clear hF hC
        simp only [curO, cuC, iC] at h hs f2
        refine den_of Tryz.func29 rfl rfl (by simp [Tryz.ntmps29]) (fun X hX hO => ?_)
        rw [Tryz.ntmps29] at hX
        simp only [Tryz.results29]
        repeat' (first 
         | (with_reducible first | refine awp_scope ?_ | refine awp_seq ?_ | refine awp_block ?_)
         | ((with_reducible first | refine awp_label ?_ | refine awp_skip ?_ | refine awp_exit ?_); try simp only [thenA, inBlockA, noGotoA, if_true, Nat.reduceEqDiff, if_false, ↓reduceIte])
         | ((with_reducible first | refine awp_reg 46 hX [0, 1, 4, 5, 6, 7, 17, 28, 34] ?_ | change postOf _ _ _ _ _); simp [-List.reduceReplicate, Nat.add_one_le_iff, -getElem?_pos, -getElem?_neg, curO, cuC, iC, u64C, e0, h3, h4, h])
         | ((first | (with_reducible refine awp_ret ?_; try simp only [thenA, inBlockA, noGotoA]) | (refine (ht _).det ?_) | (refine (f2).det ?_)); try simp [-List.reduceReplicate, Nat.add_one_le_iff, -getElem?_pos, -getElem?_neg, curO, cuC, iC, u64C, e0, h3, h4, h])
         | (with_reducible refine awp_if_b rfl (fun hc => ?_) (fun hc => ?_) <;> (try simp [-getElem?_pos, -getElem?_neg] at hc) <;> (try (exfalso; omega)))
         | ((with_reducible first | refine GuardK_b (fun hc => ?_) (fun hc => ?_)) <;> (try simp only [Bool.not_eq_true', Bool.not_eq_false', decide_eq_true_eq, decide_eq_false_iff_not] at hc) <;> (first | (exfalso; omega) | skip) <;> simp [-List.reduceReplicate, Nat.add_one_le_iff, -getElem?_pos, -getElem?_neg, curO, cuC, iC, u64C, e0, h3, h4, h, hc])
         | (with_reducible refine And.intro (by omega) ?_)
         | fail)
    · have h3 : ¬ (e : Int) = 0 := by omega
      have f2 := hF e
      rw [show failC ⟨b, 0⟩ (e : Int) = ⟨e0, e⟩ by simp [failC, h2]] at f2
      clear hF hC
      simp only [curO, cuC, iC] at h hs f2
      refine den_of Tryz.func29 rfl rfl (by simp [Tryz.ntmps29]) (fun X hX hO => ?_)
      rw [Tryz.ntmps29] at hX
      simp only [Tryz.results29]
      repeat' (first 
       | (with_reducible first | refine awp_scope ?_ | refine awp_seq ?_ | refine awp_block ?_)
       | ((with_reducible first | refine awp_label ?_ | refine awp_skip ?_ | refine awp_exit ?_); try simp only [thenA, inBlockA, noGotoA, if_true, Nat.reduceEqDiff, if_false, ↓reduceIte])
       | ((with_reducible first | refine awp_reg 46 hX [0, 1, 4, 5, 6, 7, 17, 28, 34] ?_ | change postOf _ _ _ _ _); simp [-List.reduceReplicate, Nat.add_one_le_iff, -getElem?_pos, -getElem?_neg, curO, cuC, iC, u64C, e0, h2, h3, h])
       | ((first | (with_reducible refine awp_ret ?_; try simp only [thenA, inBlockA, noGotoA]) | (refine (ht _).det ?_) | (refine (f2).det ?_)); try simp [-List.reduceReplicate, Nat.add_one_le_iff, -getElem?_pos, -getElem?_neg, curO, cuC, iC, u64C, e0, h2, h3, h])
       | (with_reducible refine awp_if_b rfl (fun hc => ?_) (fun hc => ?_) <;> (try simp [-getElem?_pos, -getElem?_neg] at hc) <;> (try (exfalso; omega)))
       | ((with_reducible first | refine GuardK_b (fun hc => ?_) (fun hc => ?_)) <;> (try simp only [Bool.not_eq_true', Bool.not_eq_false', decide_eq_true_eq, decide_eq_false_iff_not] at hc) <;> (first | (exfalso; omega) | skip) <;> simp [-List.reduceReplicate, Nat.add_one_le_iff, -getElem?_pos, -getElem?_neg, curO, cuC, iC, u64C, e0, h2, h3, h, hc])
       | (with_reducible refine And.intro (by omega) ?_)
       | fail)
  · clear hF hC
    simp only [curO, cuC, iC] at h hs
    refine den_of Tryz.func29 rfl rfl (by simp [Tryz.ntmps29]) (fun X hX hO => ?_)
    rw [Tryz.ntmps29] at hX
    simp only [Tryz.results29]
    repeat' (first 
     | (with_reducible first | refine awp_scope ?_ | refine awp_seq ?_ | refine awp_block ?_)
     | ((with_reducible first | refine awp_label ?_ | refine awp_skip ?_ | refine awp_exit ?_); try simp only [thenA, inBlockA, noGotoA, if_true, Nat.reduceEqDiff, if_false, ↓reduceIte])
     | ((with_reducible first | refine awp_reg 46 hX [0, 1, 4, 5, 6, 7, 17, 28, 34] ?_ | change postOf _ _ _ _ _); simp [-List.reduceReplicate, Nat.add_one_le_iff, -getElem?_pos, -getElem?_neg, curO, cuC, iC, u64C, e0, h1, h, hs])
     | ((first | (with_reducible refine awp_ret ?_; try simp only [thenA, inBlockA, noGotoA])); try simp [-List.reduceReplicate, Nat.add_one_le_iff, -getElem?_pos, -getElem?_neg, curO, cuC, iC, u64C, e0, h1, h, hs])
     | (with_reducible refine awp_if_b rfl (fun hc => ?_) (fun hc => ?_) <;> (try simp [-getElem?_pos, -getElem?_neg] at hc) <;> (try (exfalso; omega)))
     | ((with_reducible first | refine GuardK_b (fun hc => ?_) (fun hc => ?_)) <;> (try simp only [Bool.not_eq_true', Bool.not_eq_false', decide_eq_true_eq, decide_eq_false_iff_not] at hc) <;> (first | (exfalso; omega) | skip) <;> simp [-List.reduceReplicate, Nat.add_one_le_iff, -getElem?_pos, -getElem?_neg, curO, cuC, iC, u64C, e0, h1, h, hs, hc])
     | (with_reducible refine And.intro (by omega) ?_)
     | fail)
end Go.Av

set_option exponentiation.threshold 1000
set_option linter.unusedVariables false
set_option linter.unusedSimpArgs false
set_option maxRecDepth 100000
set_option maxHeartbeats 4000000
namespace Go.Av
open Go Go.Proofs Go.Proofs.YtpcnacknlgmmlaaGreat Go.RowKit
attribute [local simp] List.getElem?_cons_zero List.getElem?_cons_succ
/-! ### cur.Hash, milepostref08.Hash -/
attribute [local simp] Tryz.underlying9 Tryz.underlying3 Tryz.underlying4 Tryz.underlying30 Tryz.underlying24
def okCu (ob : List Ob) : Prop := ob.all (fun q => q.cs.all (ltB ob.length)) = true
/-- 32 bytes of a text, from a place on. -/
def h32 (s : ByteArray) (off : Nat) : H32 := ⟨(s.data.toList.drop off ++ List.replicate 32 0).take 32, by simp⟩
def hashC (c : Cu) : H32 × Cu := (h32 (rawC c 32).1 0, (rawC c 32).2)
theorem rawC_size (c : Cu) (n : Nat) : (rawC c n).1.size = 0 ∨ (rawC c n).1.size = n := by
  unfold rawC cutC
  rw [if_neg (by omega)]
  split
  · exact .inl rfl
  · split
    · exact .inl rfl
    · right
      rename_i h
      simp only [Int.toNat_natCast] at h ⊢
      rw [ByteArray.size_extract]
      omega
def zH : Ob := ⟨24, 1, false, 0, up (List.replicate 32 (C.v (Value.int .u8 0))), none⟩
theorem copy32 (s : ByteArray) (h : s.size ≤ 32) : lay (up (List.replicate 32 (C.v (Value.int .u8 0)))) 0 (up ((s.toList.map fun b => C.v (Value.int .u8 (b.toNat : Int))).take s.size)) = up ((h32 s 0).1.map bC8) := by
  have hv : (h32 s 0).1 = (s.data.toList.drop 0 ++ List.replicate 32 0).take 32 := rfl
  rw [toList_data, hv]
  have hl : s.data.toList.length = s.size := by rw [Array.length_toList]; rfl
  generalize s.data.toList = l at *
  rw [← hl] at h ⊢
  rw [show l.length = (l.map fun b => C.v (Value.int .u8 (b.toNat : Int))).length by simp, List.take_length, lay_app _ _ _ (by simp only [up, List.length_map, List.length_replicate]; omega)]
  have e1 : (l.drop 0 ++ List.replicate 32 (0 : UInt8)).take 32 = l ++ List.replicate (32 - l.length) 0 := by
    rw [List.drop_zero, List.take_append, List.take_of_length_le h, List.take_replicate, Nat.min_eq_left (by omega)]
  rw [e1]
  simp only [up, List.map_replicate, List.map_append, List.map_map, List.length_map, Nat.zero_add, List.take_zero, List.nil_append, List.drop_replicate]
  rfl
theorem okCu_set (ob : List Ob) (i : Nat) (d : Cu) (h : okCu ob) : okCu (ob.set i (curO d)) := by
  unfold okCu at *
  rw [List.length_set, List.all_eq_true] at *
  intro q hq
  rcases List.mem_or_eq_of_mem_set hq with h1 | h1
  · exact h q h1
  · subst h1
    simp [curO, cuC, up, ltB, iC]
theorem chash_den (i : Nat) (c : Cu) (ob : List Ob) (h : ob[i]? = some (curO c)) (hok : okCu ob) : Den Tryz.prog 27 [.mp i 0 0] ob (fun r ob' => r = hashM (hashC c).1.1 ∧ ob' = ob.set i (curO (hashC c).2)) := by
  have hil := (List.getElem?_eq_some_iff.1 h).1
  have hR := Raw_den i c 32 (ob ++ [zH, zH]) (by rw [List.getElem?_append_left hil, h])
  rw [List.set_append_left _ _ hil] at hR
  unfold hashC
  have hsz := rawC_size c 32
  refine Den.forget ?_ ?_ ?_ ?_
  · simp
  · simp [hashM, ltB]
  · exact okCu_set ob i _ hok
  generalize (rawC c 32) = pr at *
  obtain ⟨s, d⟩ := pr
  simp only at *
  have hll : (ob.set i (curO d)).length = ob.length := by simp
  generalize ob.set i (curO d) = ob2 at *
  simp only [zH] at hR
  have hs32 : s.size ≤ 32 := by omega
  have hs := copy32 s hs32
  have hmin : min s.size 32 = s.size := by omega
  have hsl : s.toList.length = s.size := by rw [toList_data, Array.length_toList]; rfl
  have hFl : ((h32 s 0).1.map bC8).length = 32 := by simp [h32]
  unfold hashM
  generalize (h32 s 0).1.map bC8 = F at *
  have g1 : ∀ x y, (ob2 ++ [x, y])[ob.length + 1]? = some y := fun x y => by rw [← hll]; simp
  have g0 : ∀ x y, (ob2 ++ [x, y])[ob.length]? = some x := fun x y => by rw [← hll]; simp
  have g2 : ∀ x y z, (ob2 ++ [x, y]).set (ob.length + 1) z = ob2 ++ [x, z] := fun x y z => by rw [← hll, List.set_append_right _ _ (by omega)]; simp
  refine den_of Tryz.func27 rfl rfl (by simp [Tryz.ntmps27]) (fun X hX hO => ?_)
  rw [Tryz.ntmps27] at hX
  simp only [Tryz.results27]
  repeat' (first 
   | (with_reducible first | refine awp_scope ?_ | refine awp_seq ?_ | refine awp_block ?_)
   | ((with_reducible first | refine awp_label ?_ | refine awp_skip ?_ | refine awp_exit ?_); try simp only [thenA, inBlockA, noGotoA, if_true, Nat.reduceEqDiff, if_false, ↓reduceIte])
   | ((with_reducible first | refine awp_reg 9 hX [0, 2, 3] ?_ | refine DEv_cut _ _ _ _ _ _ _ _ _ _ _ _ (by kernel_rfl) ?_ | change postOf _ _ _ _ _); simp [-List.reduceReplicate, Nat.add_one_le_iff, -getElem?_pos, -getElem?_neg, hashM])
   | ((first | (with_reducible refine awp_ret ?_; try simp only [thenA, inBlockA, noGotoA])); try simp [-List.reduceReplicate, Nat.add_one_le_iff, -getElem?_pos, -getElem?_neg, hashM])
   | (with_reducible refine awp_if_b rfl (fun hc => ?_) (fun hc => ?_) <;> (try simp [-getElem?_pos, -getElem?_neg] at hc) <;> (try (exfalso; omega)))
   | (with_reducible refine And.intro (by omega) ?_)
   | fail)
  refine awp_drawS (id := 2) 9 hX [0, 2, 3] Tab.mixed (by kernel_rfl) [.ms (ob.length + 1) 0 0 32, .mp i 0 0, .c (sC s), .c (iC s.size)] (fun p => if p 3 then ob2 ++ [zH, ⟨24, 1, false, 0, up F, none⟩] else if p 2 then ob2 ++ [zH, zH] else ob ++ [zH, zH]) (by simp [-List.reduceReplicate, hashM, zH, g1, g0, g2, sC, iC, hmin, hs, hs32, hsl]) (fun p q hpq => ?_) ?_ ?_
  · simp only [hpq 2 (by decide), hpq 3 (by decide)]
  · intro i o p hl hp hcl hno
    match i, hl with
    | 0, hl =>
      obtain rfl := Option.some.inj hl
      have c3 : p 3 = false := by cases h : p 3 with | false => rfl | true => exact absurd (List.contains_iff_mem.1 (by kernel_rfl)) (hno 3 _ rfl h)
      all_goals rcases Bool.eq_false_or_eq_true (p 2) with c2 | c2
      all_goals refine ⟨_, rfl, ?_⟩
      all_goals simp [StepS, frP, -exists_and_left, hp, c3, c2, -List.reduceReplicate, hashM, zH, g1, g0, g2, sC, iC, hmin, hs, hs32, hsl]
    | 1, hl =>
      obtain rfl := Option.some.inj hl
      have c2 : p 2 = false := by cases h : p 2 with | false => rfl | true => exact absurd (List.contains_iff_mem.1 (by kernel_rfl)) (hno 2 _ rfl h)
      have c3 : p 3 = false := by cases h : p 3 with | false => rfl | true => exact absurd (List.contains_iff_mem.1 (by kernel_rfl)) (hno 3 _ rfl h)
      all_goals refine ⟨_, rfl, ?_⟩
      all_goals simp [StepS, frP, -exists_and_left, hp, c2, c3, -List.reduceReplicate, hashM, zH, g1, g0, g2, sC, iC, hmin, hs, hs32, hsl]
    | 2, hl =>
      obtain rfl := Option.some.inj hl
      have c3 : p 3 = false := by cases h : p 3 with | false => rfl | true => exact absurd (List.contains_iff_mem.1 (by kernel_rfl)) (hno 3 _ rfl h)
      all_goals refine ⟨_, rfl, ?_⟩
      all_goals simp [StepS, frP, -exists_and_left, hp, c3, -List.reduceReplicate, hashM, zH, g1, g0, g2, sC, iC, hmin, hs, hs32, hsl]
      all_goals first | exact ⟨_, _, ⟨rfl, rfl⟩, hR⟩
    | 3, hl =>
      obtain rfl := Option.some.inj hl
      have c2 : p 2 = true := hcl 2 (List.contains_iff_mem.1 (by kernel_rfl))
      all_goals refine ⟨_, rfl, ?_⟩
      all_goals simp [StepS, frP, -exists_and_left, hp, c2, -List.reduceReplicate, hashM, zH, g1, g0, g2, sC, iC, hmin, hs, hs32, hsl]
    | n + 4, hl => simp at hl
  simp [frP, -List.reduceReplicate, hashM, zH, g1, g0, g2, sC, iC, hmin, hs, hs32, hsl]
  have g3 : ∀ x y z, (ob2 ++ [x, y]).set ob.length z = ob2 ++ [z, y] := fun x y z => by rw [← hll, List.set_append_right _ _ (by omega)]; simp
  have ht32 : F.take 32 = F := List.take_of_length_le (by omega)
  repeat' (first 
   | (with_reducible first | refine awp_scope ?_ | refine awp_seq ?_ | refine awp_block ?_)
   | ((with_reducible first | refine awp_label ?_ | refine awp_skip ?_ | refine awp_exit ?_); try simp only [thenA, inBlockA, noGotoA, if_true, Nat.reduceEqDiff, if_false, ↓reduceIte])
   | ((with_reducible first | refine awp_reg 9 hX [0, 2, 3] ?_ | refine DEv_cut _ _ _ _ _ _ _ _ _ _ _ _ (by kernel_rfl) ?_ | change postOf _ _ _ _ _); simp [-List.reduceReplicate, Nat.add_one_le_iff, -getElem?_pos, -getElem?_neg, hashM, g1, g0, g2, g3, hFl, ht32])
   | ((first | (with_reducible refine awp_ret ?_; try simp only [thenA, inBlockA, noGotoA])); try simp [-List.reduceReplicate, Nat.add_one_le_iff, -getElem?_pos, -getElem?_neg, hashM, g1, g0, g2, g3, hFl, ht32])
   | (with_reducible refine awp_if_b rfl (fun hc => ?_) (fun hc => ?_) <;> (try simp [-getElem?_pos, -getElem?_neg] at hc) <;> (try (exfalso; omega)))
   | (with_reducible refine And.intro (by omega) ?_)
   | fail)
  all_goals trace_state
theorem mk_e0 : (⟨⟨[]⟩⟩ : ByteArray) = e0 := rfl
theorem mk_e1 : (⟨#[]⟩ : ByteArray) = e0 := rfl
end Go.Av

set_option exponentiation.threshold 1000
set_option linter.unusedVariables false
set_option linter.unusedSimpArgs false
set_option maxRecDepth 100000
set_option maxHeartbeats 4000000
namespace Go.Av
open Go Go.Proofs Go.Proofs.YtpcnacknlgmmlaaGreat Go.RowKit
attribute [local simp] List.getElem?_cons_zero List.getElem?_cons_succ
/-! ### ident -/
def idL (h : HD) : List UInt8 := shaL (bsS (3 :: hdL h))
theorem head_bs (h : HD) : headT (bsS (hdL h)) = 3 :: hdL h := rfl
theorem identId_den (h : HD) (hok : HDok h) : DenV Tryz.prog 46 [hdM h] (hashM (idL h)) := by
  refine Den.frame (by simp [ltBs, ltB, hdM, ltBs_up]) (lt_hash _ _) ?_
  have c4 := hdC_len h
  have c5 := hdC_66 h
  have p1 := headBytes_den h hok
  have p2 := headerSum_den (bsS (hdL h)) (by rw [bs_size, hdL_len]; omega)
  rw [head_bs] at p2
  have hl : (idL h).length = 32 := shaL_len _
  have t1 := hash_take _ hl
  unfold idL at *
  unfold hdM at *
  generalize shaL (bsS (3 :: hdL h)) = y at *
  generalize hdC h = hd at *
  generalize bsS (hdL h) = x at *
  refine den_of Tryz.func46 rfl rfl (by simp [Tryz.ntmps46]) (fun X hX hO => ?_)
  rw [Tryz.ntmps46] at hX
  simp only [Tryz.results46]
  repeat' (first 
   | (with_reducible first | refine awp_scope ?_ | refine awp_seq ?_ | refine awp_block ?_)
   | ((with_reducible first | refine awp_label ?_ | refine awp_skip ?_ | refine awp_exit ?_); try simp only [thenA, inBlockA, noGotoA, if_true, Nat.reduceEqDiff, if_false, ↓reduceIte])
   | ((with_reducible first | refine awp_reg 6 hX [1, 2] ?_ | change postOf _ _ _ _ _); simp [-List.reduceReplicate, Nat.add_one_le_iff, -getElem?_pos, -getElem?_neg, c4, c5, hashM, hl, t1])
   | ((first | (with_reducible refine awp_ret ?_; try simp only [thenA, inBlockA, noGotoA]) | (refine (p1 _).det ?_) | (refine (p2 _).det ?_)); try simp [-List.reduceReplicate, Nat.add_one_le_iff, -getElem?_pos, -getElem?_neg, c4, c5, hashM, hl, t1])
   | (with_reducible refine awp_if_b rfl (fun hc => ?_) (fun hc => ?_) <;> (try simp [-getElem?_pos, -getElem?_neg] at hc) <;> (try (exfalso; omega)))
   | (with_reducible refine And.intro (by omega) ?_)
   | fail)
theorem id17_den (h : HD) (hok : HDok h) : DenV Tryz.prog 50 [hdM h] (hashM (idL h)) := by
  refine Den.frame (by simp [ltBs, ltB, hdM, ltBs_up]) (lt_hash _ _) ?_
  have c4 := hdC_len h
  have c5 := hdC_66 h
  have p1 := bytes17_den h hok
  have p2 := headerText03_den (bsS (hdL h)) (by rw [bs_size, hdL_len]; omega)
  have p3 := sha02_den (bsS (headT (bsS (hdL h)))) (by rw [head_bs, bs_size, List.length_cons, hdL_len]; omega)
  rw [head_bs] at p2 p3
  have hl : (idL h).length = 32 := shaL_len _
  have t1 := hash_take _ hl
  unfold idL at *
  unfold hdM at *
  generalize shaL (bsS (3 :: hdL h)) = y at *
  generalize bsS (3 :: hdL h) = z at *
  generalize hdC h = hd at *
  generalize bsS (hdL h) = x at *
  refine den_of Tryz.func50 rfl rfl (by simp [Tryz.ntmps50]) (fun X hX hO => ?_)
  rw [Tryz.ntmps50] at hX
  simp only [Tryz.results50]
  repeat' (first 
   | (with_reducible first | refine awp_scope ?_ | refine awp_seq ?_ | refine awp_block ?_)
   | ((with_reducible first | refine awp_label ?_ | refine awp_skip ?_ | refine awp_exit ?_); try simp only [thenA, inBlockA, noGotoA, if_true, Nat.reduceEqDiff, if_false, ↓reduceIte])
   | ((with_reducible first | refine awp_reg 7 hX [1, 2] ?_ | change postOf _ _ _ _ _); simp [-List.reduceReplicate, Nat.add_one_le_iff, -getElem?_pos, -getElem?_neg, c4, c5, hashM, hl, t1])
   | ((first | (with_reducible refine awp_ret ?_; try simp only [thenA, inBlockA, noGotoA]) | (refine (p1 _).det ?_) | (refine (p2 _).det ?_) | (refine (p3 _).det ?_)); try simp [-List.reduceReplicate, Nat.add_one_le_iff, -getElem?_pos, -getElem?_neg, c4, c5, hashM, hl, t1])
   | (with_reducible refine awp_if_b rfl (fun hc => ?_) (fun hc => ?_) <;> (try simp [-getElem?_pos, -getElem?_neg] at hc) <;> (try (exfalso; omega)))
   | (with_reducible refine And.intro (by omega) ?_)
   | fail)
/-! ### lists of hashes -/
def hsC (l : List H32) : List C := l.flatMap fun h => h.1.map bC8
theorem hsC_len (l : List H32) : (hsC l).length = 32 * l.length := by
  have := flat_len (f := fun h : H32 => h.1.map bC8) (sz := 32) (fun h => by simp [h.2]) l
  unfold hsC
  omega
theorem flat_take {A B : Type} {f : A → List B} {sz : Nat} (hf : ∀ a, (f a).length = sz) (l : List A) : ∀ (i : Nat) (a : A), l[i]? = some a → ((l.flatMap f).drop (i * sz)).take sz = f a := by
  induction l with
  | nil => intro i a h; simp at h
  | cons x l ih =>
    intro i a h
    simp only [List.flatMap_cons]
    cases i with
    | zero =>
      simp at h
      subst h
      rw [Nat.zero_mul, List.drop_zero, List.take_append_of_le_length (by rw [hf]; exact Nat.le_refl _), List.take_of_length_le (by rw [hf]; exact Nat.le_refl _)]
    | succ i =>
      have hx := hf x
      rw [Nat.add_mul, Nat.one_mul, Nat.add_comm (i * sz) sz, ← List.drop_drop, List.drop_left' hx]
      exact ih i a (by simpa using h)
theorem hsC_at (l : List H32) (i : Nat) (h : H32) (hi : l[i]? = some h) : ((hsC l).drop (i * 32)).take 32 = h.1.map bC8 := flat_take (fun h => by simp [h.2]) l i h hi
def fstI : List H32 → List UInt8 → Nat → Int
  | [], _, _ => -1
  | x :: r, id, k => if x.1 = id then (k : Int) else fstI r id (k + 1)
end Go.Av

set_option exponentiation.threshold 1000
set_option linter.unusedVariables false
set_option linter.unusedSimpArgs false
set_option maxRecDepth 100000
set_option maxHeartbeats 4000000
namespace Go.Av
open Go Go.Proofs Go.Proofs.YtpcnacknlgmmlaaGreat Go.RowKit
attribute [local simp] List.getElem?_cons_zero List.getElem?_cons_succ
/-! ### ident: lists of headers -/
def hdsC (l : List HD) : List C := l.flatMap hdC
def idH (h : HD) : H32 := ⟨idL h, shaL_len _⟩
def idsTo (l : List HD) (i : Nat) : List C := hsC ((l.take i).map idH)
end Go.Av

set_option exponentiation.threshold 1000
set_option linter.unusedVariables false
set_option linter.unusedSimpArgs false
set_option maxRecDepth 100000
set_option maxHeartbeats 4000000
namespace Go.Av
open Go Go.Proofs Go.Proofs.YtpcnacknlgmmlaaGreat Go.RowKit
attribute [local simp] List.getElem?_cons_zero List.getElem?_cons_succ
def Z32 : H32 := ⟨List.replicate 32 0, by simp⟩
def H0 : HD := ⟨0, Z32, Z32, 0⟩
def H1 : HD := ⟨0, Z32, Z32, 1⟩
end Go.Av

set_option exponentiation.threshold 1000
set_option linter.unusedVariables false
set_option linter.unusedSimpArgs false
set_option maxRecDepth 100000
set_option maxHeartbeats 4000000
namespace Go.Av
open Go Go.Proofs Go.Proofs.YtpcnacknlgmmlaaGreat Go.RowKit
attribute [local simp] List.getElem?_cons_zero List.getElem?_cons_succ
/-! ### numbers in limbs: plain -/
def B64 : Nat := 18446744073709551616
/-- A number's limb. -/
def lim (x i : Nat) : Nat := x / 2 ^ (64 * i) % 18446744073709551616
def limC (k x : Nat) : List C := (List.range k).map fun i => u64C (lim x i)
theorem limC_len (k x : Nat) : (limC k x).length = k := by simp [limC]
theorem limC_get (k x i : Nat) (h : i < k) : (limC k x)[i]? = some (u64C (lim x i)) := by simp [limC, h]
theorem lim_split (x i : Nat) : x / 2 ^ (64 * i) = 18446744073709551616 * (x / 2 ^ (64 * (i + 1))) + lim x i := by
  have h1 : x / 2 ^ (64 * (i + 1)) = x / 2 ^ (64 * i) / 18446744073709551616 := by
    rw [Nat.div_div_eq_div_mul, show 64 * (i + 1) = 64 * i + 64 by omega, Nat.pow_add]
  rw [h1]
  exact (Nat.div_add_mod _ _).symm
theorem lim_lt_of {x y i : Nat} (h : x / 2 ^ (64 * (i + 1)) = y / 2 ^ (64 * (i + 1))) (hl : lim x i < lim y i) : x < y := by
  have h1 := lim_split x i
  have h2 := lim_split y i
  rw [h] at h1
  rcases Nat.lt_or_ge x y with c | c
  · exact c
  · have := Nat.div_le_div_right (c := 2 ^ (64 * i)) c
    omega
theorem lim_eq_of {x y i : Nat} (h : x / 2 ^ (64 * (i + 1)) = y / 2 ^ (64 * (i + 1))) (hl : lim x i = lim y i) : x / 2 ^ (64 * i) = y / 2 ^ (64 * i) := by
  rw [lim_split x i, lim_split y i, h, hl]
/-- How two numbers stand. -/
def cmpN (x y : Nat) : Int := if x < y then -1 else if y < x then 1 else 0
theorem cmpN_lt {x y : Nat} (h : x < y) : cmpN x y = -1 := by simp [cmpN, h]
theorem cmpN_gt {x y : Nat} (h : y < x) : cmpN x y = 1 := by
  have : ¬ x < y := by omega
  simp [cmpN, h, this]
theorem cmpN_eq (x : Nat) : cmpN x x = 0 := by simp [cmpN]
/-- How many bits a number has. -/
def bl (x : Nat) : Nat := if x = 0 then 0 else Nat.log2 x + 1
end Go.Av

set_option exponentiation.threshold 1000
set_option linter.unusedVariables false
set_option linter.unusedSimpArgs false
set_option maxRecDepth 100000
set_option maxHeartbeats 4000000
namespace Go.Av
open Go Go.Proofs Go.Proofs.YtpcnacknlgmmlaaGreat Go.RowKit
attribute [local simp] List.getElem?_cons_zero List.getElem?_cons_succ
/-! ### hashes as numbers: plain -/
def hv (l : List UInt8) : Nat := l.foldl (fun a b => a * 256 + b.toNat) 0
theorem hv_app (a : List UInt8) (x : UInt8) : hv (a ++ [x]) = hv a * 256 + x.toNat := by simp [hv]
theorem hv_lt : ∀ (n : Nat) (l : List UInt8), l.length = n → hv l < 256 ^ n
  | 0, l, h => by
    obtain rfl := List.length_eq_zero_iff.1 h
    simp [hv]
  | n + 1, l, h => by
    have hd : l = l.dropLast ++ [l.getLast (by intro e; subst e; simp at h)] := (List.dropLast_concat_getLast _).symm
    rw [hd, hv_app]
    have := hv_lt n l.dropLast (by simp; omega)
    have h2 := (l.getLast (by intro e; subst e; simp at h)).toNat_lt
    rw [Nat.pow_succ]
    omega
theorem hv_take : ∀ (k m : Nat) (l : List UInt8), l.length = m + k → hv (l.take m) = hv l / 256 ^ k
  | 0, m, l, h => by rw [List.take_of_length_le (by omega)]; simp
  | k + 1, m, l, h => by
    have hd : l = l.dropLast ++ [l.getLast (by intro e; subst e; simp at h)] := (List.dropLast_concat_getLast _).symm
    have ih := hv_take k m l.dropLast (by simp; omega)
    have e1 : l.take m = l.dropLast.take m := by
      conv => lhs; rw [hd]
      rw [List.take_append_of_le_length (by simp; omega)]
    have e2 : hv l = hv l.dropLast * 256 + (l.getLast (by intro e; subst e; simp at h)).toNat := by
      conv => lhs; rw [hd]
      exact hv_app _ _
    have h2 := (l.getLast (by intro e; subst e; simp at h)).toNat_lt
    rw [e1, ih, Nat.pow_succ, Nat.mul_comm (256 ^ k), ← Nat.div_div_eq_div_mul, e2]
    congr 1
    omega
/-- One byte of a hash. -/
theorem hv_byte (l : List UInt8) (i : Nat) (b : UInt8) (h : l[i]? = some b) (hl : l.length = 32) (hi : i < 32) : hv l / 256 ^ (31 - i) = hv (l.take i) * 256 + b.toNat := by
  rw [← hv_take (31 - i) (i + 1) l (by omega), List.take_add_one, h]
  exact hv_app _ _
theorem takeN_hv (l : List UInt8) (at_ n : Nat) (h : at_ + n ≤ l.length) : hv (l.take (at_ + n)) = hv (l.take at_) * 256 ^ n + takeN ⟨l.toArray⟩ at_ n := by
  induction n with
  | zero => simp [takeN]
  | succ n ih =>
    have ih := ih (by omega)
    obtain ⟨x, hx⟩ : ∃ x, l[at_ + n]? = some x := ⟨_, List.getElem?_eq_getElem (by omega)⟩
    have e1 : l.take (at_ + (n + 1)) = l.take (at_ + n) ++ [x] := by
      rw [show at_ + (n + 1) = at_ + n + 1 by omega, List.take_add_one, hx]; rfl
    have e2 : byteI ⟨l.toArray⟩ at_ n = x.toNat := by
      unfold byteI
      have hs : (ByteArray.mk l.toArray).size = l.length := by simp [ByteArray.size]
      rw [if_pos ⟨by omega, by rw [hs]; omega⟩]
      have e3 : ((at_ : Int) + (n : Int)).toNat = at_ + n := by omega
      rw [e3]
      simp only [List.getD, hx, Option.getD_some]
    rw [e1, hv_app, ih, takeN, e2, Nat.pow_succ]
    rw [Nat.add_mul, Nat.mul_assoc, Nat.add_assoc]
/-- Eight bytes of a hash are a limb. -/
theorem take_lim (l : List UInt8) (hl : l.length = 32) (i : Nat) (hi : i < 4) : takeN ⟨l.toArray⟩ ((8 * i : Nat) : Int) 8 = lim (hv l) (3 - i) := by
  have h1 := takeN_hv l (8 * i) 8 (by omega)
  have h2 := takeN_lt ⟨l.toArray⟩ ((8 * i : Nat) : Int) 8
  rw [hv_take (24 - 8 * i) (8 * i + 8) l (by omega)] at h1
  unfold lim
  have e : (2 : Nat) ^ (64 * (3 - i)) = 256 ^ (24 - 8 * i) := by
    rw [show (256 : Nat) = 2 ^ 8 by rfl, ← Nat.pow_mul]; congr 1; omega
  rw [e, h1]
  have e2 : (256 : Nat) ^ 8 = 18446744073709551616 := by decide
  rw [e2] at *
  rw [Nat.mul_add_mod_self_right, Nat.mod_eq_of_lt h2]
/-! bits -/
def bitsL (x : Nat) : List Bool := (List.range 256).map fun j => x.testBit j
theorem bitsL_len (x : Nat) : (bitsL x).length = 256 := by simp [bitsL]
theorem bitsL_get (x j : Nat) (h : j < 256) : (bitsL x)[j]? = some (x.testBit j) := by simp [bitsL, h]
theorem bit_lt {x y j : Nat} (h : x / 2 ^ (j + 1) = y / 2 ^ (j + 1)) (hx : x.testBit j = false) (hy : y.testBit j = true) : x < y := by
  rw [Nat.testBit_eq_decide_div_mod_eq] at hx hy
  simp only [decide_eq_false_iff_not, decide_eq_true_eq] at hx hy
  rcases Nat.lt_or_ge x y with c | c
  · exact c
  · exfalso
    have h1 := Nat.div_le_div_right (c := 2 ^ j) c
    rw [Nat.pow_succ, ← Nat.div_div_eq_div_mul, ← Nat.div_div_eq_div_mul] at h
    omega
theorem bit_eq {x y j : Nat} (h : x / 2 ^ (j + 1) = y / 2 ^ (j + 1)) (hb : x.testBit j = y.testBit j) : x / 2 ^ j = y / 2 ^ j := by
  rw [Nat.testBit_eq_decide_div_mod_eq, Nat.testBit_eq_decide_div_mod_eq] at hb
  have hb := decide_eq_decide.1 hb
  rw [Nat.pow_succ, ← Nat.div_div_eq_div_mul, ← Nat.div_div_eq_div_mul] at h
  omega
theorem hv_bit (l : List UInt8) (i k : Nat) (b : UInt8) (h : l[i]? = some b) (hl : l.length = 32) (hi : i < 32) (hk : k < 8) : (hv l).testBit (8 * (31 - i) + k) = decide (b.toNat / 2 ^ k % 2 = 1) := by
  have h1 := hv_byte l i b h hl hi
  rw [Nat.testBit_eq_decide_div_mod_eq, Nat.pow_add, ← Nat.div_div_eq_div_mul, Nat.pow_mul, show (2 : Nat) ^ 8 = 256 by rfl, h1]
  congr 1
  have e : (hv (l.take i) * 256 + b.toNat) / 2 ^ k = hv (l.take i) * 2 ^ (8 - k) + b.toNat / 2 ^ k := by
    rw [show (256 : Nat) = 2 ^ (8 - k) * 2 ^ k by rw [← Nat.pow_add, show 8 - k + k = 8 by omega], ← Nat.mul_assoc, Nat.add_comm, Nat.add_mul_div_right _ _ (Nat.two_pow_pos _), Nat.add_comm]
  rw [e, show 8 - k = (7 - k) + 1 by omega, Nat.pow_succ, ← Nat.mul_assoc]
  have : ∀ a c : Nat, (a * 2 + c) % 2 = c % 2 := fun a c => by omega
  rw [this]
/-- How many levels from 0 on an id has. -/
def lvF (x t : Nat) : Nat → Nat → Nat
  | 0, k => k
  | f + 1, k => if x ≤ t / 2 ^ k then lvF x t f (k + 1) else k
def lvN (x t : Nat) : Nat := lvF x t 256 0
end Go.Av

set_option exponentiation.threshold 1000
set_option linter.unusedVariables false
set_option linter.unusedSimpArgs false
set_option maxRecDepth 100000
set_option maxHeartbeats 4000000
namespace Go.Av
open Go Go.Proofs Go.Proofs.YtpcnacknlgmmlaaGreat Go.RowKit
attribute [local simp] List.getElem?_cons_zero List.getElem?_cons_succ
/-! ### word.Lead, large.Cmp, Len, Of, Shl -/
def largeM (x : Nat) : M := .agg (up (limC 5 x))
/-- The limbs below a place, zeros from there on. -/
def shlF (y i : Nat) : List C := (List.range 5).map fun t => u64C (if t < i then lim y t else 0)
end Go.Av

set_option exponentiation.threshold 1000
set_option linter.unusedVariables false
set_option linter.unusedSimpArgs false
set_option maxRecDepth 100000
set_option maxHeartbeats 4000000
namespace Go.Av
open Go Go.Proofs Go.Proofs.YtpcnacknlgmmlaaGreat Go.RowKit
attribute [local simp] List.getElem?_cons_zero List.getElem?_cons_succ
/-! ### wide: Of, Cmp, Shr -/
def wideM (x : Nat) : M := .agg (up (limC 4 x))
theorem take64_den (b : ByteArray) (at_ : Int) (hat : -9223372036854775808 ≤ at_ ∧ at_ ≤ 9223372036854775807) (hb : b.size ≤ 9223372036854775807) : DenV Tryz.prog 66 [.c (.v (.string b)), .c (iC at_)] (.c (u64C (takeN b at_ 8))) := by
  refine Den.frame rfl rfl ?_
  have p := take_den b at_ 8 hat hb (by omega)
  generalize takeN b at_ 8 = r at *
  refine den_of Tryz.func66 rfl rfl (by simp [Tryz.ntmps66]) (fun X hX hO => ?_)
  rw [Tryz.ntmps66] at hX
  simp only [Tryz.results66]
  repeat' (first 
   | (with_reducible first | refine awp_scope ?_ | refine awp_seq ?_ | refine awp_block ?_)
   | ((with_reducible first | refine awp_label ?_ | refine awp_skip ?_ | refine awp_exit ?_); try simp only [thenA, inBlockA, noGotoA, if_true, Nat.reduceEqDiff, if_false, ↓reduceIte])
   | ((with_reducible first | refine awp_reg 8 hX [0, 1, 4] ?_ | change postOf _ _ _ _ _); simp [-List.reduceReplicate, Nat.add_one_le_iff, -getElem?_pos, -getElem?_neg, u64C, iC])
   | ((first | (with_reducible refine awp_ret ?_; try simp only [thenA, inBlockA, noGotoA]) | (refine (p _).det ?_)); try simp [-List.reduceReplicate, Nat.add_one_le_iff, -getElem?_pos, -getElem?_neg, u64C, iC])
   | (with_reducible refine awp_if_b rfl (fun hc => ?_) (fun hc => ?_) <;> (try simp [-getElem?_pos, -getElem?_neg] at hc) <;> (try (exfalso; omega)))
   | (with_reducible refine And.intro (by omega) ?_)
   | fail)
set_option maxHeartbeats 4000000 in
theorem wcmp_den (x y : Nat) (hx : x < 2 ^ (64 * 4)) (hy : y < 2 ^ (64 * 4)) : DenV Tryz.prog 85 [wideM x, wideM y] (.c (iC (cmpN x y))) := by
  refine Den.frame (by simp [wideM, ltBs, ltB]) rfl ?_
  have gx := limC_get 4 x
  have gy := limC_get 4 y
  have lx := limC_len 4 x
  have ly := limC_len 4 y
  have hs := fun i => @lim_lt_of x y i
  have hs2 := fun i => @lim_lt_of y x i
  have he := fun i => @lim_eq_of x y i
  have h0 : x / 2 ^ (64 * (4 - 0)) = y / 2 ^ (64 * (4 - 0)) := by rw [Nat.div_eq_of_lt hx, Nat.div_eq_of_lt hy]
  have hend : x / 2 ^ (64 * 0) = y / 2 ^ (64 * 0) → x = y := fun h => by simpa using h
  unfold wideM
  generalize limC 4 x = cx at *
  generalize limC 4 y = cy at *
  generalize lim x = fx at *
  generalize lim y = fy at *
  obtain ⟨Ef, hE⟩ : ∃ Ef : Nat → Prop, Ef = fun j => x / 2 ^ (64 * j) = y / 2 ^ (64 * j) := ⟨_, rfl⟩
  have hs' : ∀ i, Ef (i + 1) → fx i < fy i → x < y := by rw [hE]; exact hs
  have hs2' : ∀ i, Ef (i + 1) → fy i < fx i → y < x := by rw [hE]; exact fun i h => hs2 i h.symm
  have he' : ∀ i, Ef (i + 1) → fx i = fy i → Ef i := by rw [hE]; exact he
  have h0' : Ef (4 - 0) := by rw [hE]; exact h0
  have hend' : Ef 0 → x = y := by rw [hE]; exact hend
  clear hs hs2 he h0 hend hE hx hy
  refine den_of Tryz.func85 rfl rfl (by simp [Tryz.ntmps85]) (fun X hX hO => ?_)
  rw [Tryz.ntmps85] at hX
  simp only [Tryz.results85]
  repeat' (first 
   | (with_reducible first | refine awp_scope ?_ | refine awp_seq ?_ | refine awp_block ?_)
   | ((with_reducible first | refine awp_label ?_ | refine awp_skip ?_ | refine awp_exit ?_ | refine hother _ _ rfl ?_); try simp only [thenA, inBlockA, noGotoA, if_true, Nat.reduceEqDiff, if_false, ↓reduceIte])
   | ((with_reducible first | refine awp_reg 28 hX [2, 3, 4, 5, 6, 7, 8, 9, 19, 23] ?_ | refine awp_drw 28 hX [2, 3, 4, 5, 6, 7, 8, 9, 19, 23] Tab.mixed (by kernel_rfl) ?_ | refine DEv_cut _ _ _ _ _ _ _ _ _ _ _ _ (by kernel_rfl) ?_ | change postOf _ _ _ _ _); simp [-List.reduceReplicate, Nat.add_one_le_iff, -getElem?_pos, -getElem?_neg, iC, lx, ly])
   | ((first | (with_reducible refine awp_ret ?_; try simp only [thenA, inBlockA, noGotoA])); try simp [-List.reduceReplicate, Nat.add_one_le_iff, -getElem?_pos, -getElem?_neg, iC, lx, ly])
   | (with_reducible refine awp_if_b rfl (fun hc => ?_) (fun hc => ?_) <;> (try simp [-getElem?_pos, -getElem?_neg] at hc) <;> (try (exfalso; omega)))
   | (with_reducible refine And.intro (by omega) ?_)
   | fail)
  refine awp_forU [2, 3, 8] (fun i (_u : Unit) => [(8, .c (iC i))]) (fun i (_u : Unit) => [⟨140, 1, false, 0, up cx, none⟩, ⟨140, 1, false, 0, up cy, none⟩]) (fun i (_u : Unit) => Ef (4 - i)) (4) (()) (h0') (by simp [-List.reduceReplicate, keep, iC]) (by simp [-List.reduceReplicate, iC]) ?_
  rintro i _u Q1 hi hH next hother
  conv => arg 5; arg 1; simp only [List.cons_append, List.nil_append, keep, get, Nat.reduceEqDiff, if_true, if_false, ↓reduceIte]
  have hwi := wrap_in ((i : Int) + 1) (by omega)
  by_cases hlt : i < 4
  · obtain ⟨j, hj⟩ : ∃ j, 3 - i = j := ⟨_, rfl⟩
    have hij : (3 - (i : Int)) = (j : Int) := by omega
    have e1 : 4 - i = j + 1 := by omega
    have e2 : 4 - (i + 1) = j := by omega
    have wj := wrap_in (j : Int) (by omega)
    have hj4 : j < 4 := by omega
    have hi2 : (i : Int) < 4 := by omega
    rw [e1] at hH
    rw [e2] at next
    have g1 := gx j hj4
    have g2 := gy j hj4
    by_cases c : fx j < fy j
    · have hcm := (cmpN_lt (hs' j hH c)).symm
      repeat' (first 
       | (with_reducible first | refine awp_scope ?_ | refine awp_seq ?_ | refine awp_block ?_)
       | ((with_reducible first | refine awp_label ?_ | refine awp_skip ?_ | refine awp_exit ?_ | refine hother _ _ rfl ?_); try simp only [thenA, inBlockA, noGotoA, if_true, Nat.reduceEqDiff, if_false, ↓reduceIte])
       | ((with_reducible first | refine awp_reg 28 hX [2, 3, 4, 5, 6, 7, 8, 9, 19, 23] ?_ | refine awp_drw 28 hX [2, 3, 4, 5, 6, 7, 8, 9, 19, 23] Tab.mixed (by kernel_rfl) ?_ | refine DEv_cut _ _ _ _ _ _ _ _ _ _ _ _ (by kernel_rfl) ?_ | change postOf _ _ _ _ _); simp [-List.reduceReplicate, Nat.add_one_le_iff, -getElem?_pos, -getElem?_neg, iC, bC, u64C, hi2, hij, wj, hj4, g1, g2, lx, ly, c])
       | ((first | (with_reducible refine awp_ret ?_; try simp only [thenA, inBlockA, noGotoA])); try simp [-List.reduceReplicate, Nat.add_one_le_iff, -getElem?_pos, -getElem?_neg, iC, bC, u64C, hi2, hij, wj, hj4, g1, g2, lx, ly, c])
       | (with_reducible refine awp_if_b rfl (fun hc => ?_) (fun hc => ?_) <;> (try simp [-getElem?_pos, -getElem?_neg] at hc) <;> (try (exfalso; omega)))
       | (with_reducible refine And.intro (by omega) ?_)
       | fail)
      exact hcm
    · by_cases c2 : fy j < fx j
      · have hcm := (cmpN_gt (hs2' j hH c2)).symm
        repeat' (first 
         | (with_reducible first | refine awp_scope ?_ | refine awp_seq ?_ | refine awp_block ?_)
         | ((with_reducible first | refine awp_label ?_ | refine awp_skip ?_ | refine awp_exit ?_ | refine hother _ _ rfl ?_); try simp only [thenA, inBlockA, noGotoA, if_true, Nat.reduceEqDiff, if_false, ↓reduceIte])
         | ((with_reducible first | refine awp_reg 28 hX [2, 3, 4, 5, 6, 7, 8, 9, 19, 23] ?_ | refine awp_drw 28 hX [2, 3, 4, 5, 6, 7, 8, 9, 19, 23] Tab.mixed (by kernel_rfl) ?_ | refine DEv_cut _ _ _ _ _ _ _ _ _ _ _ _ (by kernel_rfl) ?_ | change postOf _ _ _ _ _); simp [-List.reduceReplicate, Nat.add_one_le_iff, -getElem?_pos, -getElem?_neg, iC, bC, u64C, hi2, hij, wj, hj4, g1, g2, lx, ly, c, c2])
         | ((first | (with_reducible refine awp_ret ?_; try simp only [thenA, inBlockA, noGotoA])); try simp [-List.reduceReplicate, Nat.add_one_le_iff, -getElem?_pos, -getElem?_neg, iC, bC, u64C, hi2, hij, wj, hj4, g1, g2, lx, ly, c, c2])
         | (with_reducible refine awp_if_b rfl (fun hc => ?_) (fun hc => ?_) <;> (try simp [-getElem?_pos, -getElem?_neg] at hc) <;> (try (exfalso; omega)))
         | (with_reducible refine And.intro (by omega) ?_)
         | fail)
        exact hcm
      · have nx := he' j hH (by omega)
        repeat' (first 
         | (with_reducible first | refine awp_scope ?_ | refine awp_seq ?_ | refine awp_block ?_)
         | ((with_reducible first | refine awp_label ?_ | refine awp_skip ?_ | refine awp_exit ?_ | refine hother _ _ rfl ?_); try simp only [thenA, inBlockA, noGotoA, if_true, Nat.reduceEqDiff, if_false, ↓reduceIte])
         | ((with_reducible first | refine awp_reg 28 hX [2, 3, 4, 5, 6, 7, 8, 9, 19, 23] ?_ | refine awp_drw 28 hX [2, 3, 4, 5, 6, 7, 8, 9, 19, 23] Tab.mixed (by kernel_rfl) ?_ | refine DEv_cut _ _ _ _ _ _ _ _ _ _ _ _ (by kernel_rfl) ?_ | change postOf _ _ _ _ _); simp [-List.reduceReplicate, Nat.add_one_le_iff, -getElem?_pos, -getElem?_neg, iC, bC, u64C, hi2, hij, wj, hj4, g1, g2, lx, ly, hwi, c, c2])
         | ((first | (with_reducible refine awp_ret ?_; try simp only [thenA, inBlockA, noGotoA])); try simp [-List.reduceReplicate, Nat.add_one_le_iff, -getElem?_pos, -getElem?_neg, iC, bC, u64C, hi2, hij, wj, hj4, g1, g2, lx, ly, hwi, c, c2])
         | (with_reducible refine awp_if_b rfl (fun hc => ?_) (fun hc => ?_) <;> (try simp [-getElem?_pos, -getElem?_neg] at hc) <;> (try (exfalso; omega)))
         | (with_reducible refine And.intro (by omega) ?_)
         | fail)
        refine next _ _ (()) (by omega) (by first | trivial | omega | assumption) (by simp [-List.reduceReplicate, keep, iC]) (by simp [-List.reduceReplicate, iC])
  · have hi3 : i = 4 := by omega
    subst hi3
    have hxy := hend' hH
    subst hxy
    have hcm := (cmpN_eq x).symm
    repeat' (first 
     | (with_reducible first | refine awp_scope ?_ | refine awp_seq ?_ | refine awp_block ?_)
     | ((with_reducible first | refine awp_label ?_ | refine awp_skip ?_ | refine awp_exit ?_ | refine hother _ _ rfl ?_); try simp only [thenA, inBlockA, noGotoA, if_true, Nat.reduceEqDiff, if_false, ↓reduceIte])
     | ((with_reducible first | refine awp_reg 28 hX [2, 3, 4, 5, 6, 7, 8, 9, 19, 23] ?_ | refine awp_drw 28 hX [2, 3, 4, 5, 6, 7, 8, 9, 19, 23] Tab.mixed (by kernel_rfl) ?_ | refine DEv_cut _ _ _ _ _ _ _ _ _ _ _ _ (by kernel_rfl) ?_ | change postOf _ _ _ _ _); simp [-List.reduceReplicate, Nat.add_one_le_iff, -getElem?_pos, -getElem?_neg, iC])
     | ((first | (with_reducible refine awp_ret ?_; try simp only [thenA, inBlockA, noGotoA])); try simp [-List.reduceReplicate, Nat.add_one_le_iff, -getElem?_pos, -getElem?_neg, iC])
     | (with_reducible refine awp_if_b rfl (fun hc => ?_) (fun hc => ?_) <;> (try simp [-getElem?_pos, -getElem?_neg] at hc) <;> (try (exfalso; omega)))
     | (with_reducible refine And.intro (by omega) ?_)
     | fail)
    exact hcm
/-- The limbs from a place on, zeros below it. -/
def revF (y i : Nat) : List C := (List.range 4).map fun t => u64C (if 4 - i ≤ t then lim y t else 0)
theorem revF_facts (y : Nat) : revF y 0 = [C.v (.int .u64 0), C.v (.int .u64 0), C.v (.int .u64 0), C.v (.int .u64 0)] ∧ revF y 4 = limC 4 y ∧ (∀ i, (revF y i).length = 4) ∧ ∀ i, i < 4 → (revF y i).set (3 - i) (u64C (lim y (3 - i))) = revF y (i + 1) := by
  refine ⟨by simp [revF, List.range_succ, u64C], ?_, fun i => by simp [revF], fun i hi => ?_⟩
  · unfold revF limC
    refine List.map_congr_left fun t ht => ?_
    rw [if_pos (by omega)]
  · unfold revF
    apply List.ext_getElem (by simp)
    intro t h1 h2
    simp at h1
    rw [List.getElem_set]
    simp only [List.getElem_map, List.getElem_range]
    by_cases c : 3 - i = t
    · subst c
      rw [if_pos rfl, if_pos (by omega)]
    · rw [if_neg c]
      by_cases d : 4 - i ≤ t
      · rw [if_pos d, if_pos (by omega)]
      · rw [if_neg d, if_neg (by omega)]
set_option maxHeartbeats 4000000 in
theorem wof_den (l : List UInt8) (hl : l.length = 32) : DenV Tryz.prog 86 [hashM l] (wideM (hv l)) := by
  refine Den.frame (by simp [ltBs, ltB, lt_hash]) (by simp [wideM, ltB, ltBs]) ?_
  have hsz : (ByteArray.mk l.toArray).size = 32 := by simp [ByteArray.size, hl]
  have tk := fun (i : Nat) (h : i < 4) => take64_den ⟨l.toArray⟩ ((8 * i : Nat) : Int) (by omega) (by omega)
  have tl := fun i h => take_lim l hl i h
  have hb8 : bytesM (up (l.map bC8)) = some l := bytesM_b8 l
  have t32 : (l.map bC8).take 32 = l.map bC8 := List.take_of_length_le (by simp [hl])
  obtain ⟨F0, F4, FL, FS⟩ := revF_facts (hv l)
  have FT : ∀ i, (revF (hv l) i).take 4 = revF (hv l) i := fun i => List.take_of_length_le (by rw [FL]; omega)
  have z0 : zeroT Tryz.prog 140 = some (up (revF (hv l) 0)) := by rw [F0]; kernel_rfl
  unfold wideM
  rw [← F4]
  generalize revF (hv l) = F at *
  generalize lim (hv l) = fx at *
  have lb : (l.map bC8).length = 32 := by simp [hl]
  clear F0 F4
  unfold hashM
  generalize l.map bC8 = cb at *
  refine den_of Tryz.func86 rfl rfl (by simp [Tryz.ntmps86]) (fun X hX hO => ?_)
  rw [Tryz.ntmps86] at hX
  simp only [Tryz.results86]
  repeat' (first 
   | (with_reducible first | refine awp_scope ?_ | refine awp_seq ?_ | refine awp_block ?_)
   | ((with_reducible first | refine awp_label ?_ | refine awp_skip ?_ | refine awp_exit ?_ | refine hother _ _ rfl ?_); try simp only [thenA, inBlockA, noGotoA, if_true, Nat.reduceEqDiff, if_false, ↓reduceIte])
   | ((with_reducible first | refine awp_reg 18 hX [1, 2, 3, 4, 5, 6] ?_ | change postOf _ _ _ _ _); simp [-List.reduceReplicate, Nat.add_one_le_iff, -getElem?_pos, -getElem?_neg, iC, lb, z0, -Tab.zero140])
   | ((first | (with_reducible refine awp_ret ?_; try simp only [thenA, inBlockA, noGotoA])); try simp [-List.reduceReplicate, Nat.add_one_le_iff, -getElem?_pos, -getElem?_neg, iC, lb, z0, -Tab.zero140])
   | (with_reducible refine awp_if_b rfl (fun hc => ?_) (fun hc => ?_) <;> (try simp [-getElem?_pos, -getElem?_neg] at hc) <;> (try (exfalso; omega)))
   | (with_reducible refine And.intro (by omega) ?_)
   | fail)
  refine awp_forU [1, 2, 3, 5] (fun i (_u : Unit) => [(5, .c (iC i))]) (fun i (_u : Unit) => [⟨24, 1, false, 0, up cb, none⟩, ⟨140, 1, false, 0, up (F 0), none⟩, ⟨140, 1, false, 0, up (F i), none⟩]) (fun i (_u : Unit) => True) (4) (()) (by first | trivial | (simp; done) | omega | (intros; simp at *; done)) (by simp [-List.reduceReplicate, keep, iC]) (by simp [-List.reduceReplicate, iC]) ?_
  rintro i _u Q1 hi hH next hother
  conv => arg 5; arg 1; simp only [List.cons_append, List.nil_append, keep, get, Nat.reduceEqDiff, if_true, if_false, ↓reduceIte]
  have hwi := wrap_in ((i : Int) + 1) (by omega)
  by_cases hlt : i < 4
  · have hi2 : (i : Int) < 4 := by omega
    have q1 := tk i hlt
    rw [tl i hlt] at q1
    have q2 : ((8 * i : Nat) : Int) = 8 * (i : Int) := by omega
    rw [q2] at q1
    have fs := FS i hlt
    obtain ⟨j, hj⟩ : ∃ j, 3 - i = j := ⟨_, rfl⟩
    rw [hj] at fs q1
    have hij : (3 - (i : Int)) = (j : Int) := by omega
    have wj := wrap_in (j : Int) (by omega)
    have w8 := wrap_in (8 * (i : Int)) (by omega)
    have hj4 : j < 4 := by omega
    have fl := FL i
    have hset : (up (F i)).set j (M.c (u64C (fx j))) = up (F (i + 1)) := by rw [← fs]; simp [up, List.map_set]
    generalize fx j = z at *
    unfold u64C at *
    repeat' (first 
     | (with_reducible first | refine awp_scope ?_ | refine awp_seq ?_ | refine awp_block ?_)
     | ((with_reducible first | refine awp_label ?_ | refine awp_skip ?_ | refine awp_exit ?_ | refine hother _ _ rfl ?_); try simp only [thenA, inBlockA, noGotoA, if_true, Nat.reduceEqDiff, if_false, ↓reduceIte])
     | ((with_reducible first | refine awp_reg 18 hX [1, 2, 3, 4, 5, 6] ?_ | change postOf _ _ _ _ _); simp [-List.reduceReplicate, Nat.add_one_le_iff, -getElem?_pos, -getElem?_neg, iC, bC, hi2, hij, wj, w8, hj4, fl, lb, hb8, t32, hset, hwi])
     | ((first | (with_reducible refine awp_ret ?_; try simp only [thenA, inBlockA, noGotoA]) | (refine (q1 _).det ?_)); try simp [-List.reduceReplicate, Nat.add_one_le_iff, -getElem?_pos, -getElem?_neg, iC, bC, hi2, hij, wj, w8, hj4, fl, lb, hb8, t32, hset, hwi])
     | (with_reducible refine awp_if_b rfl (fun hc => ?_) (fun hc => ?_) <;> (try simp [-getElem?_pos, -getElem?_neg] at hc) <;> (try (exfalso; omega)))
     | (with_reducible refine And.intro (by omega) ?_)
     | fail)
    refine next _ _ (()) (by omega) (by first | trivial | omega | assumption) (by simp [-List.reduceReplicate, keep, iC]) (by simp [-List.reduceReplicate, iC])
  · have hi3 : i = 4 := by omega
    subst hi3
    repeat' (first 
     | (with_reducible first | refine awp_scope ?_ | refine awp_seq ?_ | refine awp_block ?_)
     | ((with_reducible first | refine awp_label ?_ | refine awp_skip ?_ | refine awp_exit ?_ | refine hother _ _ rfl ?_); try simp only [thenA, inBlockA, noGotoA, if_true, Nat.reduceEqDiff, if_false, ↓reduceIte])
     | ((with_reducible first | refine awp_reg 18 hX [1, 2, 3, 4, 5, 6] ?_ | change postOf _ _ _ _ _); simp [-List.reduceReplicate, Nat.add_one_le_iff, -getElem?_pos, -getElem?_neg, iC, FL, FT])
     | ((first | (with_reducible refine awp_ret ?_; try simp only [thenA, inBlockA, noGotoA])); try simp [-List.reduceReplicate, Nat.add_one_le_iff, -getElem?_pos, -getElem?_neg, iC, FL, FT])
     | (with_reducible refine awp_if_b rfl (fun hc => ?_) (fun hc => ?_) <;> (try simp [-getElem?_pos, -getElem?_neg] at hc) <;> (try (exfalso; omega)))
     | (with_reducible refine And.intro (by omega) ?_)
     | fail)
/-- The limbs below a place, zeros from there on. -/
def wF (y i : Nat) : List C := (List.range 4).map fun t => u64C (if t < i then lim y t else 0)
end Go.Av

set_option exponentiation.threshold 1000
set_option linter.unusedVariables false
set_option linter.unusedSimpArgs false
set_option maxRecDepth 100000
set_option maxHeartbeats 4000000
namespace Go.Av
open Go Go.Proofs Go.Proofs.YtpcnacknlgmmlaaGreat Go.RowKit
attribute [local simp] List.getElem?_cons_zero List.getElem?_cons_succ
/-! ### head.Get -/
attribute [local simp] Tryz.underlying9 Tryz.underlying3 Tryz.underlying4 Tryz.underlying30 Tryz.underlying24 Tryz.underlying27
def getHD (s : ByteArray) : HD := ⟨takeN s 0 4, h32 s 4, h32 s 36, takeN s 68 8⟩
def headC (c : Cu) : HD × Cu := (getHD (rawC c 76).1, (rawC c 76).2)
theorem hdC_set (v n : Nat) : ((hdC H0).set 0 (u32C v)).set 65 (u64C n) = hdC ⟨v, H0.a, H0.b, n⟩ := by
  have h1 : ∀ (a b : List C) (x y : C), a.length = 32 → b.length = 32 → (a ++ (b ++ [x])).set 64 y = a ++ (b ++ [y]) := fun a b x y ha hb => by
    rw [List.set_append_right _ _ (by omega), List.set_append_right _ _ (by omega), ha, hb]
    rfl
  show (u32C v :: (_ ++ (_ ++ [u64C 0])).set 64 (u64C n)) = _
  rw [h1 _ _ _ _ (by simp [H0, Z32]) (by simp [H0, Z32])]
  rfl
theorem h32_ext (s : ByteArray) (k : Nat) (h : k + 32 ≤ s.size) : ((s.extract k s.size).toList.map fun b => C.v (Value.int .u8 (b.toNat : Int))).take 32 = (h32 s k).1.map bC8 := by
  have hv : (h32 s k).1 = (s.data.toList.drop k ++ List.replicate 32 0).take 32 := rfl
  have hl : s.data.toList.length = s.size := by rw [Array.length_toList]; rfl
  rw [hv, toList_data, ext_list, ← List.map_take, List.take_take, Nat.min_eq_left (by omega), List.take_append_of_le_length (by rw [List.length_drop]; omega)]
  rfl
theorem lay_a (v n : Nat) (a b a2 : H32) : lay (up (hdC ⟨v, a, b, n⟩)) 1 (up (a2.1.map bC8)) = up (hdC ⟨v, a2, b, n⟩) := by
  rw [lay_app _ _ _ (by simp [up, hdC, a.2, b.2, a2.2])]
  simp only [up, hdC, List.length_map, a2.2, List.map_cons, List.map_append, List.take_succ_cons, List.take_zero, List.drop_succ_cons, show 1 + 32 = 32 + 1 from rfl]
  rw [List.drop_left' (by simp [a.2])]
  simp
theorem lay_b (v n : Nat) (a b b2 : H32) : lay (up (hdC ⟨v, a, b, n⟩)) 33 (up (b2.1.map bC8)) = up (hdC ⟨v, a, b2, n⟩) := by
  rw [lay_app _ _ _ (by simp [up, hdC, a.2, b.2, b2.2])]
  simp only [up, hdC, List.length_map, b2.2, List.map_cons, List.map_append, List.take_succ_cons, List.drop_succ_cons, show 33 + 32 = (32 + 32) + 1 from rfl, show 33 = 32 + 1 from rfl]
  rw [List.take_left' (by simp [a.2]), ← List.drop_drop, List.drop_left' (by simp [a.2]), List.drop_left' (by simp [b.2])]
  simp
theorem headGet_den (i : Nat) (c : Cu) (ob : List Ob) (h : ob[i]? = some (curO c)) (hok : okCu ob) : Den Tryz.prog 26 [.mp i 0 0] ob (fun r ob' => r = hdM (headC c).1 ∧ ob' = ob.set i (curO (headC c).2)) := by
  have hil := (List.getElem?_eq_some_iff.1 h).1
  have z0 : zeroT Tryz.prog 27 = some (up (hdC H0)) := by kernel_rfl
  have hR := Raw_den i c 76 (ob ++ [⟨27, 1, false, 0, up (hdC H0), none⟩]) (by rw [List.getElem?_append_left hil, h])
  rw [List.set_append_left _ _ hil] at hR
  unfold headC
  have hsz := rawC_size c 76
  refine Den.forget ?_ ?_ ?_ ?_
  · simp
  · simp [hdM, ltB]
  · exact okCu_set ob i _ hok
  generalize (rawC c 76) = pr at *
  obtain ⟨s, d⟩ := pr
  simp only at *
  have hll : (ob.set i (curO d)).length = ob.length := by simp
  generalize ob.set i (curO d) = ob2 at *
  have k1 := take32_den s 0 (by omega) (by omega)
  have k2 := take64_den s 68 (by omega) (by omega)
  have hhd : getHD s = ⟨takeN s 0 4, h32 s 4, h32 s 36, takeN s 68 8⟩ := rfl
  unfold hdM
  have g1 : ∀ x y, (ob2 ++ [x, y])[ob.length + 1]? = some y := fun x y => by rw [← hll]; simp
  have g0 : ∀ x y, (ob2 ++ [x, y])[ob.length]? = some x := fun x y => by rw [← hll]; simp
  have g9 : ∀ x, (ob2 ++ [x])[ob.length]? = some x := fun x => by rw [← hll]; simp
  have g8 : ∀ x z, (ob2 ++ [x]).set ob.length z = ob2 ++ [z] := fun x z => by rw [← hll, List.set_append_right _ _ (by omega)]; simp
  have g2 : ∀ x y z, (ob2 ++ [x, y]).set (ob.length + 1) z = ob2 ++ [x, z] := fun x y z => by rw [← hll, List.set_append_right _ _ (by omega)]; simp
  have g3 : ∀ x y z, (ob2 ++ [x, y]).set ob.length z = ob2 ++ [z, y] := fun x y z => by rw [← hll, List.set_append_right _ _ (by omega)]; simp
  have hsl : s.toList.length = s.size := by rw [toList_data, Array.length_toList]; rfl
  rcases hsz with h0 | h0
  · obtain rfl : s = e0 := (size0_eq s).1 h0
    have hz : getHD e0 = H0 := by rfl
    have hZl : (hdC H0).length = 66 := by rfl
    rw [hz]
    generalize hdC H0 = Z at *
    have hZt : Z.take 66 = Z := List.take_of_length_le (by omega)
    refine den_of Tryz.func26 rfl rfl (by simp [Tryz.ntmps26]) (fun X hX hO => ?_)
    rw [Tryz.ntmps26] at hX
    simp only [Tryz.results26]
    repeat' (first 
     | (with_reducible first | refine awp_scope ?_ | refine awp_seq ?_ | refine awp_block ?_)
     | ((with_reducible first | refine awp_label ?_ | refine awp_skip ?_ | refine awp_exit ?_); try simp only [thenA, inBlockA, noGotoA, if_true, Nat.reduceEqDiff, if_false, ↓reduceIte])
     | ((with_reducible first | refine awp_reg 29 hX [0, 2, 3, 4, 5, 9] ?_ | refine awp_drw 29 hX [0, 2, 3, 4, 5, 9] Tab.mixed (by kernel_rfl) ?_ | refine DEv_cut _ _ _ _ _ _ _ _ _ _ _ _ (by kernel_rfl) ?_ | change postOf _ _ _ _ _); simp [-List.reduceReplicate, Nat.add_one_le_iff, -getElem?_pos, -getElem?_neg, iC, sC, z0, -Tab.zero27, g9, g8, e0, hZl, hZt])
     | ((first | (with_reducible refine awp_ret ?_; try simp only [thenA, inBlockA, noGotoA]) | (refine (hR).det ?_) | (refine ⟨_, _, hR, fun _ => rfl, ?_⟩)); try simp [-List.reduceReplicate, Nat.add_one_le_iff, -getElem?_pos, -getElem?_neg, iC, sC, z0, -Tab.zero27, g9, g8, e0, hZl, hZt])
     | (with_reducible refine awp_if_b rfl (fun hc => ?_) (fun hc => ?_) <;> (try simp [-getElem?_pos, -getElem?_neg] at hc) <;> (try (exfalso; omega)))
     | (with_reducible refine And.intro (by omega) ?_)
     | fail)
  · have hZl : ∀ H, (hdC H).length = 66 := fun H => by simp [hdC, H.a.2, H.b.2]
    have hst := hdC_set (takeN s 0 4) (takeN s 68 8)
    unfold u32C u64C at hst
    rw [hhd]
    have e1 := h32_ext s 4 (by omega)
    have e2 := h32_ext s 36 (by omega)
    have l1 := lay_a (takeN s 0 4) (takeN s 68 8) H0.a H0.b (h32 s 4)
    have l2 := lay_b (takeN s 0 4) (takeN s 68 8) (h32 s 4) H0.b (h32 s 36)
    have n1 : (s.extract 4 s.size).toList.length = 72 := by rw [toList_data, Array.length_toList]; show (s.extract 4 s.size).size = 72; rw [ByteArray.size_extract]; omega
    have n2 : (s.extract 36 s.size).toList.length = 40 := by rw [toList_data, Array.length_toList]; show (s.extract 36 s.size).size = 40; rw [ByteArray.size_extract]; omega
    rw [h0] at e1 e2 n1 n2
    have hw36 : IntKind.i64.wrap 36 = 36 := rfl
    have hne : ¬ s = ByteArray.empty := fun e => by rw [e] at h0; simp at h0
    have hne2 := toList_ne hne
    refine den_of Tryz.func26 rfl rfl (by simp [Tryz.ntmps26]) (fun X hX hO => ?_)
    rw [Tryz.ntmps26] at hX
    simp only [Tryz.results26]
    repeat' (first 
     | (with_reducible first | refine awp_scope ?_ | refine awp_seq ?_ | refine awp_block ?_)
     | ((with_reducible first | refine awp_label ?_ | refine awp_skip ?_ | refine awp_exit ?_); try simp only [thenA, inBlockA, noGotoA, if_true, Nat.reduceEqDiff, if_false, ↓reduceIte])
     | ((with_reducible first | refine awp_reg 29 hX [0, 2, 3, 4, 5, 9] ?_ | refine awp_drw 29 hX [0, 2, 3, 4, 5, 9] Tab.mixed (by kernel_rfl) ?_ | refine DEv_cut _ _ _ _ _ _ _ _ _ _ _ _ (by kernel_rfl) ?_ | change postOf _ _ _ _ _); simp [-List.reduceReplicate, Nat.add_one_le_iff, -getElem?_pos, -getElem?_neg, iC, sC, u32C, u64C, z0, -Tab.zero27, g9, g8, hZl, hne, hne2, hst, g1, g2, g3, g0, hll, e1, e2, l1, l2, n1, n2, h0, hw36, List.take_of_length_le])
     | ((first | (with_reducible refine awp_ret ?_; try simp only [thenA, inBlockA, noGotoA]) | (refine (hR).det ?_) | (refine ⟨_, _, hR, fun _ => rfl, ?_⟩) | (refine (k1 _).det ?_) | (refine ⟨_, _, k1 _, fun _ => rfl, ?_⟩) | (refine (k2 _).det ?_) | (refine ⟨_, _, k2 _, fun _ => rfl, ?_⟩)); try simp [-List.reduceReplicate, Nat.add_one_le_iff, -getElem?_pos, -getElem?_neg, iC, sC, u32C, u64C, z0, -Tab.zero27, g9, g8, hZl, hne, hne2, hst, g1, g2, g3, g0, hll, e1, e2, l1, l2, n1, n2, h0, hw36, List.take_of_length_le])
     | (with_reducible refine awp_if_b rfl (fun hc => ?_) (fun hc => ?_) <;> (try simp [-getElem?_pos, -getElem?_neg] at hc) <;> (try (exfalso; omega)))
     | (with_reducible refine And.intro (by omega) ?_)
     | fail)
    trace_state
def hdX (v : Nat) (A B : List C) (n : Nat) : List C := u32v v :: (A ++ (B ++ [u64C n]))
end Go.Av

set_option exponentiation.threshold 1000
set_option linter.unusedVariables false
set_option linter.unusedSimpArgs false
set_option maxRecDepth 100000
set_option maxHeartbeats 4000000
namespace Go.Av
open Go Go.Proofs Go.Proofs.YtpcnacknlgmmlaaGreat Go.RowKit
attribute [local simp] List.getElem?_cons_zero List.getElem?_cons_succ
/-! ### the root of nothing -/
attribute [local simp] Tryz.underlying9 Tryz.underlying3 Tryz.underlying4 Tryz.underlying30 Tryz.underlying24 Tryz.underlying39 Tryz.underlying52
def nilM : M := .c (.v (.slice none 0 0))
def z32 : List UInt8 := List.replicate 32 0
def rootNil : List UInt8 := shaL (bsS (rootT 0 z32))
theorem rootNil_len : rootNil.length = 32 := shaL_len _
theorem textsNil_den : DenV Tryz.prog 84 [nilM] nilM := by
  refine Den.frame rfl rfl ?_
  refine den_of Tryz.func84 rfl rfl (by simp [Tryz.ntmps84]) (fun X hX hO => ?_)
  rw [Tryz.ntmps84] at hX
  simp only [Tryz.results84]
  repeat' (first 
   | (with_reducible first | refine awp_scope ?_ | refine awp_seq ?_ | refine awp_block ?_)
   | ((with_reducible first | refine awp_label ?_ | refine awp_skip ?_ | refine awp_exit ?_ | refine hother _ _ rfl ?_); try simp only [thenA, inBlockA, noGotoA, if_true, Nat.reduceEqDiff, if_false, ↓reduceIte])
   | ((with_reducible first | refine awp_reg 19 hX [0, 2, 3, 5, 6, 7, 8, 9] ?_ | change postOf _ _ _ _ _); simp [-List.reduceReplicate, Nat.add_one_le_iff, -getElem?_pos, -getElem?_neg, nilM])
   | ((first | (with_reducible refine awp_ret ?_; try simp only [thenA, inBlockA, noGotoA])); try simp [-List.reduceReplicate, Nat.add_one_le_iff, -getElem?_pos, -getElem?_neg, nilM])
   | (with_reducible refine awp_if_b rfl (fun hc => ?_) (fun hc => ?_) <;> (try simp [-getElem?_pos, -getElem?_neg] at hc) <;> (try (exfalso; omega)))
   | (with_reducible refine And.intro (by omega) ?_)
   | fail)
  refine awp_forU [3, 6, 7, 8] (fun i (_u : Unit) => [(8, .c (iC i))]) (fun i (_u : Unit) => []) (fun i (_u : Unit) => True) (0) (()) (by first | trivial | (simp; done) | omega | (intros; simp at *; done)) (by simp [-List.reduceReplicate, keep, iC]) (by simp [-List.reduceReplicate, iC]) ?_
  rintro i _u Q1 hi hH next hother
  conv => arg 5; arg 1; simp only [List.cons_append, List.nil_append, keep, get, Nat.reduceEqDiff, if_true, if_false, ↓reduceIte]
  repeat' (first 
   | (with_reducible first | refine awp_scope ?_ | refine awp_seq ?_ | refine awp_block ?_)
   | ((with_reducible first | refine awp_label ?_ | refine awp_skip ?_ | refine awp_exit ?_ | refine hother _ _ rfl ?_); try simp only [thenA, inBlockA, noGotoA, if_true, Nat.reduceEqDiff, if_false, ↓reduceIte])
   | ((with_reducible first | refine awp_reg 19 hX [0, 2, 3, 5, 6, 7, 8, 9] ?_ | change postOf _ _ _ _ _); simp [-List.reduceReplicate, Nat.add_one_le_iff, -getElem?_pos, -getElem?_neg, nilM, iC])
   | ((first | (with_reducible refine awp_ret ?_; try simp only [thenA, inBlockA, noGotoA])); try simp [-List.reduceReplicate, Nat.add_one_le_iff, -getElem?_pos, -getElem?_neg, nilM, iC])
   | (with_reducible refine awp_if_b rfl (fun hc => ?_) (fun hc => ?_) <;> (try simp [-getElem?_pos, -getElem?_neg] at hc) <;> (try (exfalso; omega)))
   | (with_reducible refine And.intro (by omega) ?_)
   | fail)
theorem eachNil_den (f : M) (hf : ltB 0 f = true) : DenV Tryz.prog 142 [nilM, f] nilM := by
  refine Den.frame (by simp [ltBs, hf, nilM, ltB]) rfl ?_
  refine den_of Tryz.func142 rfl rfl (by simp [Tryz.ntmps142]) (fun X hX hO => ?_)
  rw [Tryz.ntmps142] at hX
  simp only [Tryz.results142]
  repeat' (first 
   | (with_reducible first | refine awp_scope ?_ | refine awp_seq ?_ | refine awp_block ?_)
   | ((with_reducible first | refine awp_label ?_ | refine awp_skip ?_ | refine awp_exit ?_ | refine hother _ _ rfl ?_); try simp only [thenA, inBlockA, noGotoA, if_true, Nat.reduceEqDiff, if_false, ↓reduceIte])
   | ((with_reducible first | refine awp_reg 22 hX [0, 1, 4, 5, 7, 8, 9, 10, 11] ?_ | change postOf _ _ _ _ _); simp [-List.reduceReplicate, Nat.add_one_le_iff, -getElem?_pos, -getElem?_neg, nilM])
   | ((first | (with_reducible refine awp_ret ?_; try simp only [thenA, inBlockA, noGotoA])); try simp [-List.reduceReplicate, Nat.add_one_le_iff, -getElem?_pos, -getElem?_neg, nilM])
   | (with_reducible refine awp_if_b rfl (fun hc => ?_) (fun hc => ?_) <;> (try simp [-getElem?_pos, -getElem?_neg] at hc) <;> (try (exfalso; omega)))
   | (with_reducible refine And.intro (by omega) ?_)
   | fail)
  refine awp_forU [1, 5, 8, 9, 10] (fun i (_u : Unit) => [(9, .c (iC i))]) (fun i (_u : Unit) => []) (fun i (_u : Unit) => True) (0) (()) (by first | trivial | (simp; done) | omega | (intros; simp at *; done)) (by simp [-List.reduceReplicate, keep, iC]) (by simp [-List.reduceReplicate, iC]) ?_
  rintro i _u Q1 hi hH next hother
  conv => arg 5; arg 1; simp only [List.cons_append, List.nil_append, keep, get, Nat.reduceEqDiff, if_true, if_false, ↓reduceIte]
  repeat' (first 
   | (with_reducible first | refine awp_scope ?_ | refine awp_seq ?_ | refine awp_block ?_)
   | ((with_reducible first | refine awp_label ?_ | refine awp_skip ?_ | refine awp_exit ?_ | refine hother _ _ rfl ?_); try simp only [thenA, inBlockA, noGotoA, if_true, Nat.reduceEqDiff, if_false, ↓reduceIte])
   | ((with_reducible first | refine awp_reg 22 hX [0, 1, 4, 5, 7, 8, 9, 10, 11] ?_ | change postOf _ _ _ _ _); simp [-List.reduceReplicate, Nat.add_one_le_iff, -getElem?_pos, -getElem?_neg, nilM, iC])
   | ((first | (with_reducible refine awp_ret ?_; try simp only [thenA, inBlockA, noGotoA])); try simp [-List.reduceReplicate, Nat.add_one_le_iff, -getElem?_pos, -getElem?_neg, nilM, iC])
   | (with_reducible refine awp_if_b rfl (fun hc => ?_) (fun hc => ?_) <;> (try simp [-getElem?_pos, -getElem?_neg] at hc) <;> (try (exfalso; omega)))
   | (with_reducible refine And.intro (by omega) ?_)
   | fail)
theorem leavesNil_den : DenV Tryz.prog 113 [nilM] nilM := by
  refine Den.frame rfl rfl ?_
  refine den_of Tryz.func113 rfl rfl (by simp [Tryz.ntmps113]) (fun X hX hO => ?_)
  rw [Tryz.ntmps113] at hX
  simp only [Tryz.results113]
  repeat' (first 
   | (with_reducible first | refine awp_scope ?_ | refine awp_seq ?_ | refine awp_block ?_)
   | ((with_reducible first | refine awp_label ?_ | refine awp_skip ?_ | refine awp_exit ?_); try simp only [thenA, inBlockA, noGotoA, if_true, Nat.reduceEqDiff, if_false, ↓reduceIte])
   | ((with_reducible first | refine awp_reg 5 hX [0, 2] ?_ | change postOf _ _ _ _ _); simp [-List.reduceReplicate, Nat.add_one_le_iff, -getElem?_pos, -getElem?_neg, nilM])
   | ((first | (with_reducible refine awp_ret ?_; try simp only [thenA, inBlockA, noGotoA]) | ((with_reducible refine Den.at_ (f := 142) ?_); refine (eachNil_den _ rfl _).det ?_)); try simp [-List.reduceReplicate, Nat.add_one_le_iff, -getElem?_pos, -getElem?_neg, nilM])
   | (with_reducible refine awp_if_b rfl (fun hc => ?_) (fun hc => ?_) <;> (try simp [-getElem?_pos, -getElem?_neg] at hc) <;> (try (exfalso; omega)))
   | (with_reducible refine And.intro (by omega) ?_)
   | fail)
theorem topNil_den : DenV Tryz.prog 112 [nilM] (hashM z32) := by
  refine Den.frame rfl rfl ?_
  refine den_of Tryz.func112 rfl rfl (by simp [Tryz.ntmps112]) (fun X hX hO => ?_)
  rw [Tryz.ntmps112] at hX
  simp only [Tryz.results112]
  repeat' (first 
   | (with_reducible first | refine awp_scope ?_ | refine awp_seq ?_ | refine awp_block ?_)
   | ((with_reducible first | refine awp_label ?_ | refine awp_skip ?_ | refine awp_exit ?_); try simp only [thenA, inBlockA, noGotoA, if_true, Nat.reduceEqDiff, if_false, ↓reduceIte])
   | ((with_reducible first | refine awp_reg 25 hX [0, 2, 3, 4, 6, 7, 10] ?_ | change postOf _ _ _ _ _); simp [-List.reduceReplicate, Nat.add_one_le_iff, -getElem?_pos, -getElem?_neg, nilM, hashM, z32, bC8])
   | ((first | (with_reducible refine awp_ret ?_; try simp only [thenA, inBlockA, noGotoA])); try simp [-List.reduceReplicate, Nat.add_one_le_iff, -getElem?_pos, -getElem?_neg, nilM, hashM, z32, bC8])
   | (with_reducible refine awp_if_b rfl (fun hc => ?_) (fun hc => ?_) <;> (try simp [-getElem?_pos, -getElem?_neg] at hc) <;> (try (exfalso; omega)))
   | (with_reducible refine And.intro (by omega) ?_)
   | fail)
theorem treeRootNil_den : DenV Tryz.prog 83 [nilM] (hashM rootNil) := by
  refine Den.frame rfl rfl ?_
  have p1 := leavesNil_den
  have p2 := topNil_den
  have p3 := rootSum_den 0 z32 (by omega) (by simp [z32])
  have hl := rootNil_len
  have hr : shaL (bsS (rootT 0 z32)) = rootNil := rfl
  rw [hr] at p3
  have ht := hash_take rootNil hl
  generalize rootNil = r at *
  generalize z32 = z at *
  refine den_of Tryz.func83 rfl rfl (by simp [Tryz.ntmps83]) (fun X hX hO => ?_)
  rw [Tryz.ntmps83] at hX
  simp only [Tryz.results83]
  repeat' (first 
   | (with_reducible first | refine awp_scope ?_ | refine awp_seq ?_ | refine awp_block ?_)
   | ((with_reducible first | refine awp_label ?_ | refine awp_skip ?_ | refine awp_exit ?_); try simp only [thenA, inBlockA, noGotoA, if_true, Nat.reduceEqDiff, if_false, ↓reduceIte])
   | ((with_reducible first | refine awp_reg 10 hX [0, 2] ?_ | change postOf _ _ _ _ _); simp [-List.reduceReplicate, Nat.add_one_le_iff, -getElem?_pos, -getElem?_neg, nilM, hashM, u64C, ht, hl])
   | ((first | (with_reducible refine awp_ret ?_; try simp only [thenA, inBlockA, noGotoA]) | (refine (p1 _).det ?_) | (refine (p2 _).det ?_) | (refine (p3 _).det ?_)); try simp [-List.reduceReplicate, Nat.add_one_le_iff, -getElem?_pos, -getElem?_neg, nilM, hashM, u64C, ht, hl])
   | (with_reducible refine awp_if_b rfl (fun hc => ?_) (fun hc => ?_) <;> (try simp [-getElem?_pos, -getElem?_neg] at hc) <;> (try (exfalso; omega)))
   | (with_reducible refine And.intro (by omega) ?_)
   | fail)
theorem linkRootNil_den : DenV Tryz.prog 44 [nilM] (hashM rootNil) := by
  refine Den.frame rfl rfl ?_
  have hl := rootNil_len
  have ht := hash_take rootNil hl
  have p1 := treeRootNil_den
  generalize rootNil = r at *
  refine den_of Tryz.func44 rfl rfl (by simp [Tryz.ntmps44]) (fun X hX hO => ?_)
  rw [Tryz.ntmps44] at hX
  simp only [Tryz.results44]
  repeat' (first 
   | (with_reducible first | refine awp_scope ?_ | refine awp_seq ?_ | refine awp_block ?_)
   | ((with_reducible first | refine awp_label ?_ | refine awp_skip ?_ | refine awp_exit ?_); try simp only [thenA, inBlockA, noGotoA, if_true, Nat.reduceEqDiff, if_false, ↓reduceIte])
   | ((with_reducible first | refine awp_reg 6 hX [0, 2] ?_ | change postOf _ _ _ _ _); simp [-List.reduceReplicate, Nat.add_one_le_iff, -getElem?_pos, -getElem?_neg, nilM, hashM, ht, hl])
   | ((first | (with_reducible refine awp_ret ?_; try simp only [thenA, inBlockA, noGotoA]) | ((with_reducible refine Den.at_ (f := 84) ?_); refine (textsNil_den _).det ?_) | (refine (p1 _).det ?_)); try simp [-List.reduceReplicate, Nat.add_one_le_iff, -getElem?_pos, -getElem?_neg, nilM, hashM, ht, hl])
   | (with_reducible refine awp_if_b rfl (fun hc => ?_) (fun hc => ?_) <;> (try simp [-getElem?_pos, -getElem?_neg] at hc) <;> (try (exfalso; omega)))
   | (with_reducible refine And.intro (by omega) ?_)
   | fail)
theorem leaves17Nil_den : DenV Tryz.prog 90 [nilM] nilM := by
  refine Den.frame rfl rfl ?_
  refine den_of Tryz.func90 rfl rfl (by simp [Tryz.ntmps90]) (fun X hX hO => ?_)
  rw [Tryz.ntmps90] at hX
  simp only [Tryz.results90]
  repeat' (first 
   | (with_reducible first | refine awp_scope ?_ | refine awp_seq ?_ | refine awp_block ?_)
   | ((with_reducible first | refine awp_label ?_ | refine awp_skip ?_ | refine awp_exit ?_ | refine hother _ _ rfl ?_); try simp only [thenA, inBlockA, noGotoA, if_true, Nat.reduceEqDiff, if_false, ↓reduceIte])
   | ((with_reducible first | refine awp_reg 20 hX [0, 2, 3, 4, 8] ?_ | change postOf _ _ _ _ _); simp [-List.reduceReplicate, Nat.add_one_le_iff, -getElem?_pos, -getElem?_neg, nilM])
   | ((first | (with_reducible refine awp_ret ?_; try simp only [thenA, inBlockA, noGotoA])); try simp [-List.reduceReplicate, Nat.add_one_le_iff, -getElem?_pos, -getElem?_neg, nilM])
   | (with_reducible refine awp_if_b rfl (fun hc => ?_) (fun hc => ?_) <;> (try simp [-getElem?_pos, -getElem?_neg] at hc) <;> (try (exfalso; omega)))
   | (with_reducible refine And.intro (by omega) ?_)
   | fail)
  refine awp_forU [0, 3, 4] (fun i (_u : Unit) => [(4, .c (iC i))]) (fun i (_u : Unit) => []) (fun i (_u : Unit) => True) (0) (()) (by first | trivial | (simp; done) | omega | (intros; simp at *; done)) (by simp [-List.reduceReplicate, keep, iC]) (by simp [-List.reduceReplicate, iC]) ?_
  rintro i _u Q1 hi hH next hother
  conv => arg 5; arg 1; simp only [List.cons_append, List.nil_append, keep, get, Nat.reduceEqDiff, if_true, if_false, ↓reduceIte]
  repeat' (first 
   | (with_reducible first | refine awp_scope ?_ | refine awp_seq ?_ | refine awp_block ?_)
   | ((with_reducible first | refine awp_label ?_ | refine awp_skip ?_ | refine awp_exit ?_ | refine hother _ _ rfl ?_); try simp only [thenA, inBlockA, noGotoA, if_true, Nat.reduceEqDiff, if_false, ↓reduceIte])
   | ((with_reducible first | refine awp_reg 20 hX [0, 2, 3, 4, 8] ?_ | change postOf _ _ _ _ _); simp [-List.reduceReplicate, Nat.add_one_le_iff, -getElem?_pos, -getElem?_neg, nilM, iC])
   | ((first | (with_reducible refine awp_ret ?_; try simp only [thenA, inBlockA, noGotoA])); try simp [-List.reduceReplicate, Nat.add_one_le_iff, -getElem?_pos, -getElem?_neg, nilM, iC])
   | (with_reducible refine awp_if_b rfl (fun hc => ?_) (fun hc => ?_) <;> (try simp [-getElem?_pos, -getElem?_neg] at hc) <;> (try (exfalso; omega)))
   | (with_reducible refine And.intro (by omega) ?_)
   | fail)
theorem leaves11Nil_den : DenV Tryz.prog 119 [nilM] nilM := by
  refine Den.frame rfl rfl ?_
  refine den_of Tryz.func119 rfl rfl (by simp [Tryz.ntmps119]) (fun X hX hO => ?_)
  rw [Tryz.ntmps119] at hX
  simp only [Tryz.results119]
  repeat' (first 
   | (with_reducible first | refine awp_scope ?_ | refine awp_seq ?_ | refine awp_block ?_)
   | ((with_reducible first | refine awp_label ?_ | refine awp_skip ?_ | refine awp_exit ?_ | refine hother _ _ rfl ?_); try simp only [thenA, inBlockA, noGotoA, if_true, Nat.reduceEqDiff, if_false, ↓reduceIte])
   | ((with_reducible first | refine awp_reg 20 hX [0, 2, 3, 4, 8] ?_ | change postOf _ _ _ _ _); simp [-List.reduceReplicate, Nat.add_one_le_iff, -getElem?_pos, -getElem?_neg, nilM])
   | ((first | (with_reducible refine awp_ret ?_; try simp only [thenA, inBlockA, noGotoA])); try simp [-List.reduceReplicate, Nat.add_one_le_iff, -getElem?_pos, -getElem?_neg, nilM])
   | (with_reducible refine awp_if_b rfl (fun hc => ?_) (fun hc => ?_) <;> (try simp [-getElem?_pos, -getElem?_neg] at hc) <;> (try (exfalso; omega)))
   | (with_reducible refine And.intro (by omega) ?_)
   | fail)
  refine awp_forU [0, 3, 4] (fun i (_u : Unit) => [(4, .c (iC i))]) (fun i (_u : Unit) => []) (fun i (_u : Unit) => True) (0) (()) (by first | trivial | (simp; done) | omega | (intros; simp at *; done)) (by simp [-List.reduceReplicate, keep, iC]) (by simp [-List.reduceReplicate, iC]) ?_
  rintro i _u Q1 hi hH next hother
  conv => arg 5; arg 1; simp only [List.cons_append, List.nil_append, keep, get, Nat.reduceEqDiff, if_true, if_false, ↓reduceIte]
  repeat' (first 
   | (with_reducible first | refine awp_scope ?_ | refine awp_seq ?_ | refine awp_block ?_)
   | ((with_reducible first | refine awp_label ?_ | refine awp_skip ?_ | refine awp_exit ?_ | refine hother _ _ rfl ?_); try simp only [thenA, inBlockA, noGotoA, if_true, Nat.reduceEqDiff, if_false, ↓reduceIte])
   | ((with_reducible first | refine awp_reg 20 hX [0, 2, 3, 4, 8] ?_ | change postOf _ _ _ _ _); simp [-List.reduceReplicate, Nat.add_one_le_iff, -getElem?_pos, -getElem?_neg, nilM, iC])
   | ((first | (with_reducible refine awp_ret ?_; try simp only [thenA, inBlockA, noGotoA])); try simp [-List.reduceReplicate, Nat.add_one_le_iff, -getElem?_pos, -getElem?_neg, nilM, iC])
   | (with_reducible refine awp_if_b rfl (fun hc => ?_) (fun hc => ?_) <;> (try simp [-getElem?_pos, -getElem?_neg] at hc) <;> (try (exfalso; omega)))
   | (with_reducible refine And.intro (by omega) ?_)
   | fail)
theorem top11Nil_den : DenV Tryz.prog 118 [nilM] (hashM z32) := by
  refine Den.frame rfl rfl ?_
  refine den_of Tryz.func118 rfl rfl (by simp [Tryz.ntmps118]) (fun X hX hO => ?_)
  rw [Tryz.ntmps118] at hX
  simp only [Tryz.results118]
  repeat' (first 
   | (with_reducible first | refine awp_scope ?_ | refine awp_seq ?_ | refine awp_block ?_)
   | ((with_reducible first | refine awp_label ?_ | refine awp_skip ?_ | refine awp_exit ?_); try simp only [thenA, inBlockA, noGotoA, if_true, Nat.reduceEqDiff, if_false, ↓reduceIte])
   | ((with_reducible first | refine awp_reg 26 hX [0, 2, 3, 6, 10] ?_ | refine awp_drw 26 hX [0, 2, 3, 6, 10] Tab.mixed (by kernel_rfl) ?_ | refine DEv_cut _ _ _ _ _ _ _ _ _ _ _ _ (by kernel_rfl) ?_ | change postOf _ _ _ _ _); simp [-List.reduceReplicate, Nat.add_one_le_iff, -getElem?_pos, -getElem?_neg, nilM, hashM, z32, bC8])
   | ((first | (with_reducible refine awp_ret ?_; try simp only [thenA, inBlockA, noGotoA])); try simp [-List.reduceReplicate, Nat.add_one_le_iff, -getElem?_pos, -getElem?_neg, nilM, hashM, z32, bC8])
   | (with_reducible refine awp_if_b rfl (fun hc => ?_) (fun hc => ?_) <;> (try simp [-getElem?_pos, -getElem?_neg] at hc) <;> (try (exfalso; omega)))
   | (with_reducible refine And.intro (by omega) ?_)
   | fail)
theorem root11Nil_den : DenV Tryz.prog 89 [nilM] (hashM rootNil) := by
  refine Den.frame rfl rfl ?_
  have p1 := leaves11Nil_den
  have p2 := top11Nil_den
  have p3 := root03_den 0 z32 (by omega) (by simp [z32])
  have hl := rootNil_len
  have hr : shaL (bsS (rootT 0 z32)) = rootNil := rfl
  rw [hr] at p3
  have ht := hash_take rootNil hl
  generalize rootNil = r at *
  generalize z32 = z at *
  refine den_of Tryz.func89 rfl rfl (by simp [Tryz.ntmps89]) (fun X hX hO => ?_)
  rw [Tryz.ntmps89] at hX
  simp only [Tryz.results89]
  repeat' (first 
   | (with_reducible first | refine awp_scope ?_ | refine awp_seq ?_ | refine awp_block ?_)
   | ((with_reducible first | refine awp_label ?_ | refine awp_skip ?_ | refine awp_exit ?_); try simp only [thenA, inBlockA, noGotoA, if_true, Nat.reduceEqDiff, if_false, ↓reduceIte])
   | ((with_reducible first | refine awp_reg 10 hX [0, 2] ?_ | change postOf _ _ _ _ _); simp [-List.reduceReplicate, Nat.add_one_le_iff, -getElem?_pos, -getElem?_neg, nilM, hashM, u64C, ht, hl])
   | ((first | (with_reducible refine awp_ret ?_; try simp only [thenA, inBlockA, noGotoA]) | (refine (p1 _).det ?_) | (refine (p2 _).det ?_) | (refine (p3 _).det ?_)); try simp [-List.reduceReplicate, Nat.add_one_le_iff, -getElem?_pos, -getElem?_neg, nilM, hashM, u64C, ht, hl])
   | (with_reducible refine awp_if_b rfl (fun hc => ?_) (fun hc => ?_) <;> (try simp [-getElem?_pos, -getElem?_neg] at hc) <;> (try (exfalso; omega)))
   | (with_reducible refine And.intro (by omega) ?_)
   | fail)
theorem links17Nil_den : DenV Tryz.prog 48 [nilM] (hashM rootNil) := by
  refine Den.frame rfl rfl ?_
  have hl := rootNil_len
  have ht := hash_take rootNil hl
  have p1 := root11Nil_den
  generalize rootNil = r at *
  refine den_of Tryz.func48 rfl rfl (by simp [Tryz.ntmps48]) (fun X hX hO => ?_)
  rw [Tryz.ntmps48] at hX
  simp only [Tryz.results48]
  repeat' (first 
   | (with_reducible first | refine awp_scope ?_ | refine awp_seq ?_ | refine awp_block ?_)
   | ((with_reducible first | refine awp_label ?_ | refine awp_skip ?_ | refine awp_exit ?_); try simp only [thenA, inBlockA, noGotoA, if_true, Nat.reduceEqDiff, if_false, ↓reduceIte])
   | ((with_reducible first | refine awp_reg 6 hX [0, 2] ?_ | change postOf _ _ _ _ _); simp [-List.reduceReplicate, Nat.add_one_le_iff, -getElem?_pos, -getElem?_neg, nilM, hashM, ht, hl])
   | ((first | (with_reducible refine awp_ret ?_; try simp only [thenA, inBlockA, noGotoA]) | ((with_reducible refine Den.at_ (f := 90) ?_); refine (leaves17Nil_den _).det ?_) | (refine (p1 _).det ?_)); try simp [-List.reduceReplicate, Nat.add_one_le_iff, -getElem?_pos, -getElem?_neg, nilM, hashM, ht, hl])
   | (with_reducible refine awp_if_b rfl (fun hc => ?_) (fun hc => ?_) <;> (try simp [-getElem?_pos, -getElem?_neg] at hc) <;> (try (exfalso; omega)))
   | (with_reducible refine And.intro (by omega) ?_)
   | fail)
end Go.Av
