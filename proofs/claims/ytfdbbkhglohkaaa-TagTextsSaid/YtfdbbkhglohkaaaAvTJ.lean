import Derived.Test.YtfdbbkhglohkaaaAvTW
import Derived.Test.YtfdbbkhglohkaaaAvTH
import Derived.Test.YtfdbbkhglohkaaaAvShelf
import Derived.Test.YtfdbbkhglohkaaaAv29
set_option linter.unusedVariables false
set_option linter.unusedSimpArgs false
set_option maxRecDepth 100000
set_option maxHeartbeats 4000000
namespace Go.Av
open Go Go.Proofs Go.Proofs.Ytfdbbkhglohkaaa Go.RowKit
/-! ### strings.Join; texts and their bytes -/
theorem of_list (l : List UInt8) : (⟨l.toArray⟩ : ByteArray) = bsS l := rfl
theorem bs_data (b : ByteArray) : bsS b.data.toList = b := by
  obtain ⟨d⟩ := b
  simp [bsS]
def joinS (xs : List ByteArray) (sep : ByteArray) : List UInt8 := Lib.join (xs.map (·.data.toList)) sep.data.toList
theorem join_den (xs : List ByteArray) (sep : ByteArray) (n : Nat) (full : Bool) (hn : xs.length = n) (hN : n ≤ 1000000) (hlen : (joinS xs sep).length ≤ 140737488355328) :
    DenV Try.prog 67 [.c (.sl (xs.map fun s => .v (.string s)) n full), .c (.v (.string sep))] (.c (.v (.string (bsS (joinS xs sep))))) := by
  refine Den.of_below (by kernel_rfl) rfl fun w E vals hs ha hst => ?_
  have h1 := ha 1 _ rfl
  have h0 := ha 0 _ rfl
  rw [show (xs.map fun s => C.v (.string s)) = (xs.map Value.string).map C.v by simp] at h0
  obtain ⟨va, vb, rfl⟩ : ∃ va vb, vals = #[va, vb] := by
    obtain ⟨l⟩ := vals
    match l, hs with
    | [a, b], _ => exact ⟨a, b, rfl⟩
  obtain rfl : vb = .string sep := arg_v h1
  rcases arg_row (by simpa using hn) h0 with ⟨h, e⟩ | ⟨a, cap, e, hcap, hcell⟩
  · simp only [Array.getD_eq_getD_getElem?, List.getElem?_toArray, List.getElem?_cons_zero, Option.getD_some] at e
    subst e
    have : xs = [] := by rw [h] at hn; exact List.length_eq_zero_iff.1 hn
    subst this
    refine (Try.strings_Join_none none 0 sep w).mono fun e w' ⟨he, hw⟩ => ⟨?_, hw ▸ Below.refl _ _⟩
    rw [he]
    rfl
  · simp only [Array.getD_eq_getD_getElem?, List.getElem?_toArray, List.getElem?_cons_zero, Option.getD_some] at e
    subst e
    by_cases h : n = 0
    · have : xs = [] := by rw [h] at hn; exact List.length_eq_zero_iff.1 hn
      subst this
      subst h
      refine (Try.strings_Join_none (some a) cap sep w).mono fun e w' ⟨he, hw⟩ => ⟨?_, hw ▸ Below.refl _ _⟩
      rw [he]
      rfl
    · obtain ⟨s, hs0⟩ : ∃ s, xs[0]? = some s := ⟨_, List.getElem?_eq_getElem (by omega)⟩
      obtain ⟨hb, hc0⟩ := hcell 0 (.string s) (by simp [hs0])
      have hpl : a = ⟨a.block, a.off, none⟩ := by
        have : a.add 0 = a := by simp [Addr.add]
        rw [this] at hc0
        exact plain_of_cell hc0
      obtain ⟨blk, off, sp⟩ := a
      simp only [Addr.mk.injEq, true_and] at hpl
      subst hpl
      subst hn
      exact (Try.strings_Join blk off cap xs sep w (fun j x hx => by
        have := (hcell j (.string x) (by simp [hx])).2
        rwa [add_plain] at this) (hst _ hb) (by omega) hcap hlen).mono fun e w' h => h
theorem bs_toList (l : List UInt8) : (bsS l).toList = l := by rw [toList_data]; rfl
theorem ba_ext {a b : ByteArray} (h : a.data.toList = b.data.toList) : a = b := by
  obtain ⟨a⟩ := a
  obtain ⟨b⟩ := b
  simp only [ByteArray.mk.injEq]
  exact Array.toList_inj.1 h
theorem size_list (s : ByteArray) : s.size = s.data.toList.length := by simp
theorem hash_take (l : List UInt8) (h : l.length = 32) : (l.map bC8).take 32 = l.map bC8 := List.take_of_length_le (by simp [h])
theorem eq_hash1 (l : List UInt8) (h : l.length = 32) : eqM (List.replicate 32 0) (up (l.map bC8)) (up (l.map bC8)) = some true := by rw [eq_hash l l h h]; simp
end Go.Av
