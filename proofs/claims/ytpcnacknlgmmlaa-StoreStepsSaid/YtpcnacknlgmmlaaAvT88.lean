/- 1 texts of the program logic over abstract values, joined: each is proved without any condition beyond its own words. -/
import Derived.Test.YtpcnacknlgmmlaaAvT86
import Derived.Test.YtpcnacknlgmmlaaAvT87
import Derived.Test.YtpcnacknlgmmlaaAvEngine4
set_option exponentiation.threshold 1000
set_option linter.unusedVariables false
set_option linter.unusedSimpArgs false
set_option maxRecDepth 100000
set_option maxHeartbeats 4000000
namespace Go.Av
open Go Go.Proofs Go.Proofs.Ytpcnacknlgmmlaa Go.RowKit
attribute [local simp] List.getElem?_cons_zero List.getElem?_cons_succ
/-! ### a text put at its place in a sorted row -/
theorem bl_lt : ∀ a b : List UInt8, Op.bytesLess a b = true ↔ a < b
  | a, [] => by simp [Op.bytesLess]
  | [], _ :: _ => by simp [Op.bytesLess]
  | x :: a, y :: b => by simp [Op.bytesLess, List.cons_lt_cons_iff, bl_lt a b]
theorem bl_lt2 (s t : ByteArray) : Op.bytesLess s.toList t.toList = true ↔ bL s < bL t := by
  rw [bl_lt, toList_data, toList_data]; rfl
theorem sortB_pw (d : List ByteArray) : ((sortB d).map bL).Pairwise (· ≤ ·) := by
  have : (sortB d).map bL = (d.map bL).mergeSort fun x y => decide (x ≤ y) := by
    unfold sortB
    rw [List.map_map]
    exact List.map_id' _
  rw [this]
  exact sort_pw _
theorem sortB_perm0 (d : List ByteArray) : (sortB d).Perm d := by
  unfold sortB
  have h := (List.mergeSort_perm (d.map bL) fun x y => decide (x ≤ y)).map lB
  rw [List.map_map, show (lB ∘ bL) = id from rfl, List.map_id] at h
  exact h
theorem withB_sort (d : List ByteArray) (t : ByteArray) (i : Nat) (hi : i ≤ d.length) (h1 : ∀ j s, j < i → (sortB d)[j]? = some s → Op.bytesLess s.toList t.toList = true) (h2 : ∀ s, (sortB d)[i]? = some s → Op.bytesLess s.toList t.toList = false) : withB (sortB d) t i = sortB (d ++ [t]) := by
  have hpw := sortB_pw d
  have hl := sortB_len d
  have hp0 := sortB_perm0 d
  generalize sortB d = w at *
  refine (sortB_of ?_ ?_).symm
  · refine List.Perm.trans ?_ (List.perm_append_comm (l₁ := [t]))
    refine List.Perm.trans List.perm_middle ?_
    rw [List.take_append_drop]
    exact hp0.cons t
  · have hle : ∀ a b : List UInt8, ¬ a < b → b ≤ a := fun a b h => h
    have hlt : ∀ a b : List UInt8, a < b → a ≤ b := fun a b h => List.le_of_lt h
    rw [List.pairwise_map] at hpw ⊢
    unfold withB
    have hd := (List.take_append_drop i w) ▸ hpw
    rw [List.pairwise_append] at hd ⊢
    have hge : ∀ b ∈ w.drop i, bL t ≤ bL b := by
      intro b hb
      obtain ⟨k, hk, rfl⟩ := List.mem_iff_getElem.1 hb
      rw [List.getElem_drop]
      have hk2 : i + k < w.length := by simp at hk; omega
      have hi2 : i < w.length := by omega
      have hti : bL t ≤ bL w[i] := hle _ _ fun h => by
        have := h2 w[i] (List.getElem?_eq_getElem hi2)
        rw [(bl_lt2 _ _).2 h] at this
        cases this
      rcases Nat.eq_zero_or_pos k with h0 | h0
      · subst h0; exact hti
      · exact List.le_trans hti (List.pairwise_iff_getElem.1 hpw i (i + k) hi2 hk2 (by omega))
    have hlo : ∀ a ∈ w.take i, bL a ≤ bL t := by
      intro a ha
      obtain ⟨k, hk, rfl⟩ := List.mem_iff_getElem.1 ha
      rw [List.getElem_take]
      simp at hk
      exact hlt _ _ ((bl_lt2 _ _).1 (h1 k _ (by omega) (List.getElem?_eq_getElem (by omega))))
    refine ⟨hd.1, ?_, ?_⟩
    · rw [List.pairwise_cons]
      exact ⟨hge, hd.2.1⟩
    · intro a ha b hb
      rcases List.mem_cons.1 hb with h | h
      · subst h; exact hlo a ha
      · exact hd.2.2 a ha b h
theorem sortB_mem (d : List ByteArray) (t : ByteArray) : t ∈ sortB d ↔ t ∈ d := (sortB_perm0 d).mem_iff
/-- Texts as an own closed row. -/
def strT (l : List ByteArray) : M := .c (.sl (l.map fun s => .v (.string s)) l.length false)
theorem has88_in (d : List ByteArray) (t : ByteArray) (hN : d.length ≤ 1000000) (h : t ∈ d) (ob : List Ob) : Den Try.prog 11 [strT (sortB d), .c (sC t)] ob (fun r ob' => r = .c (bC true) ∧ ob' = ob) := by
  have hl := sortB_len d
  refine (has53_den (sortB d) t (by omega) false ob).mono ?_
  rintro r ob' ⟨⟨rfl, _⟩ | ⟨_, h2⟩, rfl⟩
  · exact ⟨rfl, rfl⟩
  · exact absurd ((sortB_mem d t).2 h) h2
theorem has88_out (d : List ByteArray) (t : ByteArray) (hN : d.length ≤ 1000000) (h : t ∉ d) (ob : List Ob) : Den Try.prog 11 [strT (sortB d), .c (sC t)] ob (fun r ob' => r = .c (bC false) ∧ ob' = ob) := by
  have hl := sortB_len d
  refine (has53_den (sortB d) t (by omega) false ob).mono ?_
  rintro r ob' ⟨⟨_, h2⟩ | ⟨rfl, _⟩, rfl⟩
  · exact absurd ((sortB_mem d t).1 h2) h
  · exact ⟨rfl, rfl⟩
theorem with88_den (d : List ByteArray) (t : ByteArray) (hN : d.length ≤ 1000000) : DenV Try.prog 12 [strT (sortB d), .c (sC t)] (strT (sortB (d ++ [t]))) := by
  have hl := sortB_len d
  refine Den.frame rfl rfl ?_
  refine (with53_den (sortB d) t (by omega) false).mono ?_
  rintro r ob' ⟨i, hi, rfl, h1, h2⟩
  rw [withB_sort d t i (by omega) h1 h2, strT, sortB_len, sortB_len]
  simp
theorem same88_den (a b : List ByteArray) (hN : a.length ≤ 1000000) (ob : List Ob) : Den Try.prog 15 [strT a, strT b] ob (fun r ob' => r = .c (bC (decide (a = b))) ∧ ob' = ob) := by
  refine (same53_den a b hN false false ob).mono ?_
  rintro r ob' ⟨h | h, rfl⟩ <;> refine ⟨?_, rfl⟩ <;> simp [h.1, h.2]
end Go.Av
