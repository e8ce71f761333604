/- 1 texts of the program logic over abstract values, joined: each is proved without any condition beyond its own words. -/
import Derived.Test.YtpcnacknlgmmlaaAvTP
import Derived.Test.YtpcnacknlgmmlaaAvEngine4
set_option exponentiation.threshold 1000
set_option linter.unusedVariables false
set_option linter.unusedSimpArgs false
set_option maxRecDepth 100000
set_option maxHeartbeats 4000000
namespace Go.Av
open Go Go.Proofs Go.Proofs.Ytpcnacknlgmmlaa Go.RowKit
attribute [local simp] List.getElem?_cons_zero List.getElem?_cons_succ
/-! ### arguments whose weights are bounded: rows, structs -/
theorem Opens.w {P : Program} {t : TypeId} {A : Type} {enc : A → List C} {Hyp : A → Prop} (h : Opens P t enc Hyp) : OpensW P t enc Hyp := fun H e0 W fuel cs x _ hx => h H e0 W fuel cs x hx
theorem opens_sliceW {P : Program} {t e : TypeId} {A : Type} {enc : A → List C} {Hyp : A → Prop} (ht : P.underlying t = some (.slice e)) (hsz : ∀ a, (enc a).length = P.cellsOf e) (he : OpensW P e enc Hyp) :
    OpensW P t (fun l : List A => [.sl (l.flatMap enc) l.length false]) (fun l => (l.length ≤ maxLen ∧ l.length * P.bytesOf e ≤ 140737488351232) ∧ ∀ a ∈ l, Hyp a) := fun H e0 W fuel cs x hw hx => by
  rcases DataW.trod_slice ht hx with ⟨rfl, rfl⟩ | ⟨a, len, cap, elems, rest, n, _, rfl, rfl, hb, hl, hm, hlen, hel, hsp, hns⟩
  · exact ⟨[], ⟨⟨by simp, by simp⟩, by simp⟩, reads1 rfl (.nl false)⟩
  · simp only [DataW.weights, ht, List.all_cons, List.all_append, Bool.and_eq_true] at hw
    obtain ⟨hwl, hwe, hwr⟩ := hw
    obtain ⟨l, hll, hp⟩ := list_choose (p := fun i q => Hyp q ∧ ∀ (r : Nat) c, (enc q)[r]? = some c → ∃ y, W.cell? (a.add (i * P.cellsOf e + r)) = some y ∧ one1 y = true ∧ RepC W (fun b => b < W.heap.size) c y) len (fun i hi => by
      have h1 := hel i hi
      have h2 : elems[i]? = some elems[i] := List.getElem?_eq_getElem (by omega)
      rw [h2, Option.bind_eq_some_iff] at h1
      obtain ⟨cs', hc, ht'⟩ := h1
      obtain ⟨q, hq, hlq, hrq⟩ := he H e0 W n cs' _ (weightsAll_mem hwe (List.mem_map_of_mem (List.getElem_mem _))) ht'
      obtain ⟨c1, c2⟩ := cells_get hc
      refine ⟨q, hq, fun r c hr => ?_⟩
      have hrl := (List.getElem?_eq_some_iff.1 hr).1
      have hy : cs'[r]? = some cs'[r] := List.getElem?_eq_getElem (by omega)
      obtain ⟨o1, o2⟩ := hrq r c _ hr hy
      refine ⟨_, ?_, o1, o2⟩
      have := c2 r _ hy
      rwa [add_add] at this)
    refine ⟨l, ⟨⟨by omega, ?_⟩, fun q hq => ?_⟩, reads1 rfl ?_⟩
    · have h3 := of_decide_eq_true hwl
      simp only [List.length_map, reachBytes] at h3
      have h4 : l.length * P.bytesOf e ≤ (elems.length + rest.length) * P.bytesOf e := Nat.mul_le_mul_right _ (by omega)
      omega
    · obtain ⟨i, hi⟩ := List.getElem?_of_mem hq
      exact (hp i q hi).1
    · have key : ∀ (j : Nat) c, (l.flatMap enc)[j]? = some c → ∃ y, W.cell? (a.add j) = some y ∧ one1 y = true ∧ RepC W (fun b => b < W.heap.size) c y := fun j c hc => by
        obtain ⟨i, r, q, rfl, _, h3, h4⟩ := flat_get hsz hc
        exact (hp i q h3).2 r c h4
      rw [hll]
      refine .sl _ len false a cap (fun j => (W.cell? (a.add j)).getD undef) (by simp) hl (fun j c hc => ?_) (fun j c hc => ?_)
      · obtain ⟨y, h1, h2, h3⟩ := key j c hc
        have := cell_lt h1
        rw [add_block] at this
        simp only [h1, Option.getD_some]
        exact ⟨this, h2, trivial⟩
      · obtain ⟨y, h1, h2, h3⟩ := key j c hc
        simp only [h1, Option.getD_some]
        exact h3
theorem opens_strCW {P : Program} {t e : TypeId} (ht : P.underlying t = some (.slice e)) (he : P.underlying e = some .string) (hc : P.cellsOf e = 1) (hb : P.bytesOf e = 16) :
    OpensW P t (fun l => [strC l]) (fun l => l.length ≤ 8796093021952 ∧ ∀ s ∈ l, s.size ≤ 140737488351232) :=
  (opens_sliceW ht (by simp [hc]) (opens_stringW he)).conv fun l hl => ⟨l, ⟨by rw [hb] at hl; omega, hl.2⟩, by rw [flat_one]; rfl⟩
/-- Some of a type's cells, read as a datum; weights known. -/
def SegW (P : Program) (t : TypeId) (off k : Nat) {A : Type} (enc : A → List C) (Hyp : A → Prop) : Prop :=
  ∀ (H : Type) (e0 : TypeId × Value → H) (W : World) (fuel : Nat) (cs : List Value) (x : DataW H × List MemPlace), (x.1.weights P t).all (· ≤ reachBytes) = true → DataW.trod e0 P W 0 (fun _ => true) true fuel t cs = some x → ∃ a, Hyp a ∧ Reads W (enc a) ((cs.drop off).take k)
end Go.Av
