import Derived.Test.YtahcfdbjookojaaAvTab
import Derived.Test.YtahcfdbjookojaaAv20
import Derived.Test.YtahcfdbjookojaaAvT22
set_option linter.unusedVariables false
set_option linter.unusedSimpArgs false
set_option maxRecDepth 100000
set_option maxHeartbeats 4000000
namespace Go.Av
open Go Go.Proofs Go.Proofs.Ytahcfdbjookojaa Go.RowKit
/-! ### arguments of the laws -/
def strC (l : List ByteArray) : C := .sl (l.map fun s => .v (.string s)) l.length false
theorem opens_strC {P : Program} {t e : TypeId} (ht : P.underlying t = some (.slice e)) (he : P.underlying e = some .string) (hc : P.cellsOf e = 1) :
    Opens P t (fun l => [strC l]) (fun l => l.length ≤ maxLen ∧ ∀ s ∈ l, s.size ≤ maxLen) :=
  (opens_slice ht (by simp [hc]) (opens_string he)).conv fun l hl => ⟨l, hl, by rw [flat_one]; rfl⟩
theorem opens_u64 {P : Program} {t : TypeId} (ht : P.underlying t = some (.int .u64)) : Opens P t (fun n : Nat => [u64C n]) (fun n => n < 18446744073709551616) :=
  (opens_int ht).conv fun n hn => by
    have h : 0 ≤ n ∧ n ≤ 18446744073709551615 := by simpa [Lit.wf, IntKind.min, IntKind.max, IntKind.signed, IntKind.bits] using hn
    exact ⟨n.toNat, by omega, by simp only [u64C]; rw [show ((n.toNat : Nat) : Int) = n by omega]⟩
theorem opens_words {P : Program} {t e : TypeId} (ht : P.underlying t = some (.array 8 e)) (he : P.underlying e = some (.int .u32)) (hc : P.cellsOf e = 1) (hct : P.cellsOf t = 8) :
    Opens P t (fun s : S8 => s.l.map wC) (fun _ => True) :=
  (opens_array ht (by rw [hct, hc]) (by simp [hc]) (opens_int he)).conv fun l ⟨hl, hw⟩ => by
    have key : ∀ n : Int, (Lit.int .u32 n).wf = true → ∃ x : W, wC x = .v (.int .u32 n) := fun n hn => by
      have h : 0 ≤ n ∧ n ≤ 4294967295 := by simpa [Lit.wf, IntKind.min, IntKind.max, IntKind.signed, IntKind.bits] using hn
      refine ⟨BitVec.ofNat 32 n.toNat, ?_⟩
      unfold wC wI
      rw [BitVec.toNat_ofNat]
      congr 2
      omega
    match l, hl with
    | [a, b, c, d, e, f, g, h], _ =>
      obtain ⟨a', ha⟩ := key a (hw a (by simp))
      obtain ⟨b', hb⟩ := key b (hw b (by simp))
      obtain ⟨c', hc⟩ := key c (hw c (by simp))
      obtain ⟨d', hd⟩ := key d (hw d (by simp))
      obtain ⟨e', he⟩ := key e (hw e (by simp))
      obtain ⟨f', hf⟩ := key f (hw f (by simp))
      obtain ⟨g', hg⟩ := key g (hw g (by simp))
      obtain ⟨h', hh⟩ := key h (hw h (by simp))
      exact ⟨⟨a', b', c', d', e', f', g', h'⟩, trivial, by simp [S8.l, ha, hb, hc, hd, he, hf, hg, hh]⟩
end Go.Av
