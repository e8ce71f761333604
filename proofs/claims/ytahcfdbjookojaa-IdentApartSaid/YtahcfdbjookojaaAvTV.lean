import Derived.Test.YtahcfdbjookojaaAvTS
import Derived.Test.YtahcfdbjookojaaAvT38
set_option linter.unusedVariables false
set_option linter.unusedSimpArgs false
set_option maxRecDepth 100000
set_option maxHeartbeats 4000000
namespace Go.Av
open Go Go.Proofs Go.Proofs.Ytahcfdbjookojaa Go.RowKit
/-! ### headers as arguments -/
theorem reads_app {W : World} {es1 es2 : List C} {cs : List Value} (k : Nat) (h1 : Reads W es1 (cs.take k)) (h2 : Reads W es2 (cs.drop k)) (hk : es1.length = k) : Reads W (es1 ++ es2) cs := by
  have hl : k ≤ cs.length := by
    have := h1.1
    rw [hk, List.length_take] at this
    omega
  refine ⟨?_, fun j c y hc hy => ?_⟩
  · have := h2.1
    rw [List.length_drop] at this
    rw [List.length_append]
    omega
  · by_cases hj : j < k
    · rw [List.getElem?_append_left (by omega)] at hc
      exact h1.2 j c y hc (by rw [List.getElem?_take_of_lt hj]; exact hy)
    · rw [List.getElem?_append_right (by omega), hk] at hc
      exact h2.2 (j - k) c y hc (by rw [List.getElem?_drop, show k + (j - k) = j by omega]; exact hy)
theorem opens_u32 {P : Program} {t : TypeId} (ht : P.underlying t = some (.int .u32)) : Opens P t (fun n : Nat => [u32v n]) (fun n => n < 4294967296) :=
  (opens_int ht).conv fun n hn => by
    have h : 0 ≤ n ∧ n ≤ 4294967295 := by simpa [Lit.wf, IntKind.min, IntKind.max, IntKind.signed, IntKind.bits] using hn
    exact ⟨n.toNat, by omega, by simp only [u32v]; rw [show ((n.toNat : Nat) : Int) = n by omega]⟩
theorem opens_header {P : Program} {t tv th tb tn : TypeId} {fs : Array Field} (ht : P.underlying t = some (.struct fs)) (hv : P.underlying tv = some (.int .u32)) (hh : P.underlying th = some (.array 32 tb)) (hb : P.underlying tb = some (.int .u8)) (hn : P.underlying tn = some (.int .u64))
    (c1 : P.cellsOf tv = 1) (c2 : P.cellsOf th = 32) (c3 : P.cellsOf tb = 1) (c4 : P.cellsOf tn = 1) (c5 : P.cellsOf t = 66)
    (f0 : (fs[0]?).map (fun f => (f.offset, f.type)) = some (0, tv)) (f1 : (fs[1]?).map (fun f => (f.offset, f.type)) = some (1, th)) (f2 : (fs[2]?).map (fun f => (f.offset, f.type)) = some (33, th)) (f3 : (fs[3]?).map (fun f => (f.offset, f.type)) = some (65, tn)) (hs : fs.size = 4) :
    Opens P t hdC HDok := fun H e0 W fuel cs x hx => by
  obtain ⟨xs, m, _, _, hlen, hxl, hel⟩ := DataW.trod_struct ht hx
  have key : ∀ (i off : Nat) (q : TypeId), (fs[i]?).map (fun f => (f.offset, f.type)) = some (off, q) → ∃ y, DataW.trod e0 P W 0 (fun _ => true) true m q ((cs.drop off).take (P.cellsOf q)) = some y := by
    intro i off q h
    rw [Option.map_eq_some_iff] at h
    obtain ⟨f, hf, he⟩ := h
    simp only [Prod.mk.injEq] at he
    obtain ⟨rfl, rfl⟩ := he
    have hlt := (Array.getElem?_eq_some_iff.1 hf).1
    rw [hel i f hf]
    exact ⟨xs[i], List.getElem?_eq_getElem (by omega)⟩
  obtain ⟨y0, h0⟩ := key 0 _ _ f0
  obtain ⟨y1, h1⟩ := key 1 _ _ f1
  obtain ⟨y2, h2⟩ := key 2 _ _ f2
  obtain ⟨y3, h3⟩ := key 3 _ _ f3
  obtain ⟨v, hv1, r0⟩ := opens_u32 hv H e0 W _ _ _ h0
  obtain ⟨a, _, r1⟩ := opens_hash hh hb c3 c2 H e0 W _ _ _ h1
  obtain ⟨b, _, r2⟩ := opens_hash hh hb c3 c2 H e0 W _ _ _ h2
  obtain ⟨n, hn1, r3⟩ := opens_u64 hn H e0 W _ _ _ h3
  rw [c1, List.drop_zero] at r0
  rw [c2] at r1 r2
  rw [c4] at r3
  rw [c5] at hlen
  rw [List.take_of_length_le (by rw [List.length_drop]; omega)] at r3
  refine ⟨⟨v, a, b, n⟩, ⟨hv1, hn1⟩, ?_⟩
  refine reads_app 1 r0 (reads_app 32 r1 (reads_app 32 ?_ ?_ ?_) ?_) rfl
  · rw [List.drop_drop]; exact r2
  · rw [List.drop_drop, List.drop_drop]; exact r3
  · rw [List.length_map]; exact b.2
  · rw [List.length_map]; exact a.2
theorem opens_headers {P : Program} {s t tv th tb tn : TypeId} {fs : Array Field} (hs' : P.underlying s = some (.slice t)) (ht : P.underlying t = some (.struct fs)) (hv : P.underlying tv = some (.int .u32)) (hh : P.underlying th = some (.array 32 tb)) (hb : P.underlying tb = some (.int .u8)) (hn : P.underlying tn = some (.int .u64))
    (c1 : P.cellsOf tv = 1) (c2 : P.cellsOf th = 32) (c3 : P.cellsOf tb = 1) (c4 : P.cellsOf tn = 1) (c5 : P.cellsOf t = 66)
    (f0 : (fs[0]?).map (fun f => (f.offset, f.type)) = some (0, tv)) (f1 : (fs[1]?).map (fun f => (f.offset, f.type)) = some (1, th)) (f2 : (fs[2]?).map (fun f => (f.offset, f.type)) = some (33, th)) (f3 : (fs[3]?).map (fun f => (f.offset, f.type)) = some (65, tn)) (hs : fs.size = 4) :
    Opens P s (fun l : List HD => [.sl (hdsC l) l.length false]) (fun l => l.length ≤ maxLen ∧ ∀ a ∈ l, HDok a) :=
  opens_slice hs' (fun a => by rw [c5]; exact hdC_len a) (opens_header ht hv hh hb hn c1 c2 c3 c4 c5 f0 f1 f2 f3 hs)
end Go.Av
