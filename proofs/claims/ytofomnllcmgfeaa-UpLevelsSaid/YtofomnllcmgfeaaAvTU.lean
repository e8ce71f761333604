/- 1 texts of the program logic over abstract values, joined: each is proved without any condition beyond its own words. -/
import Derived.RangeFuncBox
import Derived.RangeFuncLeaves
import Derived.Shelf.Abstract
import Derived.WalkKit
import Derived.OwnWalkIn
import Derived.TacticsInMore
import Derived.LoopNIn
import Derived.LoopIn
import Derived.Maps.AppendAt
import Derived.Below
import Derived.Stop.RegionWithIn
import Derived.Shelf.RegionOpen
import Derived.RangeFuncCalls
import Derived.Test.YtofomnllcmgfeaaProg
/-! ### up: the places of a level: a range over a function, over the world -/
set_option linter.unusedVariables false
set_option linter.unusedSimpArgs false
namespace Go.Av.Up
open Go Go.Proofs Go.RowKit Go.Shelf
attribute [local go_sem] Oper.semAt_some

def hit (zs : List Int) (from_ level : Int) (i : Nat) : Bool := decide (from_ ≤ (i : Int)) && decide (level ≤ zs[i]?.getD 0)
def pl (zs : List Int) (from_ level : Int) (k : Nat) : List Nat := (List.range (min k zs.length)).filter (hit zs from_ level)
theorem pl_yes {zs : List Int} {from_ level : Int} {k : Nat} (hk : k < zs.length) (h1 : from_ ≤ (k : Int)) (h2 : level ≤ zs[k]?.getD 0) : pl zs from_ level (k + 1) = pl zs from_ level k ++ [k] := by
  unfold pl
  rw [show min (k + 1) zs.length = k + 1 by omega, show min k zs.length = k by omega, List.range_succ, List.filter_append]
  simp only [List.filter_cons, List.filter_nil, hit, h1, h2, decide_true, Bool.and_self, if_true]
theorem pl_no {zs : List Int} {from_ level : Int} {k : Nat} (hk : k < zs.length) (h2 : ¬ level ≤ zs[k]?.getD 0) : pl zs from_ level (k + 1) = pl zs from_ level k := by
  unfold pl
  rw [show min (k + 1) zs.length = k + 1 by omega, show min k zs.length = k by omega, List.range_succ, List.filter_append]
  simp [List.filter_cons, hit, h2]
theorem pl_all {zs : List Int} {from_ level : Int} {k : Nat} (hk : zs.length ≤ k) : pl zs from_ level k = pl zs from_ level zs.length := by
  unfold pl; rw [show min k zs.length = zs.length by omega, Nat.min_self]
theorem pl_start {zs : List Int} {from_ level : Int} {k : Nat} (hk : (k : Int) ≤ max from_ 0) : pl zs from_ level k = [] := by
  unfold pl
  rw [List.filter_eq_nil_iff]
  intro i hi
  rw [List.mem_range] at hi
  simp only [hit, Bool.and_eq_true, decide_eq_true_eq]
  omega
theorem pl_len (zs : List Int) (from_ level : Int) (k : Nat) : (pl zs from_ level k).length ≤ k := by
  unfold pl
  refine Nat.le_trans (List.length_filter_le _ _) ?_
  rw [List.length_range]; omega
theorem pl_prefix (zs : List Int) (from_ level : Int) (k : Nat) : pl zs from_ level k <+: pl zs from_ level zs.length := by
  unfold pl
  rw [Nat.min_self]
  obtain ⟨d, hd⟩ : ∃ d, zs.length = min k zs.length + d := ⟨zs.length - min k zs.length, by omega⟩
  rw [hd, List.range_add, List.filter_append]
  rw [show min k (min k zs.length + d) = min k zs.length by omega]
  exact List.prefix_append _ _

/-- What lies below B, but for one block, lies as it lay. -/
def BX (c B : Nat) (w w' : World) : Prop := ∀ k, k < B → k ≠ c → w'.heap[k]? = w.heap[k]?
theorem BX.refl (c B : Nat) (w : World) : BX c B w w := fun _ _ _ => rfl
theorem BX.trans {c B : Nat} {w w1 w2 : World} (h : BX c B w w1) (k : BX c B w1 w2) : BX c B w w2 := fun b hb hc => (k b hb hc).trans (h b hb hc)
theorem BX.drew {c B : Nat} {w w1 : World} (h : BX c B w w1) : BX c B w w1.drew := h
theorem BX.cell {c B : Nat} {w w1 : World} (h : BX c B w w1) {p : Addr} (hb : p.block < B) (hc : p.block ≠ c) : w1.cell? p = w.cell? p := World.cell?_of_block (w := w) (h p.block hb hc)
theorem BX.of_below {c B : Nat} {w w1 : World} (h : Below B w w1) : BX c B w w1 := fun k hk _ => h.block k hk
set_option maxRecDepth 100000 in
set_option maxHeartbeats 4000000 in
theorem each1_in (F : Fence) (n : Nat) (h7 : F.fn 77) (hro : F.round = none) (hn : 1 ≤ n) (l B1 B2 B3 n₀ c b off cap : Nat) (zs : List Int) (from_ level : Int) (hf : from_ ≤ 9223372036854775807) (hreach : zs.length ≤ 1000000) (hb : b < n₀) (h1n : B1 < n₀) (h2n : B2 < n₀) (h3n : B3 < n₀) (hcb : b < c) (h1c : B1 ≠ c) (h2c : B2 ≠ c) (h3c : B3 ≠ c) (J Jx : List Nat → World → Prop) (hJ : ∀ s W, J s W → J s W.drew)
    (hY : ∀ pre (x : Nat) W, J pre W → pre.length < zs.length → YieldAt F (n - 1) Try.prog l #[.int .i64 (x : Int)] W fun e W' =>
      (e = .returned (.bool true) ∧ J (pre ++ [x]) W' ∧ BX c n₀ W W') ∨ (e = .returned (.bool false) ∧ Jx (pre ++ [x]) W'))
    (W : World) (hB1 : W.cell? ⟨B1, 0, none⟩ = some (.int .i64 from_)) (hB2 : W.cell? ⟨B2, 0, none⟩ = some (.slice (some ⟨b, off, none⟩) zs.length cap)) (hB3 : W.cell? ⟨B3, 0, none⟩ = some (.int .i64 level)) (hc : ∀ j, j < zs.length → W.cell? ⟨b, off + j, none⟩ = some (.int .i64 (zs[j]?.getD 0))) (h0 : J [] W) :
    CallsIn F n Try.prog 77 #[.func (.yield l) #[] #[], .pointer (some ⟨B1, 0, none⟩), .pointer (some ⟨B2, 0, none⟩), .pointer (some ⟨B3, 0, none⟩)] W fun e W' => (∃ v, e = .returned v) ∧
      ((∃ ys, ys = pl zs from_ level zs.length ∧ J ys W') ∨ (∃ pre, pre <+: pl zs from_ level zs.length ∧ Jx pre W')) := by
  refine callsIn_of_wp Try.func77 rfl h7 ?_ hro
  simp only [Try.ntmps77, List.size_toArray, List.length_cons, List.length_nil, Nat.reduceAdd, Nat.reduceSub, Array.replicate_succ, Array.replicate_zero, List.push_toArray, List.append_toArray, List.nil_append, List.cons_append]
  have hpl := pl_len zs from_ level
  refine (fun (key : ∀ (m : Int) (v6 : Value), 0 ≤ m → from_ ≤ m → m ≤ max from_ 0 → Code.wpIn F n Try.prog ?C ?Q { tmps := #[.func (.yield l) #[] #[], .pointer (some ⟨B1, 0, none⟩), .pointer (some ⟨B2, 0, none⟩), .pointer (some ⟨B3, 0, none⟩), undef, .int .i64 m, v6, .int .i64 m, undef, undef, undef, undef, undef, undef, undef, undef, undef, undef, undef, undef, undef, undef, undef, undef, undef, undef], defers := [] } W) => ?main) ?proof
  case main =>
    gi_wp2
    · exact key 0 _ (by omega) (by omega) (by omega)
    · exact key from_ _ (by omega) (by omega) (by omega)
  case proof =>
  intro m v6 hm0 hm1 hm2
  gi_loopw [5] (fun i wr => ∃ k : Nat, i = .int .i64 (k : Int) ∧ k ≤ 9223372036854775807 ∧ from_ ≤ (k : Int) ∧ J (pl zs from_ level k) wr ∧ BX c n₀ W wr)
    (fun i _ => zs.length - (intOf i).toNat)
  case atStart => exact ⟨m.toNat, by rw [Int.toNat_of_nonneg (by omega)], by omega, by omega, by rw [pl_start (by omega)]; exact h0, BX.refl _ _ _⟩
  case round =>
    obtain ⟨k, rfl, hk64, hfk, hJs, hnx⟩ := hrel
    have hc1 : wr.cell? ⟨B1, 0, none⟩ = some (.int .i64 from_) := (hnx.cell (p := ⟨B1, 0, none⟩) h1n h1c).trans hB1
    have hc2 : wr.cell? ⟨B2, 0, none⟩ = some (.slice (some ⟨b, off, none⟩) zs.length cap) := (hnx.cell (p := ⟨B2, 0, none⟩) h2n h2c).trans hB2
    have hc3 : wr.cell? ⟨B3, 0, none⟩ = some (.int .i64 level) := (hnx.cell (p := ⟨B3, 0, none⟩) h3n h3c).trans hB3
    by_cases hlt : k < zs.length
    · have hcx : wr.cell? ⟨b, off + k, none⟩ = some (.int .i64 (zs[k]?.getD 0)) := (hnx.cell (p := ⟨b, off + k, none⟩) hb (Nat.ne_of_lt hcb)).trans (hc k hlt)
      obtain ⟨fn, tmps, assign, body, hy, hR⟩ := hY _ k wr.drew (hJ _ _ hJs) (by have := hpl k; omega)
      generalize hz : zs[k]?.getD 0 = z at *
      by_cases hge : level ≤ z
      · gi_wp2
        clear hY hB1 hB2 hB3 hc h0 hpl hc1
        rename_i Qr Kb hKb Kc hKc
        have fin : ∀ (bb : Bool) (W3 : World), ((bb = true ∧ J (pl zs from_ level k ++ [k]) W3 ∧ BX c n₀ wr.drew W3) ∨ (bb = false ∧ Jx (pl zs from_ level k ++ [k]) W3)) → Exit.then Kc (Exit.inBlock 1 (Exit.then Kb Qr)) Exit.normal { tmps := #[.func (.yield l) #[] #[], .pointer (some ⟨B1, 0, none⟩), .pointer (some ⟨B2, 0, none⟩), .pointer (some ⟨B3, 0, none⟩), undef, .int .i64 (k : Int), v6, .int .i64 m, .int .i64 (k : Int), .slice (some ⟨b, off, none⟩) zs.length cap, .int .i64 (zs.length : Int), .bool true, u12, u13, .slice (some ⟨b, off, none⟩) zs.length cap, .int .i64 (k : Int), .pointer (some ⟨b, off + k, none⟩), .int .i64 z, .int .i64 level, .bool true, .bool true, .func (.yield l) #[] #[], .int .i64 (k : Int), .bool bb, .bool !bb, .bool !bb], defers := [] } W3 := by
          intro bb W3 hor2
          rcases hor2 with ⟨rfl, hJ3, hk3⟩ | ⟨rfl, hJx3⟩
          · gi_wp2
            go_roundw
            case rel => exact ⟨k + 1, by simp, by omega, by omega, by rw [pl_yes hlt hfk (by rw [hz]; exact hge)]; exact hJ3, (hnx.drew).trans hk3⟩
            case measure => simp [intOf]; omega
          · gi_wp2
            refine bodyPost_ret (results_none rfl _ _ _) rfl ?_
            exact ⟨⟨_, rfl⟩, .inr ⟨_, by rw [← pl_yes hlt hfk (by rw [hz]; exact hge)]; exact pl_prefix _ _ _ _, hJx3⟩⟩
        generalize Exit.then Kc (Exit.inBlock 1 (Exit.then Kb Qr)) = QQ at fin ⊢
        clear hKb hKc Kb Kc Qr hnx hfk hk64 hJs hJ hz
        gi_region_with (refine hR.mono ?_; intro e W3 hor; obtain ⟨bb, rfl, hor2⟩ : ∃ bb : Bool, e = Ending.returned (Value.bool bb) ∧ ((bb = true ∧ J (pl zs from_ level k ++ [k]) W3 ∧ BX c n₀ wr.drew W3) ∨ (bb = false ∧ Jx (pl zs from_ level k ++ [k]) W3)) := hor.elim (fun h => ⟨true, h.1, .inl ⟨rfl, h.2⟩⟩) (fun h => ⟨false, h.1, .inr ⟨rfl, h.2⟩⟩); clear hor)
        all_goals exact fin _ _ hor2
      · gi_wp2
        clear hY hB1 hB2 hB3 hc h0 hpl hc1 hy hR
        rename_i Qr Kb hKb Kc hKc
        have fin : ∀ (u21 u22 u23 u24 : Value), Exit.then Kc (Exit.inBlock 1 (Exit.then Kb Qr)) Exit.normal { tmps := #[.func (.yield l) #[] #[], .pointer (some ⟨B1, 0, none⟩), .pointer (some ⟨B2, 0, none⟩), .pointer (some ⟨B3, 0, none⟩), undef, .int .i64 (k : Int), v6, .int .i64 m, .int .i64 (k : Int), .slice (some ⟨b, off, none⟩) zs.length cap, .int .i64 (zs.length : Int), .bool true, u12, u13, .slice (some ⟨b, off, none⟩) zs.length cap, .int .i64 (k : Int), .pointer (some ⟨b, off + k, none⟩), .int .i64 z, .int .i64 level, .bool false, .bool false, u21, u22, u23, u24, .bool false], defers := [] } wr.drew := by
          intro u21 u22 u23 u24
          gi_wp2
          go_roundw
          case rel => exact ⟨k + 1, by simp, by omega, by omega, by rw [pl_no hlt (by rw [hz]; omega)]; exact hJ _ _ hJs, hnx.drew⟩
          case measure => simp [intOf]; omega
        generalize Exit.then Kc (Exit.inBlock 1 (Exit.then Kb Qr)) = QQ at fin ⊢
        clear hKb hKc Kb Kc Qr hnx hfk hk64 hJs hJ hz
        gi_region_with (refine ⟨fun _ h => (by cases h), ?_⟩)
        all_goals exact fin _ _ _ _
    · gi_wp2
      go_end0
      exact ⟨⟨_, rfl⟩, .inl ⟨_, rfl, by rw [← pl_all (k := k) (by omega)]; exact hJs⟩⟩
end Go.Av.Up
