/- 1 texts of the program logic over abstract values, joined: each is proved without any condition beyond its own words. -/
import Derived.Test.YtofomnllcmgfeaaAvTU
/-! ### up: Places, Count: over the world -/
set_option linter.unusedVariables false
set_option linter.unusedSimpArgs false
namespace Go.Av.Up
open Go Go.Proofs Go.RowKit Go.Shelf
attribute [local go_sem] Oper.semAt_some
/-- The slice value holds these numbers, in a block below n₀; or there are none. -/
def Ints (n₀ : Nat) (W : World) (sv : Value) (zs : List Int) : Prop :=
  ((∃ a cap, sv = .slice a 0 cap) ∧ zs = []) ∨ ∃ b off cap, sv = .slice (some ⟨b, off, none⟩) zs.length cap ∧ b < n₀ ∧ ∀ j, j < zs.length → W.cell? ⟨b, off + j, none⟩ = some (.int .i64 (zs[j]?.getD 0))
theorem Ints.below {n₀ : Nat} {A B : World} (h : Below n₀ A B) {sv : Value} {zs : List Int} : Ints n₀ A sv zs → Ints n₀ B sv zs
  | .inl e => .inl e
  | .inr ⟨b, off, cap, e, hb, hc⟩ => .inr ⟨b, off, cap, e, hb, fun j hj => (h.cell (p := ⟨b, off + j, none⟩) hb).trans (hc j hj)⟩

set_option maxRecDepth 100000 in
set_option maxHeartbeats 4000000 in
theorem each1_nil_in (F : Fence) (n : Nat) (h7 : F.fn 77) (hro : F.round = none) (l B1 B2 B3 : Nat) (a : Option Addr) (cap : Nat) (from_ level : Int) (J : List Nat → World → Prop) (W : World) (hB1 : W.cell? ⟨B1, 0, none⟩ = some (.int .i64 from_)) (hB2 : W.cell? ⟨B2, 0, none⟩ = some (.slice a 0 cap)) (h0 : J [] W) :
    CallsIn F n Try.prog 77 #[.func (.yield l) #[] #[], .pointer (some ⟨B1, 0, none⟩), .pointer (some ⟨B2, 0, none⟩), .pointer (some ⟨B3, 0, none⟩)] W fun e W' => (∃ v, e = .returned v) ∧ J [] W' := by
  refine callsIn_of_wp Try.func77 rfl h7 ?_ hro
  simp only [Try.ntmps77, List.size_toArray, List.length_cons, List.length_nil, Nat.reduceAdd, Nat.reduceSub, Array.replicate_succ, Array.replicate_zero, List.push_toArray, List.append_toArray, List.nil_append, List.cons_append]
  gi_wp2
  all_goals
    gi_loopw [5] (fun i wr => ∃ m : Int, i = .int .i64 m ∧ 0 ≤ m ∧ J [] wr ∧ wr = W) (fun _ _ => 0)
    case atStart => exact ⟨_, rfl, by omega, h0, rfl⟩
    case round =>
      obtain ⟨m, rfl, hm, hJs, rfl⟩ := hrel
      have hlt : ¬ m < 0 := by omega
      gi_wp2
      go_end0
      exact ⟨⟨_, rfl⟩, hJs⟩
set_option maxHeartbeats 1000000 in
theorem each_in (F : Fence) (n : Nat) (h5 : F.fn 54) (hro : F.round = none) (a : Option Addr) (len cap : Nat) (from_ level : Int) (w : World) :
    CallsIn F n Try.prog 54 #[.slice a len cap, .int .i64 from_, .int .i64 level] w fun e w' => e = .returned (.func (.func 77) #[] #[.pointer (some ⟨w.heap.size + 1, 0, none⟩), .pointer (some ⟨w.heap.size, 0, none⟩), .pointer (some ⟨w.heap.size + 1 + 1, 0, none⟩)]) ∧ w' = ((w.alloc (.cells #[.slice a len cap] 22)).alloc (.cells #[.int .i64 from_] 3)).alloc (.cells #[.int .i64 level] 3) := by
  refine callsIn_of_wp Try.func54 rfl h5 ?_ hro
  simp only [Try.ntmps54, List.size_toArray, List.length_cons, List.length_nil, Nat.reduceAdd, Nat.reduceSub, Array.replicate_succ, Array.replicate_zero, List.push_toArray, List.append_toArray, List.nil_append, List.cons_append]
  gi_wp2
  go_ret
  exact ⟨rfl, rfl⟩
theorem Ints.up {n₀ n₁ : Nat} (h : n₀ ≤ n₁) {A : World} {sv : Value} {zs : List Int} : Ints n₀ A sv zs → Ints n₁ A sv zs
  | .inl e => .inl e
  | .inr ⟨b, off, cap, e, hb, hc⟩ => .inr ⟨b, off, cap, e, by omega, hc⟩
theorem bxK_b {c n₀ : Nat} {w : World} (hn : n₀ ≤ w.heap.size) (W : World) (l : Nat) (o o' : Obj) (hl : w.heap.size ≤ l) (h : W.heap[l]? = some o) (_ : o.isCells = false) (_ : o.isWalk = false) : BX c n₀ W (W.putObj l o') := fun k hk _ =>
  World.putObj_heap_other (by omega)
theorem _root_.Go.World.ownsRow.base_le {w : World} {b b' : Nat} {e : TypeId} {size : Nat} {v : Value} {n : Nat} {xs : List Value} (h : w.ownsRow b e size v n xs) (hb : b' ≤ b) : w.ownsRow b' e size v n xs :=
  ⟨h.1, h.2.imp id (fun ⟨g, cap, cur, h1, h2, h3⟩ => ⟨g, cap, cur, h1, Nat.le_trans hb h2, h3⟩)⟩
theorem drewOf {β : Type} {B : Nat} {J : β → World → Prop} (h : AbidesFrom B J) : ∀ s W, J s W → J s W.drew := fun s W hs =>
  h s W W.drew none hs ⟨rfl, rfl, rfl, Nat.le_refl _, fun _ _ _ => rfl⟩ (fun r e => by cases e)
theorem each_stops (F : Fence) (n : Nat) (h7 : F.fn 77) (hro : F.round = none) (hn : 1 ≤ n) (B1 B2 B3 n₀ c : Nat) (sv : Value) (zs : List Int) (from_ level : Int) (hf : from_ ≤ 9223372036854775807) (hreach : zs.length ≤ 1000000) (w : World) (h1 : B1 < n₀) (h2 : B2 < n₀) (h3 : B3 < n₀) (hn₀ : n₀ ≤ w.heap.size) (h1c : B1 ≠ c) (h2c : B2 ≠ c) (h3c : B3 ≠ c) (hcn : c ≤ n₀)
    (c1 : w.cell? ⟨B1, 0, none⟩ = some (.int .i64 from_)) (c2 : w.cell? ⟨B2, 0, none⟩ = some sv) (c3 : w.cell? ⟨B3, 0, none⟩ = some (.int .i64 level)) (hI : Ints c w sv zs) :
    SeqStopsK F n Try.prog 77 #[.pointer (some ⟨B1, 0, none⟩), .pointer (some ⟨B2, 0, none⟩), .pointer (some ⟨B3, 0, none⟩)] (fun x : Nat => #[Value.int .i64 (x : Int)]) (BX c n₀) (fun ys => ys = pl zs from_ level zs.length) (fun pre => pre <+: pl zs from_ level zs.length) zs.length w := fun l J Jx W hW hJ _ hY h0 => by
  have c1' := (hW.cell (p := ⟨B1, 0, none⟩) (Nat.lt_of_lt_of_le h1 hn₀)).trans c1
  have c2' := (hW.cell (p := ⟨B2, 0, none⟩) (Nat.lt_of_lt_of_le h2 hn₀)).trans c2
  have c3' := (hW.cell (p := ⟨B3, 0, none⟩) (Nat.lt_of_lt_of_le h3 hn₀)).trans c3
  rcases hI.below (hW.mono (Nat.le_trans hcn hn₀)) with ⟨⟨a, cap, rfl⟩, rfl⟩ | ⟨b, off, cap, rfl, hb, hcs⟩
  · exact (each1_nil_in F n h7 hro l B1 B2 B3 a cap from_ level J W c1' c2' h0).mono fun e W' ⟨he, hj⟩ => ⟨he, .inl ⟨_, rfl, hj⟩⟩
  · exact each1_in F n h7 hro hn l B1 B2 B3 n₀ c b off cap zs from_ level hf hreach (by omega) h1 h2 h3 hb h1c h2c h3c J Jx (drewOf hJ) hY W c1' c2' c3' hcs h0
theorem heap_set_other (W : World) (c : Nat) (o : Nat) (v : Value) (k : Nat) (h : k ≠ c) : (W.setCell ⟨c, o, none⟩ v).heap[k]? = W.heap[k]? := by
  unfold World.setCell
  simp [Array.getElem?_modify, Ne.symm h]
theorem BX.set (c B : Nat) (W : World) (v : Value) : BX c B W (W.setCell ⟨c, 0, none⟩ v) := fun k _ hne => heap_set_other W c 0 v k hne
theorem boxed_appended {W w1 : World} {n1 B : Nat} {t e : TypeId} {size : Nat} {v v' : Value} {k m : Nat} {xs ys : List Value} {tmp : Obj}
    (hv : Boxed W B t v) (hte : t ≠ e) (hrow : W.ownsRow n1 e size v k xs) (hn1 : n1 ≤ W.heap.size) (hB : B < n1)
    (hown' : w1.ownsRow n1 e size v' m ys) (hgrow : (W.alloc tmp).grownBy w1 v.ownBlock) :
    Boxed w1 B t v ∧ Boxed (w1.setCell ⟨B, 0, none⟩ v') B t v' ∧ (w1.setCell ⟨B, 0, none⟩ v').ownsRow n1 e size v' m ys ∧ KeepsOthers W (w1.setCell ⟨B, 0, none⟩ v') ∧ BX B n1 W (w1.setCell ⟨B, 0, none⟩ v') ∧ ∀ n₀, n₀ ≤ B → Below n₀ W (w1.setCell ⟨B, 0, none⟩ v') := by
  have hv1 : Boxed w1 B t v := (hv.alloc tmp).kept hgrow (hv.not_row hte hrow)
  have hge : ∀ j, v.ownBlock = some j → n1 ≤ j := fun j ej => by
    rcases hrow.2 with ⟨rfl, _⟩ | ⟨g, cap, cur, rfl, hb, _, _⟩
    · simp [Value.ownBlock] at ej
    · obtain rfl : g = j := by simpa [Value.ownBlock] using ej
      exact hb
  refine ⟨hv1, hv1.set v', hown'.kept (grownBy_setCell' w1 B v') (.inr (hv1.not_row hte hown').symm), ?_, fun b hb hne => ?_, fun n₀ h0 => ?_⟩
  · refine ((KeepsOthers.alloc W tmp).trans (KeepsOthers.of_grownBy hgrow fun j o ej hj => ?_)).trans (KeepsOthers.setCell _ _ _)
    rcases (hrow.alloc tmp).2 with ⟨rfl, _⟩ | ⟨g, cap, cur, rfl, _, hgb, _⟩
    · simp [Value.ownBlock] at ej
    · obtain rfl : g = j := by simpa [Value.ownBlock] using ej
      rw [hgb] at hj; cases hj; rfl
  · rw [heap_set_other _ _ _ _ _ hne, hgrow.block b (by simp; omega) (fun ej => by have := hge b ej.symm; omega), Below.heap_alloc _ _ _ (by omega)]
  · exact (((Below.refl n₀ W).alloc (by omega) tmp).grown hgrow (by simp; omega) fun j ej => by have := hge j ej; omega).setCell (p := ⟨B, 0, none⟩) h0 v'
theorem wrap_in' (x : Int) (h : -9223372036854775808 ≤ x ∧ x ≤ 9223372036854775807) : wrap64 x = x := by
  unfold wrap64; omega
theorem infoInt : (Try.prog.info? 3).map (fun i => (i.zero, i.size, i.bytes)) = some (some (.int .i64 0), 1, 8) := by kernel_rfl
set_option maxRecDepth 100000 in
set_option maxHeartbeats 4000000 in
theorem count_in (F : Fence) (n : Nat) (h3 : F.fn 19) (h5 : F.fn 54) (h6 : F.fn 77) (hro : F.round = none) (hn : 3 ≤ n) (a : Option Addr) (len cap : Nat) (zs : List Int) (level : Int) (hreach : zs.length ≤ 1000000) (w : World) (hI : Ints w.heap.size w (.slice a len cap) zs) :
    CallsIn F n Try.prog 19 #[.slice a len cap, .int .i64 level] w fun e W' => e = .returned (.int .i64 ((pl zs 0 level zs.length).length : Int)) ∧ Below w.heap.size w W' := by
  have h1 : 1 ≤ n := by omega
  have hpl := pl_len zs 0 level zs.length
  refine callsIn_of_wp_marks Try.func19 rfl h3 ?_ hro
  simp only [Try.ntmps19, List.size_toArray, List.length_cons, List.length_nil, Nat.reduceAdd, Nat.reduceSub, Array.replicate_succ, Array.replicate_zero, List.push_toArray, List.append_toArray, List.nil_append, List.cons_append]
  gi_wp2_with (gi_at_call 54; refine (each_in F (n - 1) h5 hro _ _ _ _ _ _).mono ?_; rintro e w' ⟨rfl, rfl⟩)
  have bS := Boxed.new w 3 (.int .i64 0)
  have b2 := Boxed.new (w.alloc (.cells #[.int .i64 0] 3)) 22 (.slice a len cap)
  have b1 := Boxed.new ((w.alloc (.cells #[.int .i64 0] 3)).alloc (.cells #[.slice a len cap] 22)) 3 (.int .i64 0)
  have b3 := Boxed.new (((w.alloc (.cells #[.int .i64 0] 3)).alloc (.cells #[.slice a len cap] 22)).alloc (.cells #[.int .i64 0] 3)) 3 (.int .i64 level)
  simp only [World.size_alloc] at b1 b2 b3
  have hB0 : Below w.heap.size w ((((w.alloc (.cells #[.int .i64 0] 3)).alloc (.cells #[.slice a len cap] 22)).alloc (.cells #[.int .i64 0] 3)).alloc (.cells #[.int .i64 level] 3)) := (((((Below.refl _ w).alloc (Nat.le_refl _) _).alloc (by simp) _).alloc (by simp; omega) _).alloc (by simp; omega) _)
  refine wpIn_rangeFunc_ownG hro h1 (gf := 77) (lb := #[.pointer (some ⟨w.heap.size + 1 + 1, 0, none⟩), .pointer (some ⟨w.heap.size + 1, 0, none⟩), .pointer (some ⟨w.heap.size + 1 + 1 + 1, 0, none⟩)]) rfl h6 (enters_of Try.func77 (by kernel_rfl) rfl)
    (each_stops F (n - 1) h6 hro (by omega) (w.heap.size + 1 + 1) (w.heap.size + 1) (w.heap.size + 1 + 1 + 1) (w.heap.size + 1 + 1 + 1 + 1) w.heap.size _ zs 0 level (by omega) hreach _ (by omega) (by omega) (by omega) (by simp) (by omega) (by omega) (by omega) (by omega) (b1.alloc _).cell ((b2.alloc _).alloc _).cell b3.cell (hI.below hB0)) BX.trans (bxK_b (by simp)) (Below.refl _ _) (fun _ => rfl)
    (fun pre W => (W.cell? ⟨w.heap.size, 0, none⟩ = some (.int .i64 (pre.length : Int)) ∧ W.frozen? ⟨w.heap.size, 0, none⟩ = false) ∧ Below w.heap.size w W)
    (fun _ _ _ => False)
    (OwnFrom.and (Own.from (fun s A B row hs hg hr => ⟨cell_kept hs.1 hg hr, (frozen_kept hs.1 hg hr).trans hs.2⟩) _) (ownFrom_below (Nat.le_refl _) (by simp; omega)))
    (fun _ _ _ _ _ hs _ _ => hs)
    ⟨⟨(((bS.alloc _).alloc _).alloc _).cell, (((bS.alloc _).alloc _).alloc _).frozen⟩, hB0⟩
    (fun x => { tmps := #[.slice a len cap, .int .i64 level, undef, undef, .int .i64 0, .pointer (some ⟨w.heap.size, 0, none⟩), .slice a len cap, .int .i64 level, .func (.func 77) #[] #[.pointer (some ⟨w.heap.size + 1 + 1, 0, none⟩), .pointer (some ⟨w.heap.size + 1, 0, none⟩), .pointer (some ⟨w.heap.size + 1 + 1 + 1, 0, none⟩)], .int .i64 (x : Int), undef, undef, undef], defers := [] }) ?assign ?body ?done ?stop
  case assign =>
    intro l x W K hK
    gi_wp2
    simpa [Array.zip, List.zipWith_toArray] using hK
  case body =>
    rintro l pre x W ⟨⟨hc, hf⟩, hB⟩ hlt
    have hwr := wrap_in' ((pre.length : Int) + 1) (by omega)
    gi_wp2
    exact ⟨(KeepsOthers.setCell _ _ _).from _, BX.set _ _ _ _, ⟨by rw [List.length_append]; exact World.cell?_setCell_same' _ _ _ (by rw [hc]; rfl), by rw [World.frozen?_setCell]; exact hf⟩, hB.setCell (p := ⟨w.heap.size, 0, none⟩) (Nat.le_refl _) _⟩
  case done =>
    rintro D ys W hD rfl ⟨⟨hc, _⟩, hB⟩ hK
    gi_wp2
    refine ⟨by simp, .inl ⟨_, _, rfl, run_takeDeferred hK, ?_⟩⟩
    exact ⟨_, results_tmp rfl _ _ _, rfl, hB.trans (belowK_b (w := w) (Nat.le_refl _) W D _ _ (by simp at hD; omega) hK rfl rfl)⟩
  case stop =>
    rintro D c pre W _ _ h _
    exact h.elim
set_option maxRecDepth 100000 in
set_option maxHeartbeats 4000000 in
theorem places_in (F : Fence) (n : Nat) (h3 : F.fn 18) (h5 : F.fn 54) (h6 : F.fn 77) (hro : F.round = none) (hn : 3 ≤ n) (a : Option Addr) (len cap : Nat) (zs : List Int) (from_ level : Int) (hf : from_ ≤ 9223372036854775807) (hreach : zs.length ≤ 1000000) (w : World) (hI : Ints w.heap.size w (.slice a len cap) zs) :
    CallsIn F n Try.prog 18 #[.slice a len cap, .int .i64 from_, .int .i64 level] w fun e W' => ∃ v, e = .returned v ∧ W'.ownsRow w.heap.size 3 1 v (pl zs from_ level zs.length).length ((pl zs from_ level zs.length).map (fun x : Nat => Value.int .i64 (x : Int))) ∧ Below w.heap.size w W' := by
  have h1 : 1 ≤ n := by omega
  have hpl := pl_len zs from_ level zs.length
  obtain ⟨i0, hi, hz0, hz1, hz2⟩ := info_parts infoInt
  refine callsIn_of_wp_marks Try.func18 rfl h3 ?_ hro
  simp only [Try.ntmps18, List.size_toArray, List.length_cons, List.length_nil, Nat.reduceAdd, Nat.reduceSub, Array.replicate_succ, Array.replicate_zero, List.push_toArray, List.append_toArray, List.nil_append, List.cons_append]
  gi_wp2_with (gi_at_call 54; refine (each_in F (n - 1) h5 hro _ _ _ _ _ _).mono ?_; rintro e w' ⟨rfl, rfl⟩)
  have bS := Boxed.new w 22 (.slice none 0 0)
  have b2 := Boxed.new (w.alloc (.cells #[.slice none 0 0] 22)) 22 (.slice a len cap)
  have b1 := Boxed.new ((w.alloc (.cells #[.slice none 0 0] 22)).alloc (.cells #[.slice a len cap] 22)) 3 (.int .i64 from_)
  have b3 := Boxed.new (((w.alloc (.cells #[.slice none 0 0] 22)).alloc (.cells #[.slice a len cap] 22)).alloc (.cells #[.int .i64 from_] 3)) 3 (.int .i64 level)
  simp only [World.size_alloc] at b1 b2 b3
  have hB0 : Below w.heap.size w ((((w.alloc (.cells #[.slice none 0 0] 22)).alloc (.cells #[.slice a len cap] 22)).alloc (.cells #[.int .i64 from_] 3)).alloc (.cells #[.int .i64 level] 3)) := (((((Below.refl _ w).alloc (Nat.le_refl _) _).alloc (by simp) _).alloc (by simp; omega) _).alloc (by simp; omega) _)
  refine wpIn_rangeFunc_ownG hro h1 (gf := 77) (lb := #[.pointer (some ⟨w.heap.size + 1 + 1, 0, none⟩), .pointer (some ⟨w.heap.size + 1, 0, none⟩), .pointer (some ⟨w.heap.size + 1 + 1 + 1, 0, none⟩)]) rfl h6 (enters_of Try.func77 (by kernel_rfl) rfl)
    (each_stops F (n - 1) h6 hro (by omega) (w.heap.size + 1 + 1) (w.heap.size + 1) (w.heap.size + 1 + 1 + 1) (w.heap.size + 1 + 1 + 1 + 1) w.heap.size _ zs from_ level hf hreach _ (by omega) (by omega) (by omega) (by simp) (by omega) (by omega) (by omega) (by omega) (b1.alloc _).cell ((b2.alloc _).alloc _).cell b3.cell (hI.below hB0)) BX.trans (bxK_b (by simp)) (Below.refl _ _) (fun _ => rfl)
    (fun pre W => (∃ v, Boxed W w.heap.size 22 v ∧ W.ownsRow (w.heap.size + 1 + 1 + 1 + 1) 3 1 v pre.length (pre.map (fun x : Nat => Value.int .i64 (x : Int))) ∧ (v = .slice none 0 0 ↔ pre = [])) ∧ Below (w.heap.size + 1 + 1 + 1 + 1 - 4) w W ∧ w.heap.size + 1 + 1 + 1 + 1 ≤ W.heap.size)
    (fun _ _ _ => False)
    (OwnFrom.and (Own.from (holdsRow_own (w.heap.size + 1 + 1 + 1 + 1) w.heap.size 22 3 1 (fun pre : List Nat => pre.length) (fun pre : List Nat => pre.map (fun x : Nat => Value.int .i64 (x : Int))) (fun pre v => v = .slice none 0 0 ↔ pre = [])) _) (OwnFrom.and (ownFrom_below (by omega) (by simp; omega)) (fun s W W' row h hg _ => Nat.le_trans h hg.size)))
    (fun _ _ _ _ _ hs _ _ => hs)
    ⟨⟨_, ((bS.alloc _).alloc _).alloc _, World.ownsRow_nil _ _ _ _, by simp⟩, hB0.mono (by omega), by simp⟩
    (fun x => { tmps := #[.slice a len cap, .int .i64 from_, .int .i64 level, undef, undef, undef, .slice none 0 0, .pointer (some ⟨w.heap.size, 0, none⟩), .int .i64 (x : Int), .slice a len cap, .int .i64 from_, .int .i64 level, .func (.func 77) #[] #[.pointer (some ⟨w.heap.size + 1 + 1, 0, none⟩), .pointer (some ⟨w.heap.size + 1, 0, none⟩), .pointer (some ⟨w.heap.size + 1 + 1 + 1, 0, none⟩)], .int .i64 (x : Int), undef, undef, undef, undef, undef], defers := [] }) ?assign ?body ?done ?stop
  case assign =>
    intro l x W K hK
    gi_wp2
    simpa [Array.zip, List.zipWith_toArray] using hK
  case body =>
    rintro l pre x W ⟨⟨v, hv, hrow, hnil⟩, hB, hsz⟩ hlt
    have hc := hv.cell
    gi_wp2_with (gi_at_builtin; refine wpListIn_append_own _ rfl _ _ 22 rfl (w.heap.size + 1 + 1 + 1 + 1) 3 i0 (.int .i64 0) 1 8 Try.underlying22 hi hz0 hz1 hz2 rfl (by decide) _ _ _ rfl (hrow.alloc _) ⟨W.heap.size, 0, none⟩ 1 1 [.int .i64 (x : Int)] rfl rfl (cell_one_new _ _ _) (by simp [Value.oneCell']) (by unfold maxLen; omega) (by omega) (by simp; omega) ?_; intro v' w1 hown' hgrow _; obtain ⟨g', cap', rfl⟩ := ownsRow_succ hown'; obtain ⟨hv1, hv2, hr2, hk2, hx2, hb2⟩ := boxed_appended hv (by decide) hrow hsz (by omega) hown' hgrow; have hc1 := hv1.cell; have hf1 := hv1.frozen)
    exact ⟨hk2.from _, hx2, ⟨_, hv2, by simpa using hr2, by simp⟩, hB.trans (hb2 _ (by omega)), Nat.le_trans hsz (hb2 0 (by omega)).size⟩
  case done =>
    rintro D ys W hD rfl ⟨⟨v, hv, hrow, hnil⟩, hB, hsz⟩ hK
    have hc := hv.cell
    gi_wp2
    refine ⟨by simp, .inl ⟨_, _, rfl, run_takeDeferred hK, ?_⟩⟩
    exact ⟨_, results_tmp rfl _ _ _, v, rfl, (ownsRow_putObj hrow _ hK rfl).base_le (by omega), (hB.mono (by omega)).trans (belowK_b (w := w) (Nat.le_refl _) W D _ _ (by simp at hD; omega) hK rfl rfl)⟩
  case stop =>
    rintro D c pre W _ _ h _
    exact h.elim
end Go.Av.Up
