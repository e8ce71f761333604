/- append. -/
import Derived.Test.YtofomnllcmgfeaaAv6
set_option linter.unusedVariables false
set_option linter.unusedSimpArgs false
namespace Go.Av
open Go

variable {P : Program} {w : World} {E : Env} {ob : List Ob}

theorem zero_of_ok {e : TypeId} {z : Value} (h : (P.info? e).bind (·.zero) = some z) : ∃ i, P.info? e = some i ∧ i.zero = some z := by
  cases hi : P.info? e with
  | none => simp [hi] at h
  | some i => exact ⟨i, rfl, by simpa [hi] using h⟩

theorem row_of_list {ms : List M} {vs : List Value} (hl : ms.length ≤ vs.length) (h : ∀ (j : Nat) (m : M) (v : Value), ms[j]? = some m → vs[j]? = some v → one1 v = true ∧ RepM w E ob m v) : Row w E ob ms vs.toArray := by
  intro j m hm
  have hj := (List.getElem?_eq_some_iff.1 hm).1
  have hv : vs[j]? = some (vs[j]'(by omega)) := List.getElem?_eq_getElem (by omega)
  obtain ⟨h1, h2⟩ := h j m _ hm hv
  exact ⟨_, by simp, h1, h2⟩
theorem getElem?_range_map (n : Nat) (f : Nat → Value) (j : Nat) : ((List.range n).map f)[j]? = if j < n then some (f j) else none := by
  by_cases h : j < n
  · rw [if_pos h]; simp [h]
  · rw [if_neg h, List.getElem?_eq_none (by simp; omega)]

/-- What is appended. -/
theorem sound_news (hh : HeapOK w E ob) {sz : Nat} {tx : TypeId} {x : M} {y : Value} {ns : List M} {n' : Nat} (hx : RepM w E ob x y) (ht : isSrcT P tx x = true) (h : newsM ob sz x = some (ns, n')) :
    ∃ news : List Value, Src P sz tx y n' news w ∧ ns.length = news.length ∧ Row w E ob ns news.toArray := by
  unfold newsM at h
  split at h
  · simp only [Option.some.injEq, Prod.mk.injEq] at h
    obtain ⟨rfl, rfl⟩ := h
    cases hx with
    | c hc =>
      cases hc
      have hk : ∃ e', P.underlying tx = some (.slice e') := by
        unfold isSrcT at ht
        split at ht <;> first | exact ⟨_, by assumption⟩ | simp_all
      obtain ⟨e', hk⟩ := hk
      exact ⟨[], Src.ofNil w hk 0, rfl, fun j m hm => by simp at hm⟩
  · rename_i s
    split at h
    · rename_i hs
      subst hs
      simp only [Option.some.injEq, Prod.mk.injEq] at h
      obtain ⟨rfl, rfl⟩ := h
      have hk : P.underlying tx = some .string := by
        unfold isSrcT at ht
        split at ht <;> simp_all
      cases hx with
      | c hc =>
        cases hc
        refine ⟨byteCells s, Src.ofString w hk s, by simp [up, byteCells, toList_data], row_of_list (by simp [up, byteCells, toList_data]) (fun j m v hm hv => ?_)⟩
        simp only [up, List.map_map, toList_data, List.getElem?_map, byteCells] at hm hv
        obtain ⟨b, hb, rfl⟩ := Option.map_eq_some_iff.1 hm
        rw [hb] at hv
        obtain rfl := Option.some.inj hv
        exact ⟨rfl, .c (.v _)⟩
    · simp at h
  · rename_i cs n full
    split at h
    · rename_i hl
      simp only [Option.some.injEq, Prod.mk.injEq] at h
      obtain ⟨rfl, rfl⟩ := h
      have hk : ∃ e', P.underlying tx = some (.slice e') := by
        unfold isSrcT at ht
        split at ht <;> first | exact ⟨_, by assumption⟩ | simp_all
      obtain ⟨e', hk⟩ := hk
      cases hx with
      | c hc =>
        cases hc with
        | nl full =>
          exact ⟨[], Src.ofNil w hk 0, rfl, fun j m hm => by simp [up] at hm⟩
        | sl cs n full a cap ys hf hn h1 h2 =>
          have hat : ∀ j, j < n * sz → ∃ c, cs[j]? = some c := fun j hj => ⟨_, List.getElem?_eq_getElem (show j < cs.length by omega)⟩
          refine ⟨(List.range (n * sz)).map ys, Src.ofSlice w hk a n cap _ (by simp) (fun j u hu => ?_) (fun u hu => ?_), by simp [up, hl], row_of_list (by simp [up, hl]) (fun j m v hm hv => ?_)⟩
          · rw [getElem?_range_map] at hu
            split at hu
            · rename_i hj
              obtain rfl := Option.some.inj hu
              obtain ⟨c, hc⟩ := hat j hj
              exact (h1 j c hc).2.2
            · simp at hu
          · simp only [List.mem_map, List.mem_range] at hu
            obtain ⟨j, hj, rfl⟩ := hu
            obtain ⟨c, hc⟩ := hat j hj
            exact (h1 j c hc).2.1
          · rw [getElem?_range_map] at hv
            split at hv
            · obtain rfl := Option.some.inj hv
              simp only [up, List.getElem?_map] at hm
              obtain ⟨c, hc, rfl⟩ := Option.map_eq_some_iff.1 hm
              exact ⟨(h1 j c hc).2.1, .c (h2 j c hc)⟩
            · simp at hv
    · simp at h
  · rename_i i g off n
    have hk : ∃ e', P.underlying tx = some (.slice e') := by
      unfold isSrcT at ht
      split at ht <;> first | exact ⟨_, by assumption⟩ | simp_all
    obtain ⟨e', hk⟩ := hk
    split at h
    · rename_i o hl
      cases hx with
      | ms hq =>
        obtain ⟨ho, hit, hg, r1, r2⟩ := live_ok hq hl
        cases hn : o.nil with
        | true =>
          rw [hn] at h
          simp only [if_true, Option.some.injEq, Prod.mk.injEq] at h
          obtain ⟨rfl, rfl⟩ := h
          obtain ⟨rfl, rfl, rfl⟩ := r1 hn
          exact ⟨[], Src.ofNil w hk 0, rfl, fun j m hm => by simp at hm⟩
        | false =>
          rw [hn] at h
          simp only [Bool.false_eq_true, if_false] at h
          split at h
          · rename_i hle
            simp only [Option.some.injEq, Prod.mk.injEq] at h
            obtain ⟨rfl, rfl⟩ := h
            obtain ⟨cap, rfl, hc1, hc2⟩ := r2 hn
            have hobj := hh.obj i o ho
            unfold ObOK at hobj
            rw [hit] at hobj
            obtain ⟨arr, lo, hi, hblk, hfz, hsz, hrow⟩ := hobj.2 hn
            have hlen := hrow.len
            have hat : ∀ j, j < n * sz → ∃ z, arr[off + j]? = some z ∧ one1 z = true := fun j hj => by
              obtain ⟨z, hz, h1z, _⟩ := hrow (off + j) _ (List.getElem?_eq_getElem (show off + j < o.cs.length by omega))
              exact ⟨z, hz, h1z⟩
            refine ⟨(List.range (n * sz)).map (fun j => arr.getD (off + j) undef), Src.ofSlice w hk _ n cap _ (by simp) (fun j u hu => ?_) (fun u hu => ?_), by simp; omega, row_of_list (by simp; omega) (fun j m v hm hv => ?_)⟩
            · rw [getElem?_range_map] at hu
              split at hu
              · rename_i hj
                obtain rfl := Option.some.inj hu
                obtain ⟨z, hz, _⟩ := hat j hj
                rw [add_obj, Array.getD_eq_getD_getElem?, hz]
                simp [World.cell?, hblk, hz]
              · simp at hu
            · simp only [List.mem_map, List.mem_range] at hu
              obtain ⟨j, hj, rfl⟩ := hu
              obtain ⟨z, hz, h1z⟩ := hat j hj
              rw [Array.getD_eq_getD_getElem?, hz]
              exact h1z
            · rw [getElem?_range_map] at hv
              rw [getElem?_take_drop] at hm
              split at hm
              · rename_i hj
                rw [if_pos hj] at hv
                obtain rfl := Option.some.inj hv
                obtain ⟨z, hz, h1z, hrz⟩ := hrow (off + j) m hm
                rw [Array.getD_eq_getD_getElem?, hz]
                exact ⟨h1z, hrz⟩
              · simp at hm
          · simp at h
    · simp at h
  · simp at h

theorem slice_of_live {i g off n : Nat} {y : Value} {o : Ob} (hq : SlOK E ob i g off n y) (hl : liveS ob i g = some o) (hh : HeapOK w E ob) (hn : o.nil = false) :
    ∃ cap arr lo hi, y = .slice (some ⟨E.blk i, off, none⟩) n cap ∧ n ≤ cap ∧ off + cap * o.sz ≤ E.asz i ∧ w.heap[E.blk i]? = some (.cells arr o.ty (lo, hi)) ∧ (∀ j, j < arr.size → ¬ (lo ≤ j ∧ j < hi)) ∧ arr.size = E.asz i ∧ Row w E ob o.cs arr := by
  obtain ⟨ho, hit, hg, r1, r2⟩ := live_ok hq hl
  obtain ⟨cap, rfl, hc1, hc2⟩ := r2 hn
  have hobj := hh.obj i o ho
  unfold ObOK at hobj
  rw [hit] at hobj
  obtain ⟨arr, lo, hi, hblk, hfz, hsz, hrow⟩ := hobj.2 hn
  exact ⟨cap, arr, lo, hi, rfl, hc1, hc2, hblk, hfz, hsz, hrow⟩

theorem row_append {ms ns : List M} {a b : List Value} (h1 : Row w E ob ms a.toArray) (h2 : Row w E ob ns b.toArray) (hl : ms.length = a.length) (c : Array Value) : Row w E ob (ms ++ ns) ((a ++ b).toArray ++ c) := by
  intro j m hm
  by_cases hj : j < ms.length
  · rw [List.getElem?_append_left hj] at hm
    obtain ⟨y, hy, q1, q2⟩ := h1 j m hm
    refine ⟨y, ?_, q1, q2⟩
    rw [Array.getElem?_append_left (by simp; omega)]
    simp only [List.getElem?_toArray] at hy ⊢
    rw [List.getElem?_append_left (by omega)]
    exact hy
  · rw [List.getElem?_append_right (by omega)] at hm
    obtain ⟨y, hy, q1, q2⟩ := h2 _ m hm
    simp only [List.getElem?_toArray] at hy
    have hlt := (List.getElem?_eq_some_iff.1 hy).1
    refine ⟨y, ?_, q1, q2⟩
    rw [Array.getElem?_append_left (by simp; omega)]
    simp only [List.getElem?_toArray]
    rw [List.getElem?_append_right (by omega), ← hl]
    exact hy

theorem of_ite {α : Type} {c : Prop} [Decidable c] {x : Option α} {y : α} (h : (if c then x else none) = some y) : c ∧ x = some y := by
  split at h
  · exact ⟨by assumption, h⟩
  · simp at h

/-- An append that makes a new block of an object. -/
theorem grows {t tx ty e : TypeId} {ti : TypeInfo} {z b : Value} {base : Option Addr} {n cap n' : Nat} {olds news : List Value} (hu : P.underlying t = some (.slice e)) (hti : P.info? e = some ti) (hz0 : ti.zero = some z)
    (hold : (Builtin.firstCells ti.size n (.slice base n cap)).run P w.drew = .ok olds.toArray w.drew) (hS : Src P ti.size tx b n' news w) (hg : cap < n + n') (hb : (n + n') * ti.bytes ≤ roomB) (hr : ((n + n' : Nat) : Int) ≤ 9223372036854775807) :
    ∃ (w' : World) (cap' : Nat) (rest : Array Value), (Builtin.append_ #[t, tx] ty #[.slice base n cap, b]).run P w = .ok (.slice (some ⟨w.heap.size, 0, none⟩) (n + n') cap') w' ∧ n + n' ≤ cap' ∧ rest.size = (cap' - (n + n')) * z.cells.size ∧
      w'.os = w.os ∧ w'.tape = w.tape ∧ w'.output = w.output ∧ w'.heap = w.heap.push (.cells ((olds ++ news).toArray ++ rest) e (0, 0)) := by
  refine ⟨_, _, _, run_append_grow_src w t tx ty e ti z hu hti hz0 base n cap olds hold b n' news hS hg hr (growslice_fits hg hb), ?_, by simp [Builtin.zeroCells], rfl, rfl, rfl, rfl⟩
  unfold grownCap Question.cut
  exact Nat.le_add_right _ _

theorem mul_split {a b c k : Nat} (h : a + b ≤ c) : a * k + b * k + (c - (a + b)) * k = c * k := by
  rw [← Nat.add_mul, ← Nat.add_mul]
  congr 1
  omega

/-- append: what a state tells of it. -/
theorem sound_append (hh : HeapOK w E ob) {t tx ty : TypeId} {s x m : M} {a b : Value} {ob' : List Ob} (hs : RepM w E ob s a) (hx : RepM w E ob x b) (hz : ∀ e, P.underlying t = some (.slice e) → ∃ i z, P.info? e = some i ∧ i.zero = some z ∧ z.cells.size = szT P e)
    (h : appendM P ob t tx s x = some (m, ob')) : ∃ v w' E', (Builtin.append_ #[t, tx] ty #[a, b]).run P w = .ok v w' ∧ RepM w' E' ob' m v ∧ Step w E ob w' E' ob' := by
  unfold appendM at h
  split at h
  · rename_i e hu
    obtain ⟨ti, z, hti, hz0, hzs⟩ := hz e hu
    have hsize : ti.size = szT P e := by simp [szT, Program.cellsOf, hti]
    have hbytes : ti.bytes = P.bytesOf e := by simp [Program.bytesOf, hti]
    split at h
    · simp at h
    · rename_i hsrc
      split at h
      · simp at h
      · rename_i ns n' hns
        obtain ⟨news, hS, hnl, hrow'⟩ := sound_news (P := P) (tx := tx) hh hx (by simpa using hsrc) hns
        have hS' : Src P ti.size tx b n' news w := by rw [hsize]; exact hS
        have hnl' : news.length = n' * szT P e := hS.newsLen
        have room : ∀ k, 0 < P.bytesOf e → k * P.bytesOf e ≤ roomB → (k : Int) ≤ 9223372036854775807 := by
          intro k h0 h1
          have h2 : k * 1 ≤ k * P.bytesOf e := Nat.mul_le_mul_left _ h0
          have h3 : roomB = 140737488355328 := rfl
          omega
        split at h
        · rename_i i g off n
          split at h
          · rename_i o hl
            obtain ⟨hoff, h⟩ := of_ite h
            obtain ⟨hty, h⟩ := of_ite h
            obtain ⟨hsz, h⟩ := of_ite h
            obtain ⟨hfull, h⟩ := of_ite h
            obtain ⟨hb0, h⟩ := of_ite h
            obtain ⟨hroom, h⟩ := of_ite h
            simp only [Option.some.injEq, Prod.mk.injEq] at h
            obtain ⟨rfl, rfl⟩ := h
            subst hoff
            cases hs with
            | ms hq =>
              obtain ⟨ho, hit, hg, r1, r2⟩ := live_ok hq hl
              subst hg
              have hlt : i < ob.length := (List.getElem?_eq_some_iff.1 ho).1
              cases hnil : o.nil with
              | true =>
                obtain ⟨rfl, rfl, _⟩ := r1 hnil
                have hcs : o.cs = [] := by
                  have := hh.obj i o ho
                  unfold ObOK at this
                  rw [hit] at this
                  exact this.1 hnil
                by_cases hn0 : n' = 0
                · subst hn0
                  have hnews : news = [] := List.eq_nil_of_length_eq_zero (by omega)
                  subst hnews
                  have hns0 : ns = [] := List.eq_nil_of_length_eq_zero (by simpa using hnl)
                  subst hns0
                  have hstep := step_bump hh ho hnil hit
                  refine ⟨_, w, E, run_append_nothing w t tx ty e ti hu hti none 0 0 (Nat.le_refl _) b hS', ?_, ?_⟩
                  · refine .ms ⟨rfl, { o with gen := o.gen + 1 }, ?_, hit, Nat.le_refl _, fun _ => ⟨fun _ => ⟨rfl, rfl, rfl⟩, fun hf => ?_⟩⟩
                    · rw [getElem?_set, if_pos rfl, if_pos hlt]
                      simp [hnil, hcs]
                    · simp [hnil] at hf
                  · have e1 : ({ o with nil := true && (0 == 0), gen := o.gen + 1, cs := o.cs ++ [] } : Ob) = { o with gen := o.gen + 1 } := by simp [hnil, hcs]
                    rw [e1]
                    exact hstep
                · obtain ⟨w', cap', rest, hrun, hcap, hrest, a1, a2, a3, a4⟩ := grows (w := w) (base := none) (n := 0) (cap := 0) (olds := []) hu hti hz0 (by simpa using run_firstCells_none w.drew ti.size 0 0 0) hS' (by omega) (by rw [hbytes]; exact hroom) (room _ hb0 hroom)
                  have e0 : (n' == 0) = false := by simpa using hn0
                  have hmove := step_move hh ho hit (o.cs ++ ns) (o.gen + 1) (by omega) (([] ++ news).toArray ++ rest) e hty.symm (by
                    rw [hcs]
                    exact row_append (a := []) (fun j m hm => by simp at hm) hrow' rfl rest) a1 a2 a3 a4
                  refine ⟨_, w', { E with blk := upd E.blk i w.heap.size, asz := upd E.asz i (([] ++ news).toArray ++ rest).size }, hrun, ?_, ?_⟩
                  · refine .ms ⟨rfl, { o with nil := false, gen := o.gen + 1, cs := o.cs ++ ns }, ?_, hit, Nat.le_refl _, fun _ => ⟨fun hf => by simp at hf, fun _ => ⟨cap', by simp only [upd_same], hcap, ?_⟩⟩⟩
                    · rw [getElem?_set, if_pos rfl, if_pos hlt]
                      simp [e0]
                    · simp only [upd_same, Array.size_append, hrest, hzs, hsz]
                      have := mul_split (a := 0) (b := n') (c := cap') (k := szT P e) hcap
                      simp [hnl']
                      simp at this
                      omega
                  · rw [e0, Bool.and_false]
                    exact hmove
              | false =>
                obtain ⟨cap, arr, lo, hi, rfl, hc1, hc2, hblk, hfz, hasz, hrow⟩ := slice_of_live hq hl hh hnil
                have hlen := hrow.len
                rw [Bool.false_and]
                by_cases hfit : n + n' ≤ cap
                · have hcapsz : (n + n') * szT P e ≤ cap * szT P e := Nat.mul_le_mul_right _ hfit
                  rw [Nat.add_mul] at hcapsz
                  rw [hsz] at hc2
                  obtain ⟨w', hr, a1, a2, a3, a4, a5, cur', hc, hcs', hcj⟩ := store_cells (P := P) (E.blk i) o.ty lo hi news 0 (0 + n * ti.size) arr w hblk hfz (by rw [hsize]; omega) hS.one
                  have hrun : (Builtin.append_ #[t, tx] ty #[.slice (some ⟨E.blk i, 0, none⟩) n cap, b]).run P w = .ok (.slice (some ⟨E.blk i, 0, none⟩) (n + n') cap) w' := by
                    rcases hS'.kind with ⟨e', hk⟩ | hk <;> simp [Builtin.append_, run_underlying hu, run_underlying hk, sizeOf, typeInfo, hti, hS'.len, hfit, hS'.cells, Addr.add_lit, -Nat.zero_add, hr]
                  have hset := step_set hh ho hnil hit (o.cs ++ ns) (o.gen + 1) (by omega) cur' o.ty lo hi rfl (by
                    intro j m hm
                    rw [hcj j]
                    by_cases hj : j < o.cs.length
                    · rw [List.getElem?_append_left hj] at hm
                      rw [if_neg (by rw [hsize]; omega)]
                      exact hrow j m hm
                    · rw [List.getElem?_append_right (by omega)] at hm
                      have hm2 := (List.getElem?_eq_some_iff.1 hm).1
                      rw [if_pos (by rw [hsize]; omega)]
                      obtain ⟨y, hy, q1, q2⟩ := hrow' _ m hm
                      refine ⟨y, ?_, q1, q2⟩
                      rw [hsize, show j - (0 + n * szT P e + 0) = j - o.cs.length by omega]
                      simpa using hy) (fun j hj => hfz j (by omega)) (by omega) a1 a2 a3 a4 a5 hc
                  refine ⟨_, w', E, hrun, ?_, ?_⟩
                  · refine .ms ⟨rfl, { o with nil := false, gen := o.gen + 1, cs := o.cs ++ ns }, ?_, hit, Nat.le_refl _, fun _ => ⟨fun hf => by simp at hf, fun _ => ⟨cap, rfl, hfit, by simp only [hsz]; omega⟩⟩⟩
                    rw [getElem?_set, if_pos rfl, if_pos hlt]
                  · have e1 : ({ o with nil := false, gen := o.gen + 1, cs := o.cs ++ ns } : Ob) = { o with cs := o.cs ++ ns, gen := o.gen + 1 } := by rw [← hnil]
                    rw [e1]
                    exact hset
                · have holds : (Builtin.firstCells ti.size n (.slice (some ⟨E.blk i, 0, none⟩) n cap)).run P w.drew = .ok ((arr.toList.take (n * szT P e))).toArray w.drew := by
                    refine run_firstCells_some w.drew ti.size n ⟨E.blk i, 0, none⟩ n cap _ (by simp [hsize]; omega) (fun j v hv => ?_)
                    rw [List.getElem?_take] at hv
                    split at hv
                    · rw [add_obj]
                      simp only [Nat.zero_add]
                      show w.cell? _ = some v
                      simpa [World.cell?, hblk] using hv
                    · simp at hv
                  obtain ⟨w', cap', rest, hrun, hcap, hrest, a1, a2, a3, a4⟩ := grows (w := w) hu hti hz0 holds hS' (by omega) (by rw [hbytes]; exact hroom) (room _ hb0 hroom)
                  have hmove := step_move hh ho hit (o.cs ++ ns) (o.gen + 1) (by omega) ((arr.toList.take (n * szT P e) ++ news).toArray ++ rest) e hty.symm (by
                    refine row_append ?_ hrow' (by simp; omega) rest
                    intro j m hm
                    obtain ⟨y, hy, q1, q2⟩ := hrow j m hm
                    have hj := (List.getElem?_eq_some_iff.1 hm).1
                    refine ⟨y, ?_, q1, q2⟩
                    simp only [List.getElem?_toArray]
                    rw [List.getElem?_take_of_lt (by omega), Array.getElem?_toList]
                    exact hy) a1 a2 a3 a4
                  refine ⟨_, w', _, hrun, ?_, hmove⟩
                  refine .ms ⟨rfl, { o with nil := false, gen := o.gen + 1, cs := o.cs ++ ns }, ?_, hit, Nat.le_refl _, fun _ => ⟨fun hf => by simp at hf, fun _ => ⟨cap', by simp only [upd_same], hcap, ?_⟩⟩⟩
                  · rw [getElem?_set, if_pos rfl, if_pos hlt]
                  · simp only [upd_same, Array.size_append, hrest, hzs, hsz]
                    have := mul_split (a := n) (b := n') (c := cap') (k := szT P e) hcap
                    simp [hnl']
                    rw [Nat.min_eq_left (by omega)]
                    omega
          · simp at h
        · cases hs with
          | c hc =>
            cases hc
            split at h
            · rename_i hn0
              subst hn0
              simp only [Option.some.injEq, Prod.mk.injEq] at h
              obtain ⟨rfl, rfl⟩ := h
              have hnews : news = [] := List.eq_nil_of_length_eq_zero (by omega)
              subst hnews
              exact ⟨_, w, E, run_append_nothing w t tx ty e ti hu hti none 0 0 (Nat.le_refl _) b hS', .c (.v _), .refl hh⟩
            · rename_i hn0
              obtain ⟨hb0, h⟩ := of_ite h
              obtain ⟨hroom, h⟩ := of_ite h
              simp only [Option.some.injEq, Prod.mk.injEq] at h
              obtain ⟨rfl, rfl⟩ := h
              obtain ⟨w', cap', rest, hrun, hcap, hrest, a1, a2, a3, a4⟩ := grows (w := w) (base := none) (n := 0) (cap := 0) (olds := []) hu hti hz0 (by simpa using run_firstCells_none w.drew ti.size 0 0 0) hS' (by omega) (by rw [hbytes]; simpa using hroom) (by simpa using room _ hb0 hroom)
              have hrn : Row w E ob ns (([] ++ news).toArray ++ rest) := row_append (a := []) (ms := []) (fun j m hm => by simp at hm) hrow' rfl rest
              have hnew := step_new hh e (szT P e) ns (([] ++ news).toArray ++ rest) hrn 0 0 (fun j _ => by omega) a1 a2 a3 a4
              refine ⟨_, w', { E with blk := upd E.blk ob.length w.heap.size, asz := upd E.asz ob.length (([] ++ news).toArray ++ rest).size }, hrun, ?_, hnew⟩
              refine .ms ⟨rfl, { ty := e, sz := szT P e, nil := false, gen := 0, cs := ns }, by unfold newOb; rw [getElem?_snoc, if_neg (by omega), if_pos rfl], rfl, Nat.le_refl _, fun _ => ⟨fun hf => by simp at hf, fun _ => ⟨cap', by simp only [upd_same, Nat.zero_add], by omega, ?_⟩⟩⟩
              simp only [upd_same, Array.size_append, hrest, hzs]
              have := mul_split (a := 0) (b := n') (c := cap') (k := szT P e) hcap
              simp [hnl']
              simp at this
              omega
        · rename_i cs n
          cases hs with
          | c hc =>
            cases hc with
            | nl =>
              split at h
              · rename_i hn0
                subst hn0
                simp only [Option.some.injEq, Prod.mk.injEq] at h
                obtain ⟨rfl, rfl⟩ := h
                have hnews : news = [] := List.eq_nil_of_length_eq_zero (by omega)
                subst hnews
                exact ⟨_, w, E, run_append_nothing w t tx ty e ti hu hti none 0 0 (Nat.le_refl _) b hS', .c (.nl true), .refl hh⟩
              · rename_i hn0
                obtain ⟨hcl, h⟩ := of_ite h
                obtain ⟨hb0, h⟩ := of_ite h
                obtain ⟨hroom, h⟩ := of_ite h
                simp only [Option.some.injEq, Prod.mk.injEq] at h
                obtain ⟨rfl, rfl⟩ := h
                obtain ⟨w', cap', rest, hrun, hcap, hrest, a1, a2, a3, a4⟩ := grows (w := w) (base := none) (n := 0) (cap := 0) (olds := []) hu hti hz0 (by simpa using run_firstCells_none w.drew ti.size 0 0 0) hS' (by omega) (by rw [hbytes]; exact hroom) (room _ hb0 hroom)
                have hrn : Row w E ob (up [] ++ ns) (([] ++ news).toArray ++ rest) := row_append (a := []) (ms := []) (fun j m hm => by simp at hm) hrow' rfl rest
                have hnew := step_new hh e (szT P e) (up [] ++ ns) (([] ++ news).toArray ++ rest) hrn 0 0 (fun j _ => by omega) a1 a2 a3 a4
                refine ⟨_, w', { E with blk := upd E.blk ob.length w.heap.size, asz := upd E.asz ob.length (([] ++ news).toArray ++ rest).size }, hrun, ?_, hnew⟩
                refine .ms ⟨rfl, { ty := e, sz := szT P e, nil := false, gen := 0, cs := up [] ++ ns }, by unfold newOb; rw [getElem?_snoc, if_neg (by omega), if_pos rfl], rfl, Nat.le_refl _, fun _ => ⟨fun hf => by simp at hf, fun _ => ⟨cap', by simp only [upd_same], by omega, ?_⟩⟩⟩
                simp only [upd_same, Array.size_append, hrest, hzs]
                have := mul_split (a := 0) (b := n') (c := cap') (k := szT P e) hcap
                simp [hnl']
                simp at this
                omega
            | sl _ _ _ ad cap ys hf hn h1 h2 =>
              obtain rfl := hf rfl
              split at h
              · rename_i hn0
                subst hn0
                simp only [Option.some.injEq, Prod.mk.injEq] at h
                obtain ⟨rfl, rfl⟩ := h
                have hnews : news = [] := List.eq_nil_of_length_eq_zero (by omega)
                subst hnews
                exact ⟨_, w, E, run_append_nothing w t tx ty e ti hu hti (some ad) cap cap (Nat.le_refl _) b hS', .c (.sl cs cap true ad cap ys hf hn h1 h2), .refl hh⟩
              · rename_i hn0
                obtain ⟨hcl, h⟩ := of_ite h
                obtain ⟨hb0, h⟩ := of_ite h
                obtain ⟨hroom, h⟩ := of_ite h
                simp only [Option.some.injEq, Prod.mk.injEq] at h
                obtain ⟨rfl, rfl⟩ := h
                have hat : ∀ j, j < cap * szT P e → ∃ c, cs[j]? = some c := fun j hj => ⟨_, List.getElem?_eq_getElem (show j < cs.length by omega)⟩
                have holds : (Builtin.firstCells ti.size cap (.slice (some ad) cap cap)).run P w.drew = .ok ((List.range (cap * szT P e)).map ys).toArray w.drew := by
                  refine run_firstCells_some w.drew ti.size cap ad cap cap _ (by simp [hsize]) (fun j v hv => ?_)
                  rw [getElem?_range_map] at hv
                  split at hv
                  · rename_i hj
                    obtain rfl := Option.some.inj hv
                    obtain ⟨c, hc⟩ := hat j hj
                    exact (h1 j c hc).2.2
                  · simp at hv
                obtain ⟨w', cap', rest, hrun, hcap, hrest, a1, a2, a3, a4⟩ := grows (w := w) hu hti hz0 holds hS' (by omega) (by rw [hbytes]; exact hroom) (room _ hb0 hroom)
                have hnew := step_new hh e (szT P e) (up cs ++ ns) (((List.range (cap * szT P e)).map ys ++ news).toArray ++ rest) (row_append (row_of_list (by simp [up]; omega) (fun j m v hm hv => by
                  rw [getElem?_range_map] at hv
                  split at hv
                  · obtain rfl := Option.some.inj hv
                    simp only [up, List.getElem?_map] at hm
                    obtain ⟨c, hc, rfl⟩ := Option.map_eq_some_iff.1 hm
                    exact ⟨(h1 j c hc).2.1, .c (h2 j c hc)⟩
                  · simp at hv)) hrow' (by simp [up]; omega) rest) 0 0 (fun j _ => by omega) a1 a2 a3 a4
                refine ⟨_, w', { E with blk := upd E.blk ob.length w.heap.size, asz := upd E.asz ob.length (((List.range (cap * szT P e)).map ys ++ news).toArray ++ rest).size }, hrun, ?_, hnew⟩
                refine .ms ⟨rfl, { ty := e, sz := szT P e, nil := false, gen := 0, cs := up cs ++ ns }, by unfold newOb; rw [getElem?_snoc, if_neg (by omega), if_pos rfl], rfl, Nat.le_refl _, fun _ => ⟨fun hf => by simp at hf, fun _ => ⟨cap', by simp only [upd_same], hcap, ?_⟩⟩⟩
                simp only [upd_same, Array.size_append, hrest, hzs]
                have := mul_split (a := cap) (b := n') (c := cap') (k := szT P e) hcap
                simp [hnl']
                omega
        · simp at h
  · simp at h

end Go.Av
