/- What is made: variables, boxes, structs, arrays, slices. -/
import Derived.Test.YtofomnllcmgfeaaAv7
set_option linter.unusedVariables false
set_option linter.unusedSimpArgs false
namespace Go.Av
open Go

variable {P : Program} {w : World} {E : Env} {ob : List Ob}

/-- A row and its cells, one by one. -/
def Cells (w : World) (E : Env) (ob : List Ob) (ms : List M) (arr : Array Value) : Prop := arr.size = ms.length ∧ (∀ v ∈ arr.toList, v.oneCell' = true) ∧ Row w E ob ms arr

theorem cells_zero {t : TypeId} {zs : List M} (h : zeroT P t = some zs) : ∃ i z, P.info? t = some i ∧ i.zero = some z ∧ Cells w E ob zs z.cells := by
  unfold zeroT at h
  split at h
  · rename_i z hz
    obtain ⟨i, hi, hiz⟩ := zero_of_ok hz
    obtain ⟨m, hm, hc⟩ := Option.bind_eq_some_iff.1 h
    exact ⟨i, z, hi, hiz, rep_cells (rep_const hm) hc⟩
  · simp at h
theorem run_zero {t : TypeId} {i : TypeInfo} {z : Value} (hi : P.info? t = some i) (hz : i.zero = some z) (w : World) : (zeroValue t).run P w = .ok z w := by
  simp [zeroValue, typeInfo, hi, hz]

theorem rep_new (ty sz : Nat) (cs : List M) (arr : Array Value) (b : Nat) : PtOK { E with blk := upd E.blk ob.length b, asz := upd E.asz ob.length arr.size } (newOb ob ty sz cs) ob.length 0 0 (.pointer (some ⟨b, 0, none⟩)) :=
  ⟨rfl, _, by unfold newOb; rw [getElem?_snoc, if_neg (by omega), if_pos rfl], rfl, Nat.le_refl _, fun _ _ => by simp only [upd_same]⟩

theorem sound_alloc (hh : HeapOK w E ob) {e : TypeId} {m : M} {ob' : List Ob} (h : allocM P ob e = some (m, ob')) :
    ∃ v w' E', (Instr.alloc e true (.tuple #[])).run P w = .ok v w' ∧ RepM w' E' ob' m v ∧ Step w E ob w' E' ob' := by
  unfold allocM at h
  split at h
  · rename_i zs hz
    simp only [Option.some.injEq, Prod.mk.injEq] at h
    obtain ⟨rfl, rfl⟩ := h
    obtain ⟨i, z, hi, hiz, c1, c2, c3⟩ := cells_zero (w := w) (E := E) (ob := ob) hz
    refine ⟨_, { w with heap := w.heap.push (.cells z.cells e) }, _, by simp [Instr.alloc, run_zero hi hiz, newVar, newRow], .mp (rep_new e (szOb P e) zs z.cells w.heap.size), step_new hh e (szOb P e) zs z.cells c3 0 0 (fun j _ => by omega) rfl rfl rfl rfl⟩
  · simp at h

theorem sound_box (hh : HeapOK w E ob) {e : TypeId} {x m : M} {y : Value} {ob' : List Ob} (hx : RepM w E ob x y) (h : boxM P ob e x = some (m, ob')) :
    ∃ v w' E', (Instr.box e y).run P w = .ok v w' ∧ RepM w' E' ob' m v ∧ Step w E ob w' E' ob' := by
  unfold boxM at h
  split at h
  · rename_i ms hms
    simp only [Option.some.injEq, Prod.mk.injEq] at h
    obtain ⟨rfl, rfl⟩ := h
    obtain ⟨c1, c2, c3⟩ := rep_cells hx hms
    refine ⟨_, { w with heap := w.heap.push (.cells y.cells e) }, _, by simp [Instr.box, newVar, newRow], .mp (rep_new e (szBx P e) ms y.cells w.heap.size), step_new hh e (szBx P e) ms y.cells c3 0 0 (fun j _ => by omega) rfl rfl rfl rfl⟩
  · simp at h

theorem fold_set (vs : List Value) : ∀ (k off : Nat) (cur : Array Value), off + k + vs.length ≤ cur.size →
    ((vs.zipIdx k).foldl (fun cs (p : Value × Nat) => cs.setIfInBounds (off + p.2) p.1) cur).size = cur.size ∧
    ∀ j, ((vs.zipIdx k).foldl (fun cs (p : Value × Nat) => cs.setIfInBounds (off + p.2) p.1) cur)[j]? = if off + k ≤ j ∧ j < off + k + vs.length then vs[j - (off + k)]? else cur[j]? := by
  induction vs with
  | nil => intro k off cur h; exact ⟨rfl, fun j => by simp; intro h1 h2; omega⟩
  | cons v vs ih =>
    intro k off cur h
    simp only [List.zipIdx_cons, List.foldl_cons, List.length_cons] at h ⊢
    obtain ⟨h1, h2⟩ := ih (k + 1) off (cur.setIfInBounds (off + k) v) (by simp; omega)
    refine ⟨by rw [h1]; simp, fun j => ?_⟩
    rw [h2 j]
    by_cases e : j = off + k
    · subst e
      rw [if_neg (by omega), if_pos ⟨Nat.le_refl _, by omega⟩, Nat.sub_self, Array.getElem?_setIfInBounds, if_pos rfl, if_pos (by omega)]
      rfl
    · by_cases hin : off + (k + 1) ≤ j ∧ j < off + (k + 1) + vs.length
      · rw [if_pos hin, if_pos (by omega), show j - (off + k) = (j - (off + (k + 1))) + 1 by omega]
        rfl
      · rw [if_neg hin, if_neg (by omega), Array.getElem?_setIfInBounds, if_neg (by omega)]

theorem sound_fill {place : Nat → Option (Nat × Nat)} {parts : List (Nat × M)} {pv : List (Nat × Value)} {ms ms' : List M} {arr : Array Value}
    (hp : pv.length = parts.length) (hr : ∀ (k : Nat) i m, parts[k]? = some (i, m) → ∃ v, pv[k]? = some (i, v) ∧ RepM w E ob m v) (hc : Cells w E ob ms arr) (h : fillM place ms parts = some ms') :
    ∃ arr', Instr.fill place arr pv = some arr' ∧ Cells w E ob ms' arr' := by
  induction parts generalizing pv ms arr with
  | nil =>
    obtain rfl : pv = [] := List.eq_nil_of_length_eq_zero (by simpa using hp)
    obtain rfl := Option.some.inj h
    exact ⟨arr, rfl, hc⟩
  | cons p parts ih =>
    obtain ⟨i, m⟩ := p
    cases pv with
    | nil => simp at hp
    | cons q pv =>
      obtain ⟨v, hv, hrv⟩ := hr 0 i m rfl
      obtain rfl := Option.some.inj hv
      simp only [fillM] at h
      split at h
      · rename_i off size mc hplace hcells
        obtain ⟨hsz, h⟩ := of_ite h
        obtain ⟨hle, h⟩ := of_ite h
        obtain ⟨c1, c2, c3⟩ := rep_cells hrv hcells
        obtain ⟨d1, d2, d3⟩ := hc
        obtain ⟨f1, f2⟩ := fold_set v.cells.toList 0 off arr (by simp; omega)
        have e0 : v.cells.zipIdx.foldl (fun cs (p : Value × Nat) => cs.setIfInBounds (off + p.2) p.1) arr = (v.cells.toList.zipIdx 0).foldl (fun cs (p : Value × Nat) => cs.setIfInBounds (off + p.2) p.1) arr := by
          rw [← Array.foldl_toList, Array.toList_zipIdx]
        have hnew : Cells w E ob (lay ms off mc) ((v.cells.toList.zipIdx 0).foldl (fun cs (p : Value × Nat) => cs.setIfInBounds (off + p.2) p.1) arr) := by
          refine ⟨by rw [f1, length_lay _ _ _ hle, d1], fun u hu => ?_, fun j m' hm => ?_⟩
          · obtain ⟨j, hj, rfl⟩ := List.getElem_of_mem hu
            have hj2 := f2 j
            rw [← Array.getElem?_toList, List.getElem?_eq_getElem hj] at hj2
            split at hj2
            · exact c2 _ (List.mem_of_getElem? hj2.symm)
            · exact d2 _ (List.mem_of_getElem? (by rw [Array.getElem?_toList]; exact hj2.symm))
          · rw [getElem?_lay _ _ _ hle] at hm
            rw [f2 j]
            simp only [Nat.add_zero, Array.length_toList, c1]
            split at hm
            · rename_i hin
              rw [if_pos hin]
              obtain ⟨z, hz, q1, q2⟩ := c3 _ m' hm
              exact ⟨z, by rw [Array.getElem?_toList]; exact hz, q1, q2⟩
            · rename_i hin
              rw [if_neg hin]
              exact d3 j m' hm
        obtain ⟨arr', ha, hca⟩ := ih (by simpa using hp) (fun k i m hk => hr (k + 1) i m hk) hnew h
        refine ⟨arr', ?_, hca⟩
        simp only [Instr.fill, hplace]
        rw [if_neg (by simp [c1, hsz]; omega)]
        rw [← ha, ← e0]
      · simp at h

theorem cells_agg {ms : List M} {arr : Array Value} (h : Cells w E ob ms arr) : RepM w E ob (.agg ms) (.agg arr) := by
  obtain ⟨h1, h2, h3⟩ := h
  refine .agg _ _ h1 (fun j hj => h2 _ (by simp)) (fun j hj m hm => ?_)
  obtain ⟨y, hy, _, hr⟩ := h3 j m hm
  rw [Array.getElem?_eq_getElem hj] at hy
  obtain rfl := Option.some.inj hy
  exact hr

theorem run_places {fs : Array Field} (hok : ∀ (k : Nat) (f : Field), fs[k]? = some f → okT P f.type = true) (w : World) :
    (fs.mapM fun f => (do pure (f.offset, ← sizeOf f.type) : Sem (Nat × Nat))).run P w = .ok (fs.map fun f => (f.offset, szT P f.type)) w := by
  have key : ∀ (l : List Field), (∀ f ∈ l, okT P f.type = true) → (l.mapM fun f => (do pure (f.offset, ← sizeOf f.type) : Sem (Nat × Nat))).run P w = .ok (l.map fun f => (f.offset, szT P f.type)) w := by
    intro l
    induction l with
    | nil => intro _; rfl
    | cons f l ih =>
      intro hl
      obtain ⟨d, hd⟩ := under_of_ok (hl f (by simp))
      obtain ⟨ti, hti⟩ := info_of_under hd
      rw [List.mapM_cons]
      simp only [Sem.run_bind, run_size hti, Result.andThen_ok, Sem.run_pure, ih (fun g hg => hl g (by simp [hg])), List.map_cons]
  have h1 := key fs.toList (fun f hf => by
    obtain ⟨k, hk, rfl⟩ := List.getElem_of_mem hf
    exact hok k _ (by simp))
  rw [Array.mapM_eq_mapM_toList]
  simp only [Sem.run_map, h1, Result.andThen_ok]
  congr 1
  apply Array.ext'
  simp

theorem sound_build {t : TypeId} {parts : List (Nat × M)} {pv : Array (Nat × Value)} {m : M} (hok : ∀ (fs : Array Field) (k : Nat) (f : Field), P.underlying t = some (.struct fs) → fs[k]? = some f → okT P f.type = true) (hoka : ∀ n e, P.underlying t = some (.array n e) → okT P e = true)
    (hp : pv.size = parts.length) (hr : ∀ (k : Nat) i m, parts[k]? = some (i, m) → ∃ v, pv[k]? = some (i, v) ∧ RepM w E ob m v) (h : buildM P t parts = some m) :
    ∃ v, (Instr.build t pv).run P w = .ok v w ∧ RepM w E ob m v := by
  unfold buildM at h
  obtain ⟨hagg, h⟩ := of_ite h
  split at h
  · rename_i zs hz
    obtain ⟨ms, hf, rfl⟩ := Option.map_eq_some_iff.1 h
    obtain ⟨i, z, hi, hiz, hc⟩ := cells_zero (w := w) (E := E) (ob := ob) hz
    obtain ⟨arr', ha, hca⟩ := sound_fill (pv := pv.toList) (by simpa using hp) (fun k i m hk => by
      obtain ⟨v, hv, hrv⟩ := hr k i m hk
      exact ⟨v, by rw [Array.getElem?_toList]; exact hv, hrv⟩) hc hf
    refine ⟨.agg arr', ?_, cells_agg hca⟩
    unfold isAggT at hagg
    split at hagg
    · rename_i fs hu
      have hpl : placeM P t = fun k => (fs.map fun f => (f.offset, szT P f.type))[k]? := by
        funext k
        simp [placeM, hu]
      rw [hpl] at ha
      simp only [Instr.build, Sem.run_bind, run_zero hi hiz, Result.andThen_ok, run_underlying hu, run_places (fun k f hk => hok fs k f hu hk), ha]
      rfl
    · rename_i n e hu
      obtain ⟨d, hd⟩ := under_of_ok (hoka n e hu)
      obtain ⟨ti, hti⟩ := info_of_under hd
      have hpl : placeM P t = fun k => some (k * szT P e, szT P e) := by
        funext k
        simp [placeM, hu]
      rw [hpl] at ha
      simp only [Instr.build, Sem.run_bind, run_zero hi hiz, Result.andThen_ok, run_underlying hu, run_size hti, ha]
      rfl
    · simp at hagg
  · simp at h

end Go.Av
