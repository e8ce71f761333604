/- The operations on abstract values tell what the model's operations do. -/
import Derived.Test.YtofomnllcmgfeaaAv3
set_option linter.unusedVariables false
set_option linter.unusedSimpArgs false
namespace Go.Av
open Go

variable {P : Program} {w : World} {E : Env} {ob : List Ob}

/-! ### values -/
theorem rep_const {x : Value} {m : M} (h : constM x = some m) : RepM w E ob m x := by
  unfold constM at h
  split at h
  · rename_i cs
    split at h
    · rename_i ha
      obtain rfl := Option.some.inj h
      refine .agg _ _ (by simp) (fun j hj => ?_) (fun j hj m hm => ?_)
      · exact (Array.all_eq_true.1 ha) j hj
      · rw [List.getElem?_map, Array.getElem?_toList, Array.getElem?_eq_getElem hj] at hm
        obtain rfl := Option.some.inj hm
        exact .c (.v _)
    · simp at h
  · simp at h
  · obtain rfl := Option.some.inj h
    exact .c (.v _)

/-- A value's cells, told. -/
theorem rep_cells {m : M} {y : Value} {ms : List M} (h : RepM w E ob m y) (hc : cellsM m = some ms) :
    y.cells.size = ms.length ∧ (∀ v ∈ y.cells.toList, v.oneCell' = true) ∧ Row w E ob ms y.cells := by
  have single : ∀ (m : M) (y : Value), RepM w E ob m y → y.oneCell' = true → ms = [m] → y.cells.size = ms.length ∧ (∀ v ∈ y.cells.toList, v.oneCell' = true) ∧ Row w E ob ms y.cells := by
    rintro m y hr h1 rfl
    have hy : y.cells = #[y] := by
      cases y <;> first | rfl | simp [Value.oneCell'] at h1
    rw [hy]
    refine ⟨rfl, by simpa using h1, fun j m' hm => ?_⟩
    cases j with
    | zero =>
      obtain rfl := Option.some.inj hm
      exact ⟨y, rfl, h1, hr⟩
    | succ j => simp at hm
  cases h with
  | c hx =>
    cases hx with
    | v x =>
      simp only [cellsM] at hc
      split at hc
      · rename_i h1
        obtain rfl := Option.some.inj hc
        exact single _ _ (.c (.v _)) h1 rfl
      · simp at hc
    | nl full =>
      obtain rfl := Option.some.inj hc
      exact single _ _ (.c (.nl full)) rfl rfl
    | sl cs n full a cap ys hf hn h1 h2 =>
      obtain rfl := Option.some.inj hc
      exact single _ _ (.c (.sl cs n full a cap ys hf hn h1 h2)) rfl rfl
    | ptr cs a ys h1 h2 =>
      obtain rfl := Option.some.inj hc
      exact single _ _ (.c (.ptr cs a ys h1 h2)) rfl rfl
    | ifc1 t c y h =>
      obtain rfl := Option.some.inj hc
      exact single _ _ (.c (.ifc1 t c y h)) rfl rfl
    | ifca t cs arr hs ho h =>
      obtain rfl := Option.some.inj hc
      exact single _ _ (.c (.ifca t cs arr hs ho h)) rfl rfl
  | agg ms' arr hs ho h =>
    obtain rfl := Option.some.inj hc
    refine ⟨hs, fun v hv => ?_, fun j m hm => ?_⟩
    · obtain ⟨j, hj, rfl⟩ := List.getElem_of_mem hv
      exact ho j hj
    · have hj : j < arr.size := by rw [hs]; exact (List.getElem?_eq_some_iff.1 hm).1
      exact ⟨arr[j], Array.getElem?_eq_getElem hj, ho j hj, h j hj m hm⟩
  | tup ms' arr hs h => simp [cellsM] at hc
  | ms hq => exact single _ _ (.ms hq) hq.1 (Option.some.inj hc).symm
  | mp hq => exact single _ _ (.mp hq) hq.1 (Option.some.inj hc).symm
  | mi hq => exact single _ _ (.mi hq) rfl (Option.some.inj hc).symm
  | mf fn first cap f1 c1 hs1 hs2 h1 h2 => exact single _ _ (.mf fn first cap f1 c1 hs1 hs2 h1 h2) rfl (Option.some.inj hc).symm
  | it hq =>
    obtain ⟨o, ho, hq', rfl⟩ := hq
    exact single _ _ (.it ⟨o, ho, hq', rfl⟩) rfl (Option.some.inj hc).symm
  | junk y => simp [cellsM] at hc

/-! ### reading memory -/
theorem run_isAgg {t : TypeId} {d : TypeDesc} (h : P.underlying t = some d) (w : World) : (isAgg t).run P w = .ok (isAggT P t) w := by
  simp only [isAgg, isAggT, Sem.run_bind, run_underlying h, Result.andThen_ok, h]
  cases d <;> rfl
theorem info_of_under {t : TypeId} {d : TypeDesc} (h : P.underlying t = some d) : ∃ i, P.info? t = some i := by
  unfold Program.underlying at h
  cases hi : P.info? t with
  | none => simp [hi] at h
  | some i => exact ⟨i, rfl⟩
theorem run_size {t : TypeId} {i : TypeInfo} (h : P.info? t = some i) (w : World) : (sizeOf t).run P w = .ok (szT P t) w := by
  simp [sizeOf, typeInfo, h, szT, Program.cellsOf]
/-- Is the type one of the table's? -/
theorem under_of_ok {t : TypeId} (h : okT P t = true) : ∃ d, P.underlying t = some d := Option.isSome_iff_exists.1 h

theorem getElem?_take_drop {α : Type} (l : List α) (o n j : Nat) : ((l.drop o).take n)[j]? = if j < n then l[o + j]? else none := by
  by_cases h : j < n
  · rw [if_pos h, List.getElem?_take_of_lt h, List.getElem?_drop]
  · rw [if_neg h, List.getElem?_eq_none]
    simp; omega

theorem arr_of_range (n : Nat) (f : Nat → Value) (j : Nat) (hj : j < ((List.range n).map f).toArray.size) : ((List.range n).map f).toArray[j] = f j := by simp

/-- A pointer to an object: its block. -/
theorem at_obj (hh : HeapOK w E ob) {i g off : Nat} {y : Value} {o : Ob} (hp : PtOK E ob i g off y) (ho : obAt ob i g = some o) :
    ob[i]? = some o ∧ o.nil = false ∧ o.iter = none ∧ o.gen = g ∧ y = .pointer (some ⟨E.blk i, off, none⟩) ∧
      ∃ arr lo hi, w.heap[E.blk i]? = some (.cells arr o.ty (lo, hi)) ∧ (∀ j, j < arr.size → ¬ (lo ≤ j ∧ j < hi)) ∧ arr.size = E.asz i ∧ Row w E ob o.cs arr := by
  obtain ⟨h1, o', ho', hit, hg, hh'⟩ := hp
  unfold obAt at ho
  rw [ho'] at ho
  simp only at ho
  split at ho
  · rename_i e
    split at ho
    · simp at ho
    · rename_i hn
      split at ho
      · simp at ho
      · obtain rfl := Option.some.inj ho
        have hn' : o'.nil = false := by simpa using hn
        have := hh.obj i o' ho'
        unfold ObOK at this
        rw [hit] at this
        exact ⟨ho', hn', hit, e.symm, hh' e hn', this.2 hn'⟩
  · simp at ho

theorem sound_load (hh : HeapOK w E ob) {t : TypeId} {a m : M} {y : Value} (hok : okT P t = true) (ha : RepM w E ob a y) (h : loadM P ob t a = some m) :
    ∃ z, (Instr.loadAt t y).run P w = .ok z w ∧ RepM w E ob m z := by
  obtain ⟨d, hd⟩ := under_of_ok hok
  obtain ⟨ti, hti⟩ := info_of_under hd
  cases ha with
  | c hc =>
    cases hc with
    | ptr cs a ys h1 h2 =>
      simp only [loadM] at h
      split at h
      · rename_i hagg
        split at h
        · rename_i hsz
          obtain rfl := Option.some.inj h
          have hcells := run_loadCells (P := P) w a (szT P t) ys (fun j hj => (h1 j _ (List.getElem?_eq_getElem (show j < cs.length by omega))).2.2)
          refine ⟨.agg ((List.range (szT P t)).map ys).toArray, ?_, ?_⟩
          · simp [Instr.loadAt, Instr.sureAddr, loadVar, run_isAgg hd, hagg, run_size hti, hcells]
          · refine .agg _ _ (by simp [up]; omega) (fun j hj => ?_) (fun j hj m hm => ?_)
            · rw [arr_of_range]
              exact (h1 j _ (List.getElem?_eq_getElem (show j < cs.length by simp at hj; omega))).2.1
            · rw [arr_of_range]
              unfold up at hm
              rw [List.getElem?_map] at hm
              obtain ⟨c, hc, rfl⟩ := Option.map_eq_some_iff.1 hm
              rw [List.getElem?_take] at hc
              split at hc
              · exact .c (h2 j c hc)
              · simp at hc
        · simp at h
      · rename_i hagg
        obtain ⟨c, hc, rfl⟩ := Option.map_eq_some_iff.1 h
        obtain ⟨_, ho, hcell⟩ := h1 0 c hc
        rw [show a.add 0 = a from rfl] at hcell
        exact ⟨ys 0, by simp [Instr.loadAt, Instr.sureAddr, loadVar, run_isAgg hd, hagg, hcell], .c (h2 0 c hc)⟩
    | v x => simp [loadM] at h
    | sl => simp [loadM] at h
    | nl => simp [loadM] at h
    | ifc1 => simp [loadM] at h
    | ifca => simp [loadM] at h
  | @mp i g off y hp =>
    simp only [loadM] at h
    cases ho : obAt ob i g with
    | none => simp [ho] at h
    | some o =>
      rw [ho] at h
      simp only at h
      obtain ⟨hob, hnil, hit, hgen, rfl, arr, lo, hi, hblk, hfz, hsz, hrow⟩ := at_obj hh hp ho
      have hcellat : ∀ j z, arr[off + j]? = some z → w.cell? ((⟨E.blk i, off, none⟩ : Addr).add j) = some z := by
        intro j z hz
        have : (⟨E.blk i, off, none⟩ : Addr).add j = ⟨E.blk i, off + j, none⟩ := by unfold Addr.add; split <;> simp_all
        rw [this]
        simp [World.cell?, hblk, hz]
      split at h
      · rename_i hagg
        split at h
        · rename_i hle
          obtain rfl := Option.some.inj h
          have hlen := hrow.len
          have hcells := run_loadCells (P := P) w ⟨E.blk i, off, none⟩ (szT P t) (fun j => arr.getD (off + j) undef) (fun j hj => hcellat j _ (by
            rw [Array.getElem?_eq_getElem (show off + j < arr.size by omega)]; simp [Array.getD, show off + j < arr.size by omega]))
          refine ⟨.agg ((List.range (szT P t)).map (fun j => arr.getD (off + j) undef)).toArray, ?_, ?_⟩
          · simp [Instr.loadAt, Instr.sureAddr, loadVar, run_isAgg hd, hagg, run_size hti, hcells]
          · refine .agg _ _ (by simp; omega) (fun j hj => ?_) (fun j hj m hm => ?_)
            · rw [arr_of_range]
              have hj' : j < szT P t := by simpa using hj
              obtain ⟨z, hz, h1z, _⟩ := hrow (off + j) _ (List.getElem?_eq_getElem (show off + j < o.cs.length by omega))
              rw [Array.getD_eq_getD_getElem?, hz]
              exact h1z
            · rw [arr_of_range]
              rw [getElem?_take_drop] at hm
              split at hm
              · obtain ⟨z, hz, _, hrz⟩ := hrow (off + j) m hm
                rw [Array.getD_eq_getD_getElem?, hz]
                exact hrz
              · simp at hm
        · simp at h
      · rename_i hagg
        obtain ⟨z, hz, h1z, hrz⟩ := hrow off m h
        have := hcellat 0 z hz
        rw [show (⟨E.blk i, off, none⟩ : Addr).add 0 = ⟨E.blk i, off, none⟩ from rfl] at this
        exact ⟨z, by simp [Instr.loadAt, Instr.sureAddr, loadVar, run_isAgg hd, hagg, this], hrz⟩
  | _ => simp [loadM] at h

end Go.Av
