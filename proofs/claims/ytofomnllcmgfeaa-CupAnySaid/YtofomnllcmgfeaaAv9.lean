/- Slices that are made, cut and converted. -/
import Derived.Test.YtofomnllcmgfeaaAv8
set_option linter.unusedVariables false
set_option linter.unusedSimpArgs false
namespace Go.Av
open Go

variable {P : Program} {w : World} {E : Env} {ob : List Ob}

/-- A new block that nobody will write. -/
theorem step_stable {w' : World} (hh : HeapOK w E ob) (o : Obj) (h1 : w'.os = w.os) (h2 : w'.tape = w.tape) (h3 : w'.output = w.output) (h4 : w'.heap = w.heap.push o) :
    Step w E ob w' { E with st := fun b => E.st b ∨ b = w.heap.size } ob := by
  have hold : ∀ b, b < w.heap.size → w'.heap[b]? = w.heap[b]? := fun b hb => by rw [h4, Array.getElem?_push, if_neg (by omega)]
  have hsz : w'.heap.size = w.heap.size + 1 := by rw [h4]; simp
  have hext : Ext w E ob w' { E with st := fun b => E.st b ∨ b = w.heap.size } ob :=
    ⟨fun b hb => ⟨.inl hb, hold b (hh.stb b hb)⟩, fun i o h => ⟨o, h, Nat.le_refl _, rfl, fun _ => rfl, fun _ => ⟨rfl, rfl, rfl, rfl⟩⟩⟩
  refine ⟨⟨fun i o ho => (hh.obj i o ho).keep hext rfl rfl (fun hn => hold _ (hh.own i o ho hn).2), hh.inj, fun b hb => ?_, fun i o ho hn => ?_⟩, hext, ⟨h1, h2, h3, by omega, fun b hb _ => hold b hb, fun b hb => .inl hb, fun b hb => ?_, fun i o ho hn => .inl ⟨i, o, ho, hn, rfl⟩⟩⟩
  · rcases hb with hb | rfl
    · have := hh.stb b hb; omega
    · omega
  · obtain ⟨a, b⟩ := hh.own i o ho hn
    refine ⟨fun hs => ?_, show E.blk i < _ by omega⟩
    rcases hs with hs | hs
    · exact a hs
    · have hs' : E.blk i = w.heap.size := hs
      omega
  · rcases hb with hb | rfl
    · exact .inl hb
    · exact .inr (.inr (Nat.le_refl _))

theorem length_zeros (n : Nat) (zs : List M) : (zerosM n zs).length = n * zs.length := by
  simp [zerosM]
theorem getElem?_zeros (n : Nat) (zs : List M) (j : Nat) (h : j < n * zs.length) : (zerosM n zs)[j]? = zs[j % zs.length]? := by
  unfold zerosM
  induction n generalizing j with
  | zero => simp at h
  | succ n ih =>
    rw [List.replicate_succ, List.flatten_cons]
    by_cases hj : j < zs.length
    · rw [List.getElem?_append_left hj, Nat.mod_eq_of_lt hj]
    · rw [Nat.succ_mul] at h
      rw [List.getElem?_append_right (by omega), ih _ (by omega), Nat.mod_eq_sub_mod (a := j) (by omega)]

/-- The zero cells of a new row. -/
theorem cells_zeros {zs : List M} {z : Value} {k n : Nat} (hc : Cells w E ob zs z.cells) (hk : k ≤ n) (def_ : n * zs.length = 0 → True) : Row w E ob (zerosM k zs) ((Array.range (n * zs.length)).map (fun i => z.cells[i % z.cells.size]!)) := by
  intro j m hm
  obtain ⟨h1, h2, h3⟩ := hc
  have hj : j < k * zs.length := by rw [← length_zeros]; exact (List.getElem?_eq_some_iff.1 hm).1
  have hj2 : j < n * zs.length := Nat.lt_of_lt_of_le hj (Nat.mul_le_mul_right _ hk)
  rw [getElem?_zeros _ _ _ hj] at hm
  obtain ⟨y, hy, q1, q2⟩ := h3 _ m hm
  refine ⟨y, ?_, q1, q2⟩
  have hlt := (Array.getElem?_eq_some_iff.1 hy).1
  simp [hj2, h1]
  rw [getElem!_def, hy]

theorem run_zeros {t : TypeId} {i : TypeInfo} {z : Value} (hi : P.info? t = some i) (hz : i.zero = some z) (n : Nat) (w : World) :
    ∃ zero : Array Value, (if n = 0 then pure #[] else do pure (← zeroValue t).cells : Sem (Array Value)).run P w = .ok zero w ∧ (0 < n → zero = z.cells) := by
  by_cases hn : n = 0
  · exact ⟨#[], by simp [hn], fun h => by omega⟩
  · exact ⟨z.cells, by simp [hn, run_zero hi hz], fun _ => rfl⟩

theorem sound_buildSlice (hh : HeapOK w E ob) {t : TypeId} {len : Nat} {parts : List (Nat × M)} {pv : Array (Nat × Value)} {m : M}
    (hp : pv.size = parts.length) (hr : ∀ (k : Nat) i m, parts[k]? = some (i, m) → ∃ v, pv[k]? = some (i, v) ∧ RepM w E ob m v) (h : buildSliceM P t len parts = some m) :
    ∃ v w' E', (Instr.buildSlice t len pv).run P w = .ok v w' ∧ RepM w' E' ob m v ∧ Step w E ob w' E' ob := by
  unfold buildSliceM at h
  split at h
  · rename_i e hu
    obtain ⟨hle, h⟩ := of_ite h
    split at h
    · rename_i zs hz
      obtain ⟨hzl, h⟩ := of_ite h
      split at h
      · rename_i ms hf
        obtain ⟨cs, hcs, rfl⟩ := Option.map_eq_some_iff.1 h
        obtain ⟨i, z, hi, hiz, hc⟩ := cells_zero (w := w) (E := E) (ob := ob) hz
        have hcc := hc
        obtain ⟨c1, c2, c3⟩ := hcc
        obtain ⟨zero, hzr, hze⟩ := run_zeros (P := P) hi hiz (len * szT P e) w
        have hsame : (Array.range (len * szT P e)).map (fun i => zero[i % zero.size]!) = (Array.range (len * zs.length)).map (fun i => z.cells[i % z.cells.size]!) := by
          rw [hzl]
          by_cases h0 : 0 < len * szT P e
          · rw [hze h0]
          · have : len * szT P e = 0 := by omega
            rw [this]; simp
        have hcells : Cells w E ob (zerosM len zs) ((Array.range (len * szT P e)).map (fun i => zero[i % zero.size]!)) := by
          refine ⟨by simp [length_zeros, hzl], ?_, by rw [hsame]; exact cells_zeros hc (Nat.le_refl _) (fun _ => trivial)⟩
          rw [hsame]
          intro v hv
          simp only [Array.toList_map, Array.toList_range, List.mem_map, List.mem_range] at hv
          obtain ⟨j, hj, rfl⟩ := hv
          have hpos : 0 < zs.length := by
            rcases Nat.eq_zero_or_pos zs.length with h0 | h0
            · rw [h0] at hj; simp at hj
            · exact h0
          have hlt : j % z.cells.size < z.cells.size := Nat.mod_lt _ (by omega)
          rw [getElem!_def, Array.getElem?_eq_getElem hlt]
          exact c2 _ (by simp)
        obtain ⟨arr', ha, d1, d2, d3⟩ := sound_fill (pv := pv.toList) (by simpa using hp) (fun k i m hk => by
          obtain ⟨v, hv, hrv⟩ := hr k i m hk
          exact ⟨v, by rw [Array.getElem?_toList]; exact hv, hrv⟩) hcells hf
        have hstep := step_stable (w' := { w with heap := w.heap.push (.cells arr' e) }) hh (.cells arr' e) rfl rfl rfl rfl
        refine ⟨.slice (some ⟨w.heap.size, 0, none⟩) len len, _, _, ?_, ?_, hstep⟩
        · simp only [Instr.buildSlice, Sem.run_bind, run_underlying hu, Result.andThen_ok, run_size hi]
          rw [if_neg (by omega)]
          have hzr' := hzr
          split at hzr'
          · rename_i h0
            rw [if_pos h0]
            simp only [Sem.run_pure, Result.ok.injEq, and_true] at hzr'
            subst hzr'
            simp only [pure_bind, Sem.run_bind, Sem.run_pure, Result.andThen_ok]
            simp [h0] at ha
            simp [h0, ha, newRow]
          · rename_i h0
            rw [if_neg h0]
            simp only [Sem.run_bind, run_zero hi hiz, Result.andThen_ok, Sem.run_pure, Result.ok.injEq, and_true] at hzr'
            subst hzr'
            simp [run_zero hi hiz, ha, newRow]
        · obtain rfl := up_downs hcs
          refine .c (.sl cs len true ⟨w.heap.size, 0, none⟩ len (fun j => arr'.getD j undef) (fun _ => rfl) (Nat.le_refl _) (fun j c hc => ?_) (fun j c hc => ?_))
          · have hm : (up cs)[j]? = some (.c c) := by simp [up, hc]
            obtain ⟨y, hy, q1, q2⟩ := d3 j _ hm
            refine ⟨.inr rfl, ?_, ?_⟩
            · simp [Array.getD_eq_getD_getElem?, hy]; exact q1
            · rw [add_obj]
              simp [World.cell?, Array.getD_eq_getD_getElem?, hy]
          · have hm : (up cs)[j]? = some (.c c) := by simp [up, hc]
            obtain ⟨y, hy, q1, q2⟩ := d3 j _ hm
            rw [Array.getD_eq_getD_getElem?, hy]
            have := q2.keep hstep.ext
            cases this with
            | c h => exact h
      · simp at h
    · simp at h
  · simp at h

theorem sound_makeSlice (hh : HeapOK w E ob) {t : TypeId} {l c m : M} {a b : Value} {ob' : List Ob} (hl : RepM w E ob l a) (hc : RepM w E ob c b) (h : makeSliceM P ob t l c = some (m, ob')) :
    ∃ v w' E', (Instr.makeSlice t a b).run P w = .ok v w' ∧ RepM w' E' ob' m v ∧ Step w E ob w' E' ob' := by
  unfold makeSliceM at h
  split at h
  · rename_i e n k hu hn hk
    obtain ⟨kl, rfl⟩ := asI_rep hl hn
    obtain ⟨kc, rfl⟩ := asI_rep hc hk
    obtain ⟨h0, h⟩ := of_ite h
    obtain ⟨h1, h⟩ := of_ite h
    obtain ⟨h2, h⟩ := of_ite h
    obtain ⟨h3, h⟩ := of_ite h
    split at h
    · rename_i zs hz
      obtain ⟨hzl, h⟩ := of_ite h
      simp only [Option.some.injEq, Prod.mk.injEq] at h
      obtain ⟨rfl, rfl⟩ := h
      obtain ⟨i, z, hi, hiz, hcz⟩ := cells_zero (w := w) (E := E) (ob := ob) hz
      have hbytes : P.bytesOf e = i.bytes := by simp [Program.bytesOf, hi]
      rw [hbytes] at h2
      obtain ⟨zero, hzr, hze⟩ := run_zeros (P := P) hi hiz (k.toNat * szT P e) w
      have hsame : (Array.range (k.toNat * szT P e)).map (fun i => zero[i % zero.size]!) = (Array.range (k.toNat * zs.length)).map (fun i => z.cells[i % z.cells.size]!) := by
        rw [hzl]
        by_cases h0 : 0 < k.toNat * szT P e
        · rw [hze h0]
        · have : k.toNat * szT P e = 0 := by omega
          rw [this]; simp
      have w64 : ∀ q : Int, 0 ≤ q → q ≤ 281474976710656 → IntKind.i64.wrap q = q := fun q a b => IntWalk.i64_in _ (by omega)
      have hstep := step_new (w' := { w with heap := w.heap.push (.cells ((Array.range (k.toNat * szT P e)).map (fun i => zero[i % zero.size]!)) e) }) hh e (szT P e) (zerosM n.toNat zs) ((Array.range (k.toNat * szT P e)).map (fun i => zero[i % zero.size]!)) (by
        rw [hsame]; exact cells_zeros hcz (by omega) (fun _ => trivial)) 0 0 (fun j _ => by omega) rfl rfl rfl rfl
      refine ⟨.slice (some ⟨w.heap.size, 0, none⟩) n.toNat k.toNat, _, _, ?_, ?_, hstep⟩
      · have e1 : ¬ (k < 0) := by omega
        have e2 : ¬ (281474976710656 < (i.bytes : Int) * k) := by rw [Int.mul_comm]; omega
        have e3 : ¬ (n < 0) := by omega
        have e4 : ¬ (k < n) := by omega
        have ew1 := w64 n (by omega) (by omega)
        have ew2 := w64 k (by omega) (by omega)
        have etl : (if k.toNat * szT P e = 0 then pure #[] else do pure (← zeroValue e).cells : Sem (Array Value)).run P w = .ok zero w := hzr
        simp [Instr.makeSlice, run_underlying hu, asInt, asIntOf, typeInfo, hi, ew1, ew2, e1, e2, e3, e4, run_size hi, newRow]
        split at etl
        · rename_i hq
          rw [if_pos hq]
          simp only [Sem.run_pure, Result.ok.injEq, and_true] at etl
          subst etl
          simp [newRow]
        · rename_i hq
          rw [if_neg hq]
          simp only [Sem.run_bind, run_zero hi hiz, Result.andThen_ok, Sem.run_pure, Result.ok.injEq, and_true] at etl
          subst etl
          simp [run_zero hi hiz, newRow]
      · refine .ms ⟨rfl, { ty := e, sz := szT P e, nil := false, gen := 0, cs := zerosM n.toNat zs }, by unfold newOb; rw [getElem?_snoc, if_neg (by omega), if_pos rfl], rfl, Nat.le_refl _, fun _ => ⟨fun hf => by simp at hf, fun _ => ⟨k.toNat, by simp only [upd_same], by omega, ?_⟩⟩⟩
        simp [upd_same]
    · simp at h
  · simp at h

end Go.Av
