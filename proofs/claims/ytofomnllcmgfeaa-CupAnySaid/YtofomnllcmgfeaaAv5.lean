/- Stores, addresses, parts, lengths; numbers, strings and bools. -/
import Derived.Test.YtofomnllcmgfeaaAv4
set_option linter.unusedVariables false
set_option linter.unusedSimpArgs false
namespace Go.Av
open Go

variable {P : Program} {w : World} {E : Env} {ob : List Ob}

theorem length_lay (cs : List M) (off : Nat) (ms : List M) (h : off + ms.length ≤ cs.length) : (lay cs off ms).length = cs.length := by
  unfold lay
  split
  · simp
  · simp; omega
theorem getElem?_lay (cs : List M) (off : Nat) (ms : List M) (h : off + ms.length ≤ cs.length) (j : Nat) : (lay cs off ms)[j]? = if off ≤ j ∧ j < off + ms.length then ms[j - off]? else cs[j]? := by
  unfold lay
  split
  · rename_i m
    simp only [List.length_cons, List.length_nil, Nat.zero_add] at h ⊢
    rw [List.getElem?_set]
    by_cases e : off = j
    · subst e
      rw [if_pos rfl, if_pos (by omega), if_pos ⟨Nat.le_refl _, by omega⟩, Nat.sub_self]
      rfl
    · rw [if_neg e, if_neg (by omega)]
  · by_cases h1 : j < off
    · rw [if_neg (by omega), List.getElem?_append_left (by simp; omega), List.getElem?_take_of_lt h1]
    · rw [List.getElem?_append_right (by simp; omega)]
      have e : (cs.take off).length = off := by simp; omega
      rw [e]
      by_cases h2 : j < off + ms.length
      · rw [if_pos ⟨by omega, h2⟩, List.getElem?_append_left (by omega)]
      · rw [if_neg (by omega), List.getElem?_append_right (by omega), List.getElem?_drop]
        congr 1
        omega

theorem store_cells (g : Nat) (t : TypeId) (lo hi : Nat) : ∀ (vs : List Value) (i o : Nat) (cur : Array Value) (w : World), w.heap[g]? = some (.cells cur t (lo, hi)) → (∀ j, j < cur.size → ¬ (lo ≤ j ∧ j < hi)) → o + i + vs.length ≤ cur.size → (∀ v ∈ vs, v.oneCell' = true) →
    ∃ w', (storeCells ⟨g, o, none⟩ vs i).run P w = .ok () w' ∧ w'.os = w.os ∧ w'.tape = w.tape ∧ w'.output = w.output ∧ w'.heap.size = w.heap.size ∧ (∀ b, b ≠ g → w'.heap[b]? = w.heap[b]?) ∧
      ∃ cur', w'.heap[g]? = some (.cells cur' t (lo, hi)) ∧ cur'.size = cur.size ∧ ∀ j, cur'[j]? = if o + i ≤ j ∧ j < o + i + vs.length then vs[j - (o + i)]? else cur[j]?
  | [], i, o, cur, w, hg, _, _, _ => ⟨w, by simp [storeCells], rfl, rfl, rfl, rfl, fun _ _ => rfl, cur, hg, rfl, fun j => by simp; intro h1 h2; omega⟩
  | v :: rest, i, o, cur, w, hg, hfz, hl, h1 => by
    have hi' : o + i < cur.size := by simp at hl; omega
    have hadd : (⟨g, o, none⟩ : Addr).add i = ⟨g, o + i, none⟩ := by unfold Addr.add; split <;> simp_all
    have hcell : w.cell? ⟨g, o + i, none⟩ = some cur[o + i] := by simp [World.cell?, hg, hi']
    have hfro : w.frozen? ⟨g, o + i, none⟩ = false := by
      have := hfz (o + i) hi'
      simp only [World.frozen?, hg]
      rw [Bool.and_eq_false_iff]
      simp only [decide_eq_false_iff_not]
      omega
    have hst : (store ((⟨g, o, none⟩ : Addr).add i) v).run P w = .ok () (w.setCell ⟨g, o + i, none⟩ v) := by
      rw [hadd, run_store P w _ v _ (h1 v (by simp)), hcell]
      simp [hfro]
    have hblk : (w.setCell ⟨g, o + i, none⟩ v).heap[g]? = some (.cells (cur.setIfInBounds (o + i) v) t (lo, hi)) := by
      simp [World.setCell, Array.getElem?_modify, hg]
    obtain ⟨w', hr, a1, a2, a3, a4, a5, cur', hc, hcs, hcj⟩ := store_cells g t lo hi rest (i + 1) o (cur.setIfInBounds (o + i) v) (w.setCell ⟨g, o + i, none⟩ v) hblk (fun j hj => hfz j (by simpa using hj)) (by simp at hl ⊢; omega) (fun x hx => h1 x (by simp [hx]))
    refine ⟨w', by simp only [storeCells, Sem.run_bind, hst, Result.andThen_ok, hr], a1, a2, a3, by rw [a4]; simp [World.setCell], fun b hb => by rw [a5 b hb]; exact RowKit.Below.heap_setCell _ _ _ _ hb, cur', hc, by rw [hcs]; simp, fun j => ?_⟩
    rw [hcj j]
    simp only [List.length_cons]
    by_cases e : j = o + i
    · subst e
      rw [if_neg (by omega), if_pos ⟨Nat.le_refl _, by omega⟩, Nat.sub_self]
      simp [hi']
    · by_cases h2 : o + (i + 1) ≤ j ∧ j < o + (i + 1) + rest.length
      · rw [if_pos h2, if_pos (by omega)]
        rw [show j - (o + i) = (j - (o + (i + 1))) + 1 by omega]
        rfl
      · rw [if_neg h2, if_neg (by omega)]
        rw [Array.getElem?_setIfInBounds, if_neg (by omega)]

theorem sound_store (hh : HeapOK w E ob) {t : TypeId} {a x : M} {y z : Value} (hok : okT P t = true) (ha : RepM w E ob a y) (hx : RepM w E ob x z) {ob' : List Ob} (h : storeM P ob t a x = some ob') :
    ∃ w', (Instr.storeAt t y z).run P w = .ok () w' ∧ Step w E ob w' E ob' := by
  obtain ⟨d, hd⟩ := under_of_ok hok
  obtain ⟨ti, hti⟩ := info_of_under hd
  unfold storeM at h
  split at h
  · rename_i i g off ms hms
    cases ha with
    | mp hp =>
      split at h
      · rename_i o ho
        split at h
        · rename_i hsz
          split at h
          · rename_i hle
            obtain rfl := Option.some.inj h
            obtain ⟨hob, hnil, hit, hgen, rfl, arr, lo, hi, hblk, hfz, hasz, hrow⟩ := at_obj hh hp ho
            obtain ⟨c1, c2, c3⟩ := rep_cells hx hms
            have hlen := hrow.len
            obtain ⟨w', hr, a1, a2, a3, a4, a5, cur', hc, hcs, hcj⟩ := store_cells (P := P) (E.blk i) o.ty lo hi z.cells.toList 0 off arr w hblk hfz (by simp; omega) c2
            refine ⟨w', ?_, ?_⟩
            · simp [Instr.storeAt, Instr.sureAddr, storeVar, run_size hti, c1, hsz, hr]
            · have := step_set hh hob hnil hit (lay o.cs off ms) o.gen (Nat.le_refl _) cur' o.ty lo hi rfl (w' := w') ?_ (fun j hj => hfz j (by omega)) (by omega) a1 a2 a3 a4 a5 hc
              · exact this
              · intro j m hm
                rw [getElem?_lay _ _ _ hle] at hm
                rw [hcj j]
                simp only [Nat.add_zero, Array.length_toList, c1]
                split at hm
                · rename_i hin
                  rw [if_pos hin]
                  obtain ⟨v, hv, h1v, hrv⟩ := c3 _ m hm
                  exact ⟨v, by rw [Array.getElem?_toList]; exact hv, h1v, hrv⟩
                · rename_i hin
                  rw [if_neg hin]
                  exact hrow j m hm
          · simp at h
        · simp at h
      · simp at h
  · simp at h

/-! ### addresses and parts -/
theorem asI_rep {m : M} {y : Value} {i : Int} (h : RepM w E ob m y) (hi : asI m = some i) : ∃ k, y = .int k i := by
  unfold asI at hi
  split at hi
  · rename_i k j
    obtain rfl := Option.some.inj hi
    cases h with
    | c hc => cases hc; exact ⟨k, rfl⟩
  · simp at hi

theorem rep_drop {S : Nat → Prop} {cs : List C} {a : Addr} {ys : Nat → Value} (n : Nat)
    (h1 : ∀ j c, cs[j]? = some c → S a.block ∧ one1 (ys j) = true ∧ w.cell? (a.add j) = some (ys j)) (h2 : ∀ j c, cs[j]? = some c → RepC w S c (ys j)) : RepC w S (.ptr (cs.drop n)) (.pointer (some (a.add n))) := by
  refine .ptr _ _ (fun j => ys (n + j)) (fun j c hc => ?_) (fun j c hc => ?_)
  · rw [List.getElem?_drop] at hc
    obtain ⟨p, q, r⟩ := h1 _ c hc
    exact ⟨by rw [add_block]; exact p, q, by rw [add_add]; exact r⟩
  · rw [List.getElem?_drop] at hc
    exact h2 _ c hc

theorem add_obj (b off n : Nat) : (⟨b, off, none⟩ : Addr).add n = ⟨b, off + n, none⟩ := by
  unfold Addr.add
  split <;> simp_all

theorem live_ok {i g off n : Nat} {y : Value} {o : Ob} (hq : SlOK E ob i g off n y) (hl : liveS ob i g = some o) :
    ob[i]? = some o ∧ o.iter = none ∧ g = o.gen ∧ (o.nil = true → y = .slice none 0 0 ∧ n = 0 ∧ off = 0) ∧ (o.nil = false → ∃ cap, y = .slice (some ⟨E.blk i, off, none⟩) n cap ∧ n ≤ cap ∧ off + cap * o.sz ≤ E.asz i) := by
  obtain ⟨q1, o', ho, hit, hg, hr⟩ := hq
  unfold liveS at hl
  rw [ho] at hl
  simp only at hl
  split at hl
  · rename_i e
    split at hl
    · simp at hl
    · obtain rfl := Option.some.inj hl
      exact ⟨ho, hit, e, (hr e).1, (hr e).2⟩
  · simp at hl

theorem sound_indexAddr (hh : HeapOK w E ob) {t : TypeId} {x ix m : M} {y z : Value} (hx : RepM w E ob x y) (hi : RepM w E ob ix z) (he : ∀ e, P.underlying t = some (.slice e) → okT P e = true) (ha : ∀ n e, P.underlying t = some (.array n e) → okT P e = true)
    (h : indexAddrM P ob t x ix = some m) : ∃ v, (Instr.indexAt t y z).run P w = .ok v w ∧ RepM w E ob m v := by
  unfold indexAddrM at h
  split at h
  · simp at h
  · rename_i i hai
    obtain ⟨k, rfl⟩ := asI_rep hi hai
    split at h
    · rename_i e cs n full hu
      split at h
      · rename_i h0
        split at h
        · rename_i hn
          obtain rfl := Option.some.inj h
          obtain ⟨d, hd⟩ := under_of_ok (he e hu)
          obtain ⟨ti, hti⟩ := info_of_under hd
          cases hx with
          | c hc =>
            cases hc with
            | nl full => exact absurd hn (by simp; omega)
            | sl cs n full a cap ys hf hn' h1 h2 =>
              refine ⟨.pointer (some (a.add (i.toNat * szT P e))), ?_, .c (rep_drop _ h1 h2)⟩
              simp [Instr.indexAt, asIntOf, run_underlying hu, h0, hn, run_size hti]
        · simp at h
      · simp at h
    · rename_i e id g off n hu
      split at h
      · rename_i o hl
        split at h
        · rename_i h0
          split at h
          · rename_i hn
            obtain rfl := Option.some.inj h
            obtain ⟨d, hd⟩ := under_of_ok (he e hu)
            obtain ⟨ti, hti⟩ := info_of_under hd
            cases hx with
            | ms hq =>
              obtain ⟨ho, hit, hg, r1, r2⟩ := live_ok hq hl
              cases hnil : o.nil with
              | true =>
                obtain ⟨rfl, rfl, rfl⟩ := r1 hnil
                exact absurd hn (by simp; omega)
              | false =>
                obtain ⟨cap, rfl, _, _⟩ := r2 hnil
                refine ⟨.pointer (some ((⟨E.blk id, off, none⟩ : Addr).add (i.toNat * szT P e))), ?_, .mp ⟨rfl, o, ho, hit, by omega, fun _ _ => by rw [add_obj]⟩⟩
                simp [Instr.indexAt, asIntOf, run_underlying hu, h0, hn, run_size hti]
          · simp at h
        · simp at h
      · simp at h
    · rename_i len e id g off hu
      split at h
      · rename_i o hl
        split at h
        · rename_i h0
          split at h
          · rename_i hn
            split at h
            · simp at h
            · rename_i htiny
              obtain rfl := Option.some.inj h
              obtain ⟨d, hd⟩ := under_of_ok (ha len e hu)
              obtain ⟨ti, hti⟩ := info_of_under hd
              cases hx with
              | mp hq =>
                obtain ⟨hob, hnil, hit, hgen, rfl, _⟩ := at_obj hh hq hl
                refine ⟨.pointer (some ((⟨E.blk id, off, none⟩ : Addr).add (i.toNat * szT P e))), ?_, .mp ⟨rfl, o, hob, hit, by omega, fun _ _ => by rw [add_obj]⟩⟩
                simp [Instr.indexAt, Instr.sureAddr, asIntOf, run_underlying hu, h0, hn, run_size hti]
          · simp at h
        · simp at h
      · simp at h
    · rename_i len e cs hu
      split at h
      · rename_i h0
        split at h
        · rename_i hn
          obtain rfl := Option.some.inj h
          obtain ⟨d, hd⟩ := under_of_ok (ha len e hu)
          obtain ⟨ti, hti⟩ := info_of_under hd
          cases hx with
          | c hc =>
            cases hc with
            | ptr cs a ys h1 h2 =>
              refine ⟨.pointer (some (a.add (i.toNat * szT P e))), ?_, .c (rep_drop _ h1 h2)⟩
              simp [Instr.indexAt, Instr.sureAddr, asIntOf, run_underlying hu, h0, hn, run_size hti]
        · simp at h
      · simp at h
    · simp at h

/-- A part of an aggregate. -/
theorem sound_part {t : TypeId} {ms : List M} {arr : Array Value} {off : Nat} {m : M} (hok : okT P t = true) (hs : arr.size = ms.length) (ho : ∀ j (hj : j < arr.size), one1 arr[j] = true) (hr : ∀ j (hj : j < arr.size) m, ms[j]? = some m → RepM w E ob m arr[j])
    (h : partM P t ms off = some m) : ∃ v, (part t arr off).run P w = .ok v w ∧ RepM w E ob m v := by
  obtain ⟨d, hd⟩ := under_of_ok hok
  obtain ⟨ti, hti⟩ := info_of_under hd
  unfold partM at h
  split at h
  · rename_i hagg
    split at h
    · rename_i hle
      obtain rfl := Option.some.inj h
      refine ⟨.agg (arr.extract off (off + szT P t)), by simp [part, run_isAgg hd, hagg, run_size hti], .agg _ _ (by simp; omega) (fun j hj => ?_) (fun j hj m hm => ?_)⟩
      · rw [Array.getElem_extract]
        exact ho _ _
      · rw [Array.getElem_extract]
        rw [getElem?_take_drop] at hm
        split at hm
        · exact hr _ _ m hm
        · simp at hm
    · simp at h
  · rename_i hagg
    have hlt : off < arr.size := by rw [hs]; exact (List.getElem?_eq_some_iff.1 h).1
    exact ⟨arr[off], by simp [part, run_isAgg hd, hagg, Array.getElem?_eq_getElem hlt], hr off hlt m h⟩

theorem toList_data (s : ByteArray) : s.toList = s.data.toList := ByteArray.toList_eq s
theorem sound_index {t : TypeId} {x ix m : M} {y z : Value} (hx : RepM w E ob x y) (hi : RepM w E ob ix z) (ha : ∀ n e, P.underlying t = some (.array n e) → okT P e = true)
    (h : indexM P t x ix = some m) : ∃ v, (Instr.index t y z).run P w = .ok v w ∧ RepM w E ob m v := by
  unfold indexM at h
  split at h
  · simp at h
  · rename_i i hai
    obtain ⟨k, rfl⟩ := asI_rep hi hai
    split at h
    · rename_i len e ms hu
      split at h
      · rename_i h0
        split at h
        · rename_i hn
          obtain ⟨d, hd⟩ := under_of_ok (ha len e hu)
          obtain ⟨ti, hti⟩ := info_of_under hd
          cases hx with
          | agg ms arr hs ho hr =>
            obtain ⟨v, hv, hrv⟩ := sound_part (ha len e hu) hs ho hr h
            exact ⟨v, by simp [Instr.index, asIntOf, run_underlying hu, h0, hn, run_size hti, hv], hrv⟩
        · simp at h
      · simp at h
    · rename_i s hu
      split at h
      · rename_i h0
        split at h
        · rename_i hn
          obtain rfl := Option.some.inj h
          cases hx with
          | c hc =>
            cases hc
            have hlt : i.toNat < s.size := by omega
            refine ⟨.int .u8 (s[i.toNat]'hlt).toNat, ?_, ?_⟩
            · simp [Instr.index, asIntOf, run_underlying hu, h0, hlt]
            · have : byteAt s i.toNat = ((s[i.toNat]'hlt).toNat : Int) := by
                unfold byteAt
                rw [toList_data]
                simp [List.getD_eq_getElem?_getD, hlt]
                rfl
              rw [this]
              exact .c (.v _)
        · simp at h
      · simp at h
    · simp at h

theorem sound_field {t : TypeId} {x m : M} {y : Value} {f : Nat} (hx : RepM w E ob x y) (hs : ∀ fs q, P.underlying t = some (.struct fs) → fs[f]? = some q → okT P q.type = true) (h : fieldM P t x f = some m) :
    ∃ v, (Instr.field t y f).run P w = .ok v w ∧ RepM w E ob m v := by
  unfold fieldM at h
  split at h
  · rename_i fs ms hu
    split at h
    · rename_i q hq
      cases hx with
      | agg ms arr hsz ho hr =>
        obtain ⟨v, hv, hrv⟩ := sound_part (hs fs q hu hq) hsz ho hr h
        exact ⟨v, by simp [Instr.field, run_underlying hu, hq, asAgg, hv], hrv⟩
    · simp at h
  · simp at h

theorem sound_fieldAddr (hh : HeapOK w E ob) {t : TypeId} {x m : M} {y : Value} {f : Nat} (hx : RepM w E ob x y) (hs : ∀ fs q, P.underlying t = some (.struct fs) → fs[f]? = some q → okT P q.type = true) (h : fieldAddrM P ob t x f = some m) :
    ∃ v, (Instr.fieldAt t y f).run P w = .ok v w ∧ RepM w E ob m v := by
  unfold fieldAddrM at h
  split at h
  · rename_i fs hu
    split at h
    · rename_i q hq
      obtain ⟨d, hd⟩ := under_of_ok (hs fs q hu hq)
      obtain ⟨ti, hti⟩ := info_of_under hd
      split at h
      · simp at h
      · rename_i hz
        split at h
        · rename_i cs
          obtain rfl := Option.some.inj h
          cases hx with
          | c hc =>
            cases hc with
            | ptr cs a ys h1 h2 => exact ⟨.pointer (some (a.add q.offset)), by simp [Instr.fieldAt, run_underlying hu, hq, Instr.sureAddr, fieldPlace, run_size hti, hz], .c (rep_drop _ h1 h2)⟩
        · rename_i i g off
          split at h
          · rename_i o hl
            obtain rfl := Option.some.inj h
            cases hx with
            | mp hp =>
              obtain ⟨hob, hnil, hit, hgen, rfl, _⟩ := at_obj hh hp hl
              refine ⟨.pointer (some ((⟨E.blk i, off, none⟩ : Addr).add q.offset)), by simp [Instr.fieldAt, run_underlying hu, hq, Instr.sureAddr, fieldPlace, run_size hti, hz], .mp ⟨rfl, o, hob, hit, by omega, fun _ _ => by rw [add_obj]⟩⟩
          · simp at h
        · simp at h
    · simp at h
  · simp at h

theorem sound_len {t ty : TypeId} {x : M} {y : Value} {n : Int} (hx : RepM w E ob x y) (h : lenM P ob t x = some n) : (Builtin.len_ #[t] ty #[y]).run P w = .ok (.int .i64 n) w := by
  unfold lenM at h
  split at h
  · rename_i s
    split at h
    · rename_i hu
      obtain rfl := Option.some.inj h
      cases hx with
      | c hc => cases hc; simp [Builtin.len_, run_underlying hu, goInt]
    · simp at h
  · rename_i n' c
    split at h
    · rename_i e hu
      obtain rfl := Option.some.inj h
      cases hx with
      | c hc => cases hc; simp [Builtin.len_, run_underlying hu, goInt]
    · simp at h
  · rename_i cs n' full
    split at h
    · rename_i e hu
      obtain rfl := Option.some.inj h
      cases hx with
      | c hc => cases hc <;> simp [Builtin.len_, run_underlying hu, goInt]
    · simp at h
  · rename_i i g off n'
    split at h
    · rename_i e o hu hl
      obtain rfl := Option.some.inj h
      cases hx with
      | ms hq =>
        obtain ⟨ho, hit, hg, r1, r2⟩ := live_ok hq hl
        cases hnil : o.nil with
        | true =>
          obtain ⟨rfl, rfl, rfl⟩ := r1 hnil
          simp [Builtin.len_, run_underlying hu, goInt]
        | false =>
          obtain ⟨cap, rfl, _⟩ := r2 hnil
          simp [Builtin.len_, run_underlying hu, goInt]
    · simp at h
  · rename_i ms
    split at h
    · rename_i k e hu
      obtain rfl := Option.some.inj h
      cases hx
      simp [Builtin.len_, run_underlying hu, goInt]
    · simp at h
  · simp at h

end Go.Av
