/- Contracts hold beside objects of which they do not speak. -/
import Derived.Test.YtofomnllcmgfeaaAv32
set_option linter.unusedVariables false
set_option linter.unusedSimpArgs false
namespace Go.Av
open Go
variable {P : Program} {X : Ctx}
/-- Beside objects that stand behind: where nothing of those ahead leads to them, and no object is left behind. -/
theorem Den.frameS {f : FuncId} {args : List M} {ob : List Ob} {Q : M → List Ob → Prop} (suf : List Ob) (ha : ltBs ob.length args = true) (hc : ob.all (fun o => o.cs.all (ltB ob.length)) = true)
    (hq : ∀ r ob', Q r ob' → ob'.length = ob.length) (h : Den P f args ob Q) : Den P f args (ob ++ suf) (fun r ob' => ∃ ob2, Q r ob2 ∧ ob' = ob2 ++ suf) := by
  intro w E vals h1 h2 h3
  have hlow : ∀ (i : Nat) (o : Ob), ob[i]? = some o → ∀ (j : Nat) m, o.cs[j]? = some m → Lt ob.length m := fun i o hi j m hj =>
    lt_of_ltB (List.all_eq_true.1 (List.all_eq_true.1 hc o (List.mem_of_getElem? hi)) m (List.mem_of_getElem? hj))
  have hup : ∀ (i : Nat) (o : Ob), ob[i]? = some o → (ob ++ suf)[i]? = some o := fun i o hi => by
    rw [List.getElem?_append_left (List.getElem?_eq_some_iff.1 hi).1]; exact hi
  have h0 : HeapOK w E ob := by
    refine ⟨fun i o hi => ?_, fun i j a b hi hj => h3.inj i j a b (hup _ _ hi) (hup _ _ hj), h3.stb, fun i o hi => h3.own i o (hup _ _ hi)⟩
    have := h3.obj i o (hup i o hi)
    unfold ObOK at this ⊢
    split
    · rename_i s p hit
      rw [hit] at this
      exact this
    · rename_i hit
      rw [hit] at this
      refine ⟨this.1, fun hn => ?_⟩
      obtain ⟨arr, lo, hi', e1, e2, e3, e4⟩ := this.2 hn
      refine ⟨arr, lo, hi', e1, e2, e3, fun j m hm => ?_⟩
      obtain ⟨y, y1, y2, y3⟩ := e4 j m hm
      exact ⟨y, y1, y2, rep_lower y3 (hlow i o hi j m hm)⟩
  refine (h w E vals h1 (fun j m hj => rep_lower (h2 j m hj) (lt_of_ltBs ha j m hj)) h0).mono ?_
  rintro v w' ⟨r, ob2, E', hQ, hr, hs⟩
  have hlen := hq r ob2 hQ
  have hsuf : ∀ (i : Nat) (o : Ob), ¬ i < ob.length → (ob2 ++ suf)[i]? = some o → (ob ++ suf)[i]? = some o := fun i o hi ho => by
    rw [List.getElem?_append_right (by omega)] at ho ⊢
    rw [← hlen]; exact ho
  have hfar : ∀ (i : Nat) (o : Ob), ¬ i < ob.length → (ob ++ suf)[i]? = some o → o.nil = false → ¬ owns E ob (E.blk i) := fun i o hi ho hn ⟨k, q, hk, hqn, he⟩ => by
    have := h3.inj k i q o (hup _ _ hk) ho hqn hn he
    have := (List.getElem?_eq_some_iff.1 hk).1
    omega
  obtain ⟨E2, hE2⟩ : ∃ E2 : Env, E2 = ⟨E'.st, fun i => if i < ob.length then E'.blk i else E.blk i, fun i => if i < ob.length then E'.asz i else E.asz i⟩ := ⟨_, rfl⟩
  have b1 : ∀ i, i < ob.length → E2.blk i = E'.blk i ∧ E2.asz i = E'.asz i := fun i hi => by rw [hE2]; simp [hi]
  have b2 : ∀ i, ¬ i < ob.length → E2.blk i = E.blk i ∧ E2.asz i = E.asz i := fun i hi => by rw [hE2]; simp [hi]
  have b3 : E2.st = E'.st := by rw [hE2]
  have k1 : Ext w' E' ob2 w' E2 (ob2 ++ suf) := ⟨fun b hb => ⟨by rw [b3]; exact hb, rfl⟩, fun i o hi => by
    have hl := (List.getElem?_eq_some_iff.1 hi).1
    obtain ⟨e1, e2⟩ := b1 i (by omega)
    exact ⟨o, by rw [List.getElem?_append_left hl]; exact hi, Nat.le_refl _, rfl, fun _ => e1, fun _ => ⟨rfl, rfl, e1, e2⟩⟩⟩
  have k2 : Ext w E (ob ++ suf) w' E2 (ob2 ++ suf) := ⟨fun b hb => by rw [b3]; exact hs.ext.st b hb, fun i o hi => by
    by_cases hl : i < ob.length
    · rw [List.getElem?_append_left hl] at hi
      obtain ⟨o', q1, q2, q3, q4, q5⟩ := hs.ext.ob i o hi
      obtain ⟨e1, e2⟩ := b1 i hl
      have hl2 := (List.getElem?_eq_some_iff.1 q1).1
      refine ⟨o', by rw [List.getElem?_append_left hl2]; exact q1, q2, q3, fun h => e1.trans (q4 h), fun h => ?_⟩
      obtain ⟨p1, p2, p3, p4⟩ := q5 h
      exact ⟨p1, p2, e1.trans p3, e2.trans p4⟩
    · obtain ⟨e1, e2⟩ := b2 i hl
      refine ⟨o, ?_, Nat.le_refl _, rfl, fun _ => e1, fun _ => ⟨rfl, rfl, e1, e2⟩⟩
      rw [List.getElem?_append_right (by omega)] at hi ⊢
      rw [hlen]; exact hi⟩
  have hstof : ∀ b, E2.st b → E.st b ∨ owns E ob b ∨ w.heap.size ≤ b := fun b hb => hs.base.st_of b (by rw [← b3]; exact hb)
  refine ⟨r, ob2 ++ suf, E2, ⟨ob2, hQ, rfl⟩, hr.keep k1, ⟨⟨fun i o hi => ?_, fun i j oi oj hi hj ni nj he => ?_, fun b hb => hs.heap.stb b (by rw [← b3]; exact hb), fun i o hi hn => ?_⟩, k2, ⟨hs.base.os, hs.base.tape, hs.base.output, hs.base.size, fun b hb hn => ?_, fun b hb => by rw [b3]; exact hs.base.st b hb, fun b hb => ?_, fun i o hi hn => ?_⟩⟩⟩
  · by_cases hl : i < ob.length
    · rw [List.getElem?_append_left (by omega)] at hi
      obtain ⟨e1, e2⟩ := b1 i hl
      exact (hs.heap.obj i o hi).keep k1 e1 e2 (fun _ => rfl)
    · obtain ⟨e1, e2⟩ := b2 i hl
      have ho := hsuf i o hl hi
      exact (h3.obj i o ho).keep k2 e1 e2 (fun hn => hs.base.block _ (h3.own i o ho hn).2 (hfar i o hl ho hn))
  · have cross : ∀ (i j : Nat) (oi oj : Ob), i < ob.length → ¬ j < ob.length → (ob2 ++ suf)[i]? = some oi → (ob2 ++ suf)[j]? = some oj → oi.nil = false → oj.nil = false → E2.blk i = E2.blk j → False := fun i j oi oj hl hl2 hi hj ni nj he => by
      have hoj := hsuf j oj hl2 hj
      rw [(b1 i hl).1, (b2 j hl2).1] at he
      rw [List.getElem?_append_left (by omega)] at hi
      rcases hs.base.own i oi hi ni with h | h
      · rw [he] at h; exact hfar j oj hl2 hoj nj h
      · have := (h3.own j oj hoj nj).2
        omega
    by_cases hl : i < ob.length <;> by_cases hl2 : j < ob.length
    · rw [List.getElem?_append_left (by omega)] at hi hj
      rw [(b1 i hl).1, (b1 j hl2).1] at he
      exact hs.heap.inj i j oi oj hi hj ni nj he
    · exact (cross i j oi oj hl hl2 hi hj ni nj he).elim
    · exact (cross j i oj oi hl2 hl hj hi nj ni he.symm).elim
    · rw [(b2 i hl).1, (b2 j hl2).1] at he
      exact h3.inj i j oi oj (hsuf i oi hl hi) (hsuf j oj hl2 hj) ni nj he
  · by_cases hl : i < ob.length
    · rw [List.getElem?_append_left (by omega)] at hi
      rw [(b1 i hl).1, b3]
      exact hs.heap.own i o hi hn
    · have ho := hsuf i o hl hi
      rw [(b2 i hl).1]
      have hown := h3.own i o ho hn
      refine ⟨fun hst => ?_, Nat.lt_of_lt_of_le hown.2 hs.base.size⟩
      rcases hstof _ hst with h | h | h
      · exact hown.1 h
      · exact hfar i o hl ho hn h
      · omega
  · exact hs.base.block b hb (fun ⟨k, q, hk, hqn, he⟩ => hn ⟨k, q, hup _ _ hk, hqn, he⟩)
  · rcases hstof b hb with h | ⟨k, q, hk, hqn, he⟩ | h
    · exact .inl h
    · exact .inr (.inl ⟨k, q, hup _ _ hk, hqn, he⟩)
    · exact .inr (.inr h)
  · by_cases hl : i < ob.length
    · rw [List.getElem?_append_left (by omega)] at hi
      rw [(b1 i hl).1]
      rcases hs.base.own i o hi hn with ⟨k, q, hk, hqn, he⟩ | h
      · exact .inl ⟨k, q, hup _ _ hk, hqn, he⟩
      · exact .inr h
    · rw [(b2 i hl).1]
      exact .inl ⟨i, o, hsuf i o hl hi, hn, rfl⟩
/-- The same, of a determined answer. -/
theorem Den.frame1 {f : FuncId} {args : List M} {ob ob2 : List Ob} {m : M} (suf : List Ob) (ha : ltBs ob.length args = true) (hc : ob.all (fun o => o.cs.all (ltB ob.length)) = true) (hl : ob2.length = ob.length)
    (h : Den P f args ob fun r ob' => r = m ∧ ob' = ob2) : Den P f args (ob ++ suf) (fun r ob' => r = m ∧ ob' = ob2 ++ suf) :=
  (Den.frameS suf ha hc (fun r ob' h => by rw [h.2]; exact hl) h).mono fun r ob' ⟨q, ⟨h1, h2⟩, h3⟩ => ⟨h1, by rw [h3, h2]⟩
end Go.Av
