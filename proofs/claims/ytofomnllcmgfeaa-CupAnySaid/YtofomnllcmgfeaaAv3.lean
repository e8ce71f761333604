/- What a step of the world does to objects: a new block, a block written, an object moved to a new block, an object given up. -/
import Derived.Test.YtofomnllcmgfeaaAv2
set_option linter.unusedVariables false
set_option linter.unusedSimpArgs false
namespace Go.Av
open Go

def owns (E : Env) (ob : List Ob) (b : Nat) : Prop := ∃ (i : Nat) (o : Ob), ob[i]? = some o ∧ o.nil = false ∧ E.blk i = b
/-- A step: from one state to the next. -/
structure Step (w : World) (E : Env) (ob : List Ob) (w' : World) (E' : Env) (ob' : List Ob) : Prop where
  heap : HeapOK w' E' ob'
  ext : Ext w E ob w' E' ob'
  base : Base w (owns E ob) E.st w' E' ob'

theorem Base.refl (w : World) (E : Env) (ob : List Ob) : Base w (owns E ob) E.st w E ob :=
  ⟨rfl, rfl, rfl, Nat.le_refl _, fun _ _ _ => rfl, fun _ h => h, fun _ h => .inl h, fun i o h hn => .inl ⟨i, o, h, hn, rfl⟩⟩
theorem Base.trans {w0 : World} {own0 st0 : Nat → Prop} {w w' : World} {E E' : Env} {ob ob' : List Ob} (h : Base w0 own0 st0 w E ob) (k : Base w (owns E ob) E.st w' E' ob') : Base w0 own0 st0 w' E' ob' := by
  have ho : ∀ b, owns E ob b → own0 b ∨ w0.heap.size ≤ b := by
    rintro b ⟨i, o, hi, hn, rfl⟩
    exact h.own i o hi hn
  have hs := h.size
  refine ⟨k.os.trans h.os, k.tape.trans h.tape, k.output.trans h.output, Nat.le_trans hs k.size, fun b hb hn => ?_, fun b hb => k.st b (h.st b hb), fun b hb => ?_, fun i o hi hn => ?_⟩
  · exact (k.block b (by omega) (fun hw => by rcases ho b hw with h1 | h1; exact hn h1; omega)).trans (h.block b hb hn)
  · rcases k.st_of b hb with h1 | h1 | h1
    · exact h.st_of b h1
    · exact .inr (ho b h1)
    · exact .inr (.inr (by omega))
  · rcases k.own i o hi hn with h1 | h1
    · exact ho _ h1
    · exact .inr (by omega)
theorem Step.refl {w : World} {E : Env} {ob : List Ob} (h : HeapOK w E ob) : Step w E ob w E ob := ⟨h, .refl _ _ _, .refl _ _ _⟩
theorem Step.trans {w w1 w2 : World} {E E1 E2 : Env} {ob ob1 ob2 : List Ob} (h : Step w E ob w1 E1 ob1) (k : Step w1 E1 ob1 w2 E2 ob2) : Step w E ob w2 E2 ob2 :=
  ⟨k.heap, h.ext.trans k.ext, h.base.trans k.base⟩

def upd {α : Type} (f : Nat → α) (i : Nat) (x : α) : Nat → α := fun k => if k = i then x else f k
theorem upd_same {α : Type} (f : Nat → α) (i : Nat) (x : α) : upd f i x i = x := by simp [upd]
theorem upd_ne {α : Type} (f : Nat → α) (i : Nat) (x : α) {k : Nat} (h : k ≠ i) : upd f i x k = f k := by simp [upd, h]

theorem ObOK.keep {w w' : World} {E E' : Env} {ob ob' : List Ob} {i : Nat} {o : Ob} (hk : Ext w E ob w' E' ob') (hb : E'.blk i = E.blk i) (ha : E'.asz i = E.asz i) (hw : o.nil = false → w'.heap[E.blk i]? = w.heap[E.blk i]?) (h : ObOK w E ob i o) : ObOK w' E' ob' i o := by
  unfold ObOK at *
  split
  · rename_i s p hi
    rw [hi] at h
    exact ⟨by rw [hb, hw h.2]; exact h.1, h.2⟩
  · rename_i hi
    rw [hi] at h
    refine ⟨h.1, fun hn => ?_⟩
    obtain ⟨arr, lo, hii, h1, h2, h3, h4⟩ := h.2 hn
    exact ⟨arr, lo, hii, by rw [hb, hw hn]; exact h1, h2, by rw [ha]; exact h3, h4.keep hk⟩

theorem getElem?_snoc {α : Type} (l : List α) (x : α) (i : Nat) : (l ++ [x])[i]? = if i < l.length then l[i]? else if i = l.length then some x else none := by
  by_cases h : i < l.length
  · rw [if_pos h, List.getElem?_append_left h]
  · rw [if_neg h]
    by_cases e : i = l.length
    · subst e; rw [if_pos rfl, List.getElem?_append_right (Nat.le_refl _)]; simp
    · rw [if_neg e]; exact List.getElem?_eq_none (by simp; omega)

/-- A new block, an object of its own. -/
theorem step_new {w w' : World} {E : Env} {ob : List Ob} (hh : HeapOK w E ob) (ty sz : Nat) (cs : List M) (arr : Array Value) (hr : Row w E ob cs arr) (lo hi : Nat) (hf : ∀ j, j < arr.size → ¬ (lo ≤ j ∧ j < hi))
    (h1 : w'.os = w.os) (h2 : w'.tape = w.tape) (h3 : w'.output = w.output) (h4 : w'.heap = w.heap.push (.cells arr ty (lo, hi))) :
    Step w E ob w' { E with blk := upd E.blk ob.length w.heap.size, asz := upd E.asz ob.length arr.size } (newOb ob ty sz cs) := by
  have hold : ∀ b, b < w.heap.size → w'.heap[b]? = w.heap[b]? := fun b hb => by rw [h4, Array.getElem?_push, if_neg (by omega)]
  have hnew : w'.heap[w.heap.size]? = some (.cells arr ty (lo, hi)) := by rw [h4]; simp
  have hsz : w'.heap.size = w.heap.size + 1 := by rw [h4]; simp
  have hext : Ext w E ob w' { E with blk := upd E.blk ob.length w.heap.size, asz := upd E.asz ob.length arr.size } (newOb ob ty sz cs) := by
    refine ⟨fun b hb => ⟨hb, hold b (hh.stb b hb)⟩, fun i o ho => ?_⟩
    have hlt : i < ob.length := (List.getElem?_eq_some_iff.1 ho).1
    refine ⟨o, by unfold newOb; rw [getElem?_snoc, if_pos hlt]; exact ho, Nat.le_refl _, rfl, fun _ => upd_ne _ _ _ (by omega), fun _ => ⟨rfl, rfl, upd_ne _ _ _ (by omega), upd_ne _ _ _ (by omega)⟩⟩
  refine ⟨⟨fun i o ho => ?_, fun i j oi oj hi hj ni nj he => ?_, fun b hb => by have := hh.stb b hb; omega, fun i o ho hn => ?_⟩, hext, ?_⟩
  · unfold newOb at ho
    rw [getElem?_snoc] at ho
    split at ho
    · rename_i hlt
      have h0 := hh.obj i o ho
      exact h0.keep hext (upd_ne _ _ _ (by omega)) (upd_ne _ _ _ (by omega)) (fun hn => hold _ (hh.own i o ho hn).2)
    · split at ho
      · rename_i e
        subst e
        obtain rfl := Option.some.inj ho
        simp only [ObOK]
        exact ⟨by simp, fun _ => ⟨arr, lo, hi, by rw [upd_same]; exact hnew, hf, (upd_same _ _ _).symm, hr.keep hext⟩⟩
      · simp at ho
  · unfold newOb at hi hj
    rw [getElem?_snoc] at hi hj
    simp only [upd] at he
    split at hi <;> split at hj
    · rename_i p q
      rw [if_neg (by omega), if_neg (by omega)] at he
      exact hh.inj i j oi oj hi hj ni nj he
    · split at hj
      · rename_i p q r
        rw [if_neg (by omega), if_pos r] at he
        have := (hh.own i oi hi ni).2
        omega
      · simp at hj
    · split at hi
      · rename_i p q r
        rw [if_pos r, if_neg (by omega)] at he
        have := (hh.own j oj hj nj).2
        omega
      · simp at hi
    · split at hi
      · split at hj
        · omega
        · simp at hj
      · simp at hi
  · unfold newOb at ho
    rw [getElem?_snoc] at ho
    split at ho
    · rename_i p
      have := hh.own i o ho hn
      simp only [upd]
      rw [if_neg (by omega)]
      exact ⟨this.1, by omega⟩
    · split at ho
      · rename_i e
        simp only [upd]
        rw [if_pos e]
        exact ⟨fun hs => by have := hh.stb _ hs; omega, by omega⟩
      · simp at ho
  · refine ⟨h1, h2, h3, by omega, fun b hb _ => hold b hb, fun b hb => hb, fun b hb => .inl hb, fun i o ho hn => ?_⟩
    unfold newOb at ho
    rw [getElem?_snoc] at ho
    simp only [upd]
    split at ho
    · rename_i p
      rw [if_neg (by omega)]
      exact .inl ⟨i, o, ho, hn, rfl⟩
    · split at ho
      · rename_i e
        rw [if_pos e]
        exact .inr (Nat.le_refl _)
      · simp at ho

/-- An object that has no block: a nil slice that may grow. -/
theorem step_nil {w : World} {E : Env} {ob : List Ob} (hh : HeapOK w E ob) (ty sz : Nat) : Step w E ob w E (ob ++ [{ ty := ty, sz := sz, nil := true, gen := 0, cs := [] }]) := by
  have hext : Ext w E ob w E (ob ++ [{ ty := ty, sz := sz, nil := true, gen := 0, cs := [] }]) := by
    refine ⟨fun b hb => ⟨hb, rfl⟩, fun i o ho => ?_⟩
    have hlt : i < ob.length := (List.getElem?_eq_some_iff.1 ho).1
    exact ⟨o, by rw [getElem?_snoc, if_pos hlt]; exact ho, Nat.le_refl _, rfl, fun _ => rfl, fun _ => ⟨rfl, rfl, rfl, rfl⟩⟩
  have hold : ∀ (i : Nat) (o : Ob), (ob ++ [{ ty := ty, sz := sz, nil := true, gen := 0, cs := [] }])[i]? = some o → o.nil = false → ob[i]? = some o := by
    intro i o ho hn
    rw [getElem?_snoc] at ho
    split at ho
    · exact ho
    · split at ho
      · obtain rfl := Option.some.inj ho
        simp at hn
      · simp at ho
  refine ⟨⟨fun i o ho => ?_, fun i j oi oj hi hj ni nj he => hh.inj i j oi oj (hold i oi hi ni) (hold j oj hj nj) ni nj he, hh.stb, fun i o ho hn => hh.own i o (hold i o ho hn) hn⟩, hext, ?_⟩
  · rw [getElem?_snoc] at ho
    split at ho
    · exact (hh.obj i o ho).keep hext rfl rfl (fun _ => rfl)
    · split at ho
      · obtain rfl := Option.some.inj ho
        simp [ObOK]
      · simp at ho
  · exact ⟨rfl, rfl, rfl, Nat.le_refl _, fun _ _ _ => rfl, fun _ h => h, fun _ h => .inl h, fun i o ho hn => .inl ⟨i, o, hold i o ho hn, hn, rfl⟩⟩

theorem getElem?_set {α : Type} (l : List α) (i j : Nat) (x : α) : (l.set i x)[j]? = if i = j then (if i < l.length then some x else none) else l[j]? := by
  rw [List.getElem?_set]

/-- An object's block has been written. -/
theorem step_set {w w' : World} {E : Env} {ob : List Ob} (hh : HeapOK w E ob) {i : Nat} {o : Ob} (ho : ob[i]? = some o) (hni : o.nil = false) (hit : o.iter = none) (cs' : List M) (g' : Nat) (hg : o.gen ≤ g') (arr' : Array Value) (ty' lo hi : Nat) (hty : ty' = o.ty)
    (hr : Row w E ob cs' arr') (hf : ∀ j, j < arr'.size → ¬ (lo ≤ j ∧ j < hi)) (hsz : arr'.size = E.asz i)
    (h1 : w'.os = w.os) (h2 : w'.tape = w.tape) (h3 : w'.output = w.output) (h4 : w'.heap.size = w.heap.size) (h5 : ∀ b, b ≠ E.blk i → w'.heap[b]? = w.heap[b]?) (h6 : w'.heap[E.blk i]? = some (.cells arr' ty' (lo, hi))) :
    Step w E ob w' E (ob.set i { o with cs := cs', gen := g' }) := by
  subst hty
  have hlt : i < ob.length := (List.getElem?_eq_some_iff.1 ho).1
  have hext : Ext w E ob w' E (ob.set i { o with cs := cs', gen := g' }) := by
    refine ⟨fun b hb => ⟨hb, h5 b (fun e => (hh.own i o ho hni).1 (e ▸ hb))⟩, fun k q hq => ?_⟩
    by_cases e : i = k
    · subst e
      obtain rfl := Option.some.inj (ho.symm.trans hq)
      exact ⟨{ o with cs := cs', gen := g' }, by rw [getElem?_set, if_pos rfl, if_pos hlt], hg, rfl, fun _ => rfl, fun _ => ⟨rfl, rfl, rfl, rfl⟩⟩
    · exact ⟨q, by rw [getElem?_set, if_neg e]; exact hq, Nat.le_refl _, rfl, fun _ => rfl, fun _ => ⟨rfl, rfl, rfl, rfl⟩⟩
  have hback : ∀ (k : Nat) (q : Ob), (ob.set i { o with cs := cs', gen := g' })[k]? = some q → ∃ q0, ob[k]? = some q0 ∧ q0.nil = q.nil := by
    intro k q hq
    rw [getElem?_set] at hq
    split at hq
    · rename_i e
      subst e
      try rw [if_pos hlt] at hq
      obtain rfl := Option.some.inj hq
      exact ⟨o, ho, rfl⟩
    · exact ⟨q, hq, rfl⟩
  refine ⟨⟨fun k q hq => ?_, fun a b oa ob_ ha hb na nb he => ?_, fun b hb => by rw [h4]; exact hh.stb b hb, fun k q hq hn => ?_⟩, hext, ⟨h1, h2, h3, by omega, fun b hb hn => h5 b (fun e => hn ⟨i, o, ho, hni, e.symm⟩), fun b hb => hb, fun b hb => .inl hb, fun k q hq hn => ?_⟩⟩
  · rw [getElem?_set] at hq
    split at hq
    · rename_i e
      subst e
      try rw [if_pos hlt] at hq
      obtain rfl := Option.some.inj hq
      unfold ObOK
      split
      · rename_i s p hi0
        simp [hit] at hi0
      · exact ⟨fun h => by simp [hni] at h, fun _ => ⟨arr', lo, hi, h6, hf, hsz, hr.keep hext⟩⟩
    · rename_i e
      exact (hh.obj k q hq).keep hext rfl rfl (fun hn => h5 _ (fun eb => e (hh.inj i k o q ho hq hni hn eb.symm)))
  · obtain ⟨qa, ha1, ha2⟩ := hback a oa ha
    obtain ⟨qb, hb1, hb2⟩ := hback b ob_ hb
    exact hh.inj a b qa qb ha1 hb1 (ha2.trans na) (hb2.trans nb) he
  · obtain ⟨q0, hq1, hq2⟩ := hback k q hq
    rw [h4]
    exact hh.own k q0 hq1 (hq2.trans hn)
  · obtain ⟨q0, hq1, hq2⟩ := hback k q hq
    exact .inl ⟨k, q0, hq1, hq2.trans hn, rfl⟩

/-- An object has moved to a new block. -/
theorem step_move {w w' : World} {E : Env} {ob : List Ob} (hh : HeapOK w E ob) {i : Nat} {o : Ob} (ho : ob[i]? = some o) (hit : o.iter = none) (cs' : List M) (g' : Nat) (hg : o.gen < g') (arr : Array Value) (ty' : Nat) (hty : ty' = o.ty)
    (hr : Row w E ob cs' arr) (h1 : w'.os = w.os) (h2 : w'.tape = w.tape) (h3 : w'.output = w.output) (h4 : w'.heap = w.heap.push (.cells arr ty' (0, 0))) :
    Step w E ob w' { E with blk := upd E.blk i w.heap.size, asz := upd E.asz i arr.size } (ob.set i { o with nil := false, cs := cs', gen := g' }) := by
  subst hty
  have hlt : i < ob.length := (List.getElem?_eq_some_iff.1 ho).1
  have hold : ∀ b, b < w.heap.size → w'.heap[b]? = w.heap[b]? := fun b hb => by rw [h4, Array.getElem?_push, if_neg (by omega)]
  have hnew : w'.heap[w.heap.size]? = some (.cells arr o.ty (0, 0)) := by rw [h4]; simp
  have hsz : w'.heap.size = w.heap.size + 1 := by rw [h4]; simp
  have hext : Ext w E ob w' { E with blk := upd E.blk i w.heap.size, asz := upd E.asz i arr.size } (ob.set i { o with nil := false, cs := cs', gen := g' }) := by
    refine ⟨fun b hb => ⟨hb, hold b (hh.stb b hb)⟩, fun k q hq => ?_⟩
    by_cases e : i = k
    · subst e
      obtain rfl := Option.some.inj (ho.symm.trans hq)
      exact ⟨{ o with nil := false, cs := cs', gen := g' }, by rw [getElem?_set, if_pos rfl, if_pos hlt], Nat.le_of_lt hg, rfl, fun h => by simp [hit] at h, fun h => by simp at h; omega⟩
    · exact ⟨q, by rw [getElem?_set, if_neg e]; exact hq, Nat.le_refl _, rfl, fun _ => upd_ne _ _ _ (Ne.symm e), fun _ => ⟨rfl, rfl, upd_ne _ _ _ (Ne.symm e), upd_ne _ _ _ (Ne.symm e)⟩⟩
  refine ⟨⟨fun k q hq => ?_, fun a b oa ob_ ha hb na nb he => ?_, fun b hb => by have := hh.stb b hb; omega, fun k q hq hn => ?_⟩, hext, ⟨h1, h2, h3, by omega, fun b hb hn => hold b hb, fun b hb => hb, fun b hb => .inl hb, fun k q hq hn => ?_⟩⟩
  · rw [getElem?_set] at hq
    split at hq
    · rename_i e
      subst e
      try rw [if_pos hlt] at hq
      obtain rfl := Option.some.inj hq
      unfold ObOK
      split
      · rename_i s p hi0
        simp [hit] at hi0
      · exact ⟨fun h => by simp at h, fun _ => ⟨arr, 0, 0, by simp only [upd_same]; exact hnew, fun j _ => by omega, by simp only [upd_same], hr.keep hext⟩⟩
    · rename_i e
      exact (hh.obj k q hq).keep hext (upd_ne _ _ _ (Ne.symm e)) (upd_ne _ _ _ (Ne.symm e)) (fun hn => hold _ (hh.own k q hq hn).2)
  · rw [getElem?_set] at ha hb
    simp only [upd] at he
    split at ha <;> split at hb
    · omega
    · rename_i p q
      rw [if_pos p.symm, if_neg (Ne.symm q)] at he
      have := (hh.own b ob_ hb nb).2
      omega
    · rename_i p q
      rw [if_neg (Ne.symm p), if_pos q.symm] at he
      have := (hh.own a oa ha na).2
      omega
    · rename_i p q
      rw [if_neg (Ne.symm p), if_neg (Ne.symm q)] at he
      exact hh.inj a b oa ob_ ha hb na nb he
  · rw [getElem?_set] at hq
    simp only [upd]
    split at hq
    · rename_i e
      rw [if_pos e.symm]
      exact ⟨fun hs => by have := hh.stb _ hs; omega, by omega⟩
    · rename_i e
      rw [if_neg (Ne.symm e)]
      have := hh.own k q hq hn
      exact ⟨this.1, by omega⟩
  · rw [getElem?_set] at hq
    simp only [upd]
    split at hq
    · rename_i e
      rw [if_pos e.symm]
      exact .inr (Nat.le_refl _)
    · rename_i e
      rw [if_neg (Ne.symm e)]
      exact .inl ⟨k, q, hq, hn, rfl⟩

/-- A nil object's generation. -/
theorem step_bump {w : World} {E : Env} {ob : List Ob} (hh : HeapOK w E ob) {i : Nat} {o : Ob} (ho : ob[i]? = some o) (hni : o.nil = true) (hit : o.iter = none) :
    Step w E ob w E (ob.set i { o with gen := o.gen + 1 }) := by
  have hlt : i < ob.length := (List.getElem?_eq_some_iff.1 ho).1
  have hext : Ext w E ob w E (ob.set i { o with gen := o.gen + 1 }) := by
    refine ⟨fun b hb => ⟨hb, rfl⟩, fun k q hq => ?_⟩
    by_cases e : i = k
    · subst e
      obtain rfl := Option.some.inj (ho.symm.trans hq)
      exact ⟨{ o with gen := o.gen + 1 }, by rw [getElem?_set, if_pos rfl, if_pos hlt], Nat.le_succ _, rfl, fun _ => rfl, fun _ => ⟨rfl, rfl, rfl, rfl⟩⟩
    · exact ⟨q, by rw [getElem?_set, if_neg e]; exact hq, Nat.le_refl _, rfl, fun _ => rfl, fun _ => ⟨rfl, rfl, rfl, rfl⟩⟩
  have hback : ∀ (k : Nat) (q : Ob), (ob.set i { o with gen := o.gen + 1 })[k]? = some q → q.nil = false → ob[k]? = some q := by
    intro k q hq hn
    rw [getElem?_set] at hq
    split at hq
    · rename_i e
      subst e
      try rw [if_pos hlt] at hq
      obtain rfl := Option.some.inj hq
      simp [hni] at hn
    · exact hq
  refine ⟨⟨fun k q hq => ?_, fun a b oa ob_ ha hb na nb he => hh.inj a b oa ob_ (hback a oa ha na) (hback b ob_ hb nb) na nb he, hh.stb, fun k q hq hn => hh.own k q (hback k q hq hn) hn⟩, hext,
    ⟨rfl, rfl, rfl, Nat.le_refl _, fun _ _ _ => rfl, fun _ h => h, fun _ h => .inl h, fun k q hq hn => .inl ⟨k, q, hback k q hq hn, hn, rfl⟩⟩⟩
  rw [getElem?_set] at hq
  split at hq
  · rename_i e
    subst e
    try rw [if_pos hlt] at hq
    obtain rfl := Option.some.inj hq
    have h0 := hh.obj i o ho
    unfold ObOK at h0 ⊢
    rw [hit] at h0
    split
    · rename_i s p hi0
      simp [hit] at hi0
    · exact ⟨fun _ => h0.1 hni, fun hf => by simp [hni] at hf⟩
  · exact (hh.obj k q hq).keep hext rfl rfl (fun _ => rfl)

end Go.Av
