/- States; one operation, in a state. -/
import Derived.Test.YtofomnllcmgfeaaAv11
import Derived.Test.YtofomnllcmgfeaaAv21
import Derived.Test.YtofomnllcmgfeaaAv25
set_option linter.unusedVariables false
set_option linter.unusedSimpArgs false
namespace Go.Av
open Go

structure St where
  fr : List (Nat × M)
  ob : List Ob

/-- Where a call began. -/
structure Ctx where
  w : World
  E : Env
  ob : List Ob
  N : Nat

/-- A state, borne by a frame and a world. -/
def Rel (X : Ctx) (s : St) (a : Act) (w : World) : Prop :=
  ∃ E, (∀ t m, get s.fr t = some m → t < X.N ∧ RepM w E s.ob m (a.tmps.getD t undef)) ∧ a.tmps.size = X.N ∧ a.defers = [] ∧ Step X.w X.E X.ob w E s.ob

/-! ### slots -/
theorem get_put (fr : List (Nat × M)) (t : Nat) (m : M) (u : Nat) : get (put fr t m) u = if t = u then some m else get fr u := by
  rfl
theorem get_keep (fr : List (Nat × M)) (ts : List Nat) (u : Nat) : get (keep fr ts) u = if u ∈ ts then get fr u else none := by
  induction ts with
  | nil => simp [keep, get]
  | cons t ts ih =>
    simp only [keep]
    cases h : get fr t with
    | none =>
      simp only
      rw [ih]
      by_cases e : u = t
      · subst e
        by_cases hm : u ∈ ts <;> simp [hm, h]
      · simp [e]
    | some m =>
      simp only [get]
      by_cases e : t = u
      · subst e
        simp [h]
      · rw [if_neg e, ih]
        simp [Ne.symm e]
def putO (fr : List (Nat × M)) (d : Option Nat) (m : M) : List (Nat × M) :=
  match d with
  | some t => put fr t m
  | none => fr

variable {P : Program} {X : Ctx} {s : St} {a : Act} {w : World}

theorem rel_op {E : Env} (h1 : ∀ t m, get s.fr t = some m → t < X.N ∧ RepM w E s.ob m (a.tmps.getD t undef)) {x : Operand} {m : M} (h : opM s.fr x = some m) : RepM w E s.ob m (a.eval x) := by
  cases x with
  | tmp t => exact (h1 t m h).2
  | const v => exact rep_const h
  | func f =>
    obtain rfl := Option.some.inj h
    exact .c (.v _)
  | global g => simp [opM] at h

theorem getD_put (arr : Array Value) (d : Nat) (v : Value) (t : Nat) (h : t < arr.size) : (arr.setIfInBounds d v).getD t undef = if d = t then v else arr.getD t undef := by
  simp only [Array.getD_eq_getD_getElem?, Array.getElem?_setIfInBounds]
  by_cases e : d = t
  · subst e; simp [h]
  · simp [e]

/-- A slot takes a value. -/
theorem rel_put {E E' : Env} {w' : World} {ob' : List Ob} (h1 : ∀ t m, get s.fr t = some m → t < X.N ∧ RepM w E s.ob m (a.tmps.getD t undef)) (h2 : a.tmps.size = X.N) (h3 : a.defers = []) (h4 : Step X.w X.E X.ob w E s.ob)
    (hs : Step w E s.ob w' E' ob') {d : Option Nat} (hd : ∀ t, d = some t → t < X.N) {m : M} {v : Value} (hm : RepM w' E' ob' m v) : Rel X ⟨putO s.fr d m, ob'⟩ (a.put d v) w' := by
  refine ⟨E', fun t m' hg => ?_, ?_, ?_, h4.trans hs⟩
  · cases d with
    | none =>
      obtain ⟨p, q⟩ := h1 t m' hg
      exact ⟨p, q.keep hs.ext⟩
    | some u =>
      have hu := hd u rfl
      simp only [putO, get_put] at hg
      split at hg
      · rename_i e
        subst e
        obtain rfl := Option.some.inj hg
        refine ⟨hu, ?_⟩
        simp only [Act.put]
        rw [getD_put _ _ _ _ (by omega), if_pos rfl]
        exact hm
      · rename_i e
        obtain ⟨p, q⟩ := h1 t m' hg
        refine ⟨p, ?_⟩
        simp only [Act.put]
        rw [getD_put _ _ _ _ (by omega), if_neg e]
        exact q.keep hs.ext
  · cases d <;> simp [Act.put, h2]
  · cases d <;> simp [Act.put, h3]

/-! ### one operation -/
def asB : Option M → Option Bool
  | some (.c (.v (.bool b))) => some b
  | _ => none
def mapOp (fr : List (Nat × M)) : List (Nat × Operand) → Option (List (Nat × M))
  | [] => some []
  | (i, x) :: r => match opM fr x, mapOp fr r with
    | some m, some l => some ((i, m) :: l)
    | _, _ => none
def mapArgs (fr : List (Nat × M)) : List Operand → Option (List M)
  | [] => some []
  | x :: r => match opM fr x, mapArgs fr r with
    | some m, some l => some (m :: l)
    | _, _ => none
def opO (fr : List (Nat × M)) : Option Operand → Option (Option M)
  | none => some none
  | some x => (opM fr x).map some
/-- Types of which elements and fields are in the table. -/
def okE (P : Program) (t : TypeId) : Bool :=
  match P.underlying t with
  | some (.slice e) => okT P e
  | some (.array _ e) => okT P e
  | some (.struct fs) => fs.all fun f => okT P f.type
  | _ => true
def okZ (P : Program) (t : TypeId) : Bool :=
  match P.underlying t with
  | some (.slice e) => match (P.info? e).bind (·.zero) with
    | some z => z.cells.size == szT P e
    | none => false
  | _ => true
def nilOK (ob : List Ob) : M → Option M
  | .c (.ptr cs) => some (.c (.ptr cs))
  | .mp i g off => match obAt ob i g with
    | some _ => some (.mp i g off)
    | none => none
  | _ => none
def with_ (ob : List Ob) (m : Option M) : Option (M × List Ob) :=
  match m with
  | some m => some (m, ob)
  | none => none
def evBuiltin (P : Program) (fr : List (Nat × M)) (ob : List Ob) (b : Builtin) (xs : List Operand) (ts : List TypeId) : Option (M × List Ob) :=
  match b, xs, ts with
  | .len, [x], [t] => match opM fr x with
    | some m => match lenM P ob t m with
      | some n => some (.c (.v (.int .i64 n)), ob)
      | none => none
    | none => none
  | .append, [x, y], [t, tx] => if okZ P t then (match opM fr x, opM fr y with
    | some m, some v => appendM P ob t tx m v
    | _, _ => none) else none
  | .copy, [x, y], [t, tx] => if okZ P t then (match opM fr x, opM fr y with
    | some m, some v => copyM P ob t tx m v
    | _, _ => none) else none
  | .unsafeSliceData, [x], _ => match opM fr x with
    | some m => with_ ob (usdM ob m)
    | none => none
  | .unsafeString, [x, y], [t, _] => match opM fr x, opM fr y with
    | some m, some v => ustrM P ob t m v
    | _, _ => none
  | .min, [x, y], _ => match opM fr x, opM fr y with
    | some m, some v => with_ ob (minmaxM false m v)
    | _, _ => none
  | .max, [x, y], _ => match opM fr x, opM fr y with
    | some m, some v => with_ ob (minmaxM true m v)
    | _, _ => none
  | .cap, [x], [t] => match opM fr x with
    | some m => with_ ob (capM P ob t m)
    | none => none
  | _, _, _ => none
def evOp (P : Program) (fr : List (Nat × M)) (ob : List Ob) (o : Op) (ty : TypeId) : Option (M × List Ob) :=
  match o with
  | .move x => with_ ob (opM fr x)
  | .assign x => with_ ob (opM fr x)
  | .pick c x y => match asB (opM fr c) with
    | some b => if b then with_ ob (opM fr x) else with_ ob (opM fr y)
    | none => none
  | .alloc e => allocM P ob e
  | .box e x => match opM fr x with
    | some m => boxM P ob e m
    | none => none
  | .build t parts => if okE P t then (match mapOp fr parts.toList with
    | some l => with_ ob (buildM P t l)
    | none => none) else none
  | .buildSlice t len parts => match mapOp fr parts.toList with
    | some l => with_ ob (buildSliceM P t len l)
    | none => none
  | .load t x => if okT P t then (match opM fr x with
    | some m => with_ ob (loadM P ob t m)
    | none => none) else none
  | .store t x y => if okT P t then (match opM fr x, opM fr y with
    | some m, some v => match storeM P ob t m v with
      | some ob' => some (.junk, ob')
      | none => none
    | _, _ => none) else none
  | .nilCheck x => match opM fr x with
    | some m => with_ ob (nilOK ob m)
    | none => none
  | .binOp op t x y _ => match opM fr x, opM fr y with
    | some m, some v => with_ ob (binM P ob op t m v)
    | _, _ => none
  | .unOp op _ x => match opM fr x with
    | some m => with_ ob (unM op m)
    | none => none
  | .convert src dst x => match opM fr x with
    | some m => convM P ob src dst m
    | none => none
  | .makeSlice t l c => match opM fr l, opM fr c with
    | some m, some v => makeSliceM P ob t m v
    | _, _ => none
  | .slice t x lo hi mx => if okE P t then (match opM fr x, opO fr lo, opO fr hi, opO fr mx with
    | some m, some l, some h, some q => if q.isSome && h.isNone then none else with_ ob (sliceM P ob t m l h q)
    | _, _, _, _ => none) else none
  | .fieldAddr t x f => if okE P t then (match opM fr x with
    | some m => with_ ob (fieldAddrM P ob t m f)
    | none => none) else none
  | .field t x f => if okE P t then (match opM fr x with
    | some m => with_ ob (fieldM P t m f)
    | none => none) else none
  | .indexAddr t x ix => if okE P t then (match opM fr x, opM fr ix with
    | some m, some v => with_ ob (indexAddrM P ob t m v)
    | _, _ => none) else none
  | .index t x ix => if okE P t then (match opM fr x, opM fr ix with
    | some m, some v => with_ ob (indexM P t m v)
    | _, _ => none) else none
  | .extract x i => match opM fr x with
    | some m => with_ ob (extractM m i)
    | none => none
  | .call c => match c.callee with
    | .builtin b => evBuiltin P fr ob b c.args.toList c.argTypes.toList
    | _ => none
  | .range t x => match opM fr x with
    | some m => rangeM P ob t m
    | none => none
  | .makeInterface t x => match opM fr x with
    | some m => with_ ob (mkIfaceM P t m)
    | none => none
  | .typeAssert x _ t ok => match opM fr x with
    | some m => with_ ob (assertM P t ok m)
    | none => none
  | .makeFunc fn first cap => match mapArgs fr first.toList, mapArgs fr cap.toList with
    | some a, some b => with_ ob (some (.mf fn a b))
    | _, _ => none
  | .next x b => if b then (match opM fr x with
    | some m => nextM ob m
    | none => none) else none
  | _ => none

theorem with_some {ob ob' : List Ob} {m : Option M} {r : M} (h : with_ ob m = some (r, ob')) : m = some r ∧ ob' = ob := by
  unfold with_ at h
  split at h
  · simp only [Option.some.injEq, Prod.mk.injEq] at h
    exact ⟨by rw [h.1], h.2.symm⟩
  · simp at h

theorem map_parts {E : Env} (h1 : ∀ t m, get s.fr t = some m → t < X.N ∧ RepM w E s.ob m (a.tmps.getD t undef)) {parts : List (Nat × Operand)} {l : List (Nat × M)} (h : mapOp s.fr parts = some l) :
    parts.length = l.length ∧ ∀ (k : Nat) i m, l[k]? = some (i, m) → ∃ v, (parts.map fun p => (p.1, a.eval p.2))[k]? = some (i, v) ∧ RepM w E s.ob m v := by
  induction parts generalizing l with
  | nil =>
    obtain rfl := Option.some.inj h
    exact ⟨rfl, fun k i m hk => by simp at hk⟩
  | cons p parts ih =>
    obtain ⟨i, x⟩ := p
    simp only [mapOp] at h
    split at h
    · rename_i m l' hx hl
      obtain rfl := Option.some.inj h
      obtain ⟨e1, e2⟩ := ih hl
      refine ⟨by simp [e1], fun k j q hk => ?_⟩
      cases k with
      | zero =>
        simp only [List.getElem?_cons_zero, Option.some.injEq, Prod.mk.injEq] at hk
        obtain ⟨rfl, rfl⟩ := hk
        exact ⟨a.eval x, rfl, rel_op h1 hx⟩
      | succ k =>
        obtain ⟨v, hv, hr⟩ := e2 k j q (by simpa using hk)
        exact ⟨v, by simpa using hv, hr⟩
    · simp at h

theorem opO_rep {E : Env} (h1 : ∀ t m, get s.fr t = some m → t < X.N ∧ RepM w E s.ob m (a.tmps.getD t undef)) {x : Option Operand} {m : Option M} (h : opO s.fr x = some m) : RepO w E s.ob m (x.map a.eval) := by
  cases x with
  | none =>
    obtain rfl := Option.some.inj h
    trivial
  | some x =>
    obtain ⟨q, hq, rfl⟩ := Option.map_eq_some_iff.1 h
    exact rel_op h1 hq

theorem args_rep {E : Env} (h1 : ∀ t m, get s.fr t = some m → t < X.N ∧ RepM w E s.ob m (a.tmps.getD t undef)) {xs : List Operand} {l : List M} (h : mapArgs s.fr xs = some l) :
    xs.length = l.length ∧ ∀ (j : Nat) m, l[j]? = some m → RepM w E s.ob m ((xs.map a.eval)[j]?.getD undef) := by
  induction xs generalizing l with
  | nil =>
    obtain rfl := Option.some.inj h
    exact ⟨rfl, fun j m hj => by simp at hj⟩
  | cons x xs ih =>
    simp only [mapArgs] at h
    split at h
    · rename_i m l' hx hl
      obtain rfl := Option.some.inj h
      obtain ⟨e1, e2⟩ := ih hl
      refine ⟨by simp [e1], fun j q hj => ?_⟩
      cases j with
      | zero =>
        obtain rfl := Option.some.inj hj
        exact rel_op h1 hx
      | succ j => exact e2 j q (by simpa using hj)
    · simp at h

theorem okE_slice {t e : TypeId} (h : okE P t = true) (hu : P.underlying t = some (.slice e)) : okT P e = true := by
  unfold okE at h; rw [hu] at h; exact h
theorem okE_array {t e : TypeId} {n : Nat} (h : okE P t = true) (hu : P.underlying t = some (.array n e)) : okT P e = true := by
  unfold okE at h; rw [hu] at h; exact h
theorem okE_struct {t : TypeId} {fs : Array Field} {k : Nat} {f : Field} (h : okE P t = true) (hu : P.underlying t = some (.struct fs)) (hf : fs[k]? = some f) : okT P f.type = true := by
  unfold okE at h
  rw [hu] at h
  obtain ⟨hk, rfl⟩ := Array.getElem?_eq_some_iff.1 hf
  exact (Array.all_eq_true.1 h) k hk
theorem okZ_slice {t e : TypeId} (h : okZ P t = true) (hu : P.underlying t = some (.slice e)) : ∃ i z, P.info? e = some i ∧ i.zero = some z ∧ z.cells.size = szT P e := by
  unfold okZ at h
  rw [hu] at h
  simp only at h
  split at h
  · rename_i z hz
    obtain ⟨i, hi, hiz⟩ := zero_of_ok hz
    exact ⟨i, z, hi, hiz, by simpa using h⟩
  · simp at h

/-- One operation. -/
theorem sound_op {E : Env} (h1 : ∀ t m, get s.fr t = some m → t < X.N ∧ RepM w E s.ob m (a.tmps.getD t undef)) (hh : HeapOK w E s.ob) {o : Oper} {m : M} {ob' : List Ob} (h : evOp P s.fr s.ob o.op o.type = some (m, ob')) :
    ∃ v w' E', ((execOp a.eval o).run P w = .ok (.value v) w' ∨ ((execOp a.eval o).run P w = .ok .skip w' ∧ v = undef)) ∧ RepM w' E' ob' m v ∧ Step w E s.ob w' E' ob' := by
  obtain ⟨dst, op, ty, pos, after, guard⟩ := o
  simp only at h
  have pure_ : ∀ {r : M} {v : Value} {m' : Option M}, with_ s.ob m' = some (m, ob') → (∀ r, m' = some r → ∃ v, (execOp a.eval ⟨dst, op, ty, pos, after, guard⟩).run P w = .ok (.value v) w ∧ RepM w E s.ob r v) →
      ∃ v w' E', ((execOp a.eval ⟨dst, op, ty, pos, after, guard⟩).run P w = .ok (.value v) w' ∨ ((execOp a.eval ⟨dst, op, ty, pos, after, guard⟩).run P w = .ok .skip w' ∧ v = undef)) ∧ RepM w' E' ob' m v ∧ Step w E s.ob w' E' ob' := by
    intro r v m' hw hr
    obtain ⟨rfl, rfl⟩ := with_some hw
    obtain ⟨v, q1, q2⟩ := hr _ rfl
    exact ⟨v, w, E, .inl q1, q2, .refl hh⟩
  have eff : (∃ v w' E', (execOp a.eval ⟨dst, op, ty, pos, after, guard⟩).run P w = .ok (.value v) w' ∧ RepM w' E' ob' m v ∧ Step w E s.ob w' E' ob') →
      ∃ v w' E', ((execOp a.eval ⟨dst, op, ty, pos, after, guard⟩).run P w = .ok (.value v) w' ∨ ((execOp a.eval ⟨dst, op, ty, pos, after, guard⟩).run P w = .ok .skip w' ∧ v = undef)) ∧ RepM w' E' ob' m v ∧ Step w E s.ob w' E' ob' := by
    rintro ⟨v, w', E', q1, q2, q3⟩
    exact ⟨v, w', E', .inl q1, q2, q3⟩
  cases op with
  | move x => exact pure_ (r := .junk) (v := undef) h (fun r hr => ⟨_, rfl, rel_op h1 hr⟩)
  | assign x => exact pure_ (r := .junk) (v := undef) h (fun r hr => ⟨_, rfl, rel_op h1 hr⟩)
  | pick c x y =>
    simp only [evOp] at h
    split at h
    · rename_i b hb
      have hc : a.eval c = .bool b := by
        unfold asB at hb
        split at hb
        · rename_i b' hq
          obtain rfl := Option.some.inj hb
          have := rel_op h1 hq
          generalize a.eval c = z at this
          cases this with
          | c hc => cases hc; rfl
        · simp at hb
      cases b with
      | true =>
        simp only [if_true] at h
        exact pure_ (r := .junk) (v := undef) h (fun r hr => ⟨_, by simp [execOp, hc, asBool], rel_op h1 hr⟩)
      | false =>
        simp only [Bool.false_eq_true, if_false] at h
        exact pure_ (r := .junk) (v := undef) h (fun r hr => ⟨_, by simp [execOp, hc, asBool], rel_op h1 hr⟩)
    · simp at h
  | alloc e =>
    obtain ⟨v, w', E', q1, q2, q3⟩ := sound_alloc hh h
    exact eff ⟨v, w', E', by simp [execOp, q1], q2, q3⟩
  | box e x =>
    simp only [evOp] at h
    split at h
    · rename_i q hq
      obtain ⟨v, w', E', q1, q2, q3⟩ := sound_box hh (rel_op h1 hq) h
      exact eff ⟨v, w', E', by simp [execOp, q1], q2, q3⟩
    · simp at h
  | build t parts =>
    simp only [evOp] at h
    obtain ⟨hok, h⟩ := of_ite h
    split at h
    · rename_i l hl
      obtain ⟨p1, p2⟩ := map_parts h1 hl
      refine pure_ (r := .junk) (v := undef) h (fun r hr => ?_)
      obtain ⟨v, q1, q2⟩ := sound_build (pv := parts.map fun p => (p.1, a.eval p.2)) (fun fs k f hu hf => okE_struct hok hu hf) (fun n e hu => okE_array hok hu) (by simpa using p1) (fun k i m hk => by
        obtain ⟨v, hv, hr⟩ := p2 k i m hk
        refine ⟨v, ?_, hr⟩
        rw [← Array.getElem?_toList]
        simpa using hv) hr
      exact ⟨v, by simp [execOp, q1], q2⟩
    · simp at h
  | buildSlice t len parts =>
    simp only [evOp] at h
    split at h
    · rename_i l hl
      obtain ⟨p1, p2⟩ := map_parts h1 hl
      obtain ⟨hb, rfl⟩ := with_some h
      obtain ⟨v, w', E', q1, q2, q3⟩ := sound_buildSlice (pv := parts.map fun p => (p.1, a.eval p.2)) hh (by simpa using p1) (fun k i m hk => by
        obtain ⟨v, hv, hr⟩ := p2 k i m hk
        refine ⟨v, ?_, hr⟩
        rw [← Array.getElem?_toList]
        simpa using hv) hb
      exact eff ⟨v, w', E', by simp [execOp, q1], q2, q3⟩
    · simp at h
  | load t x =>
    simp only [evOp] at h
    obtain ⟨hok, h⟩ := of_ite h
    split at h
    · rename_i q hq
      refine pure_ (r := .junk) (v := undef) h (fun r hr => ?_)
      obtain ⟨v, q1, q2⟩ := sound_load hh hok (rel_op h1 hq) hr
      exact ⟨v, by simp [execOp, q1], q2⟩
    · simp at h
  | store t x y =>
    simp only [evOp] at h
    obtain ⟨hok, h⟩ := of_ite h
    split at h
    · rename_i q r hq hr
      split at h
      · rename_i ob1 hs
        simp only [Option.some.injEq, Prod.mk.injEq] at h
        obtain ⟨rfl, rfl⟩ := h
        obtain ⟨w', q1, q2⟩ := sound_store hh hok (rel_op h1 hq) (rel_op h1 hr) hs
        exact ⟨undef, w', E, .inr ⟨by simp [execOp, q1], rfl⟩, .junk _, q2⟩
      · simp at h
    · simp at h
  | nilCheck x =>
    simp only [evOp] at h
    split at h
    · rename_i q hq
      refine pure_ (r := .junk) (v := undef) h (fun r hr => ?_)
      have hx := rel_op h1 hq
      unfold nilOK at hr
      split at hr
      · obtain rfl := Option.some.inj hr
        generalize hy : a.eval x = y at hx
        cases hx with
        | c hc =>
          cases hc with
          | ptr _ ad ys c1 c2 => exact ⟨.pointer (some ad), by simp [execOp, hy], .c (.ptr _ ad ys c1 c2)⟩
      · split at hr
        · rename_i o ho
          obtain rfl := Option.some.inj hr
          generalize hy : a.eval x = y at hx
          cases hx with
          | mp hp =>
            obtain ⟨_, _, _, _, rfl, _⟩ := at_obj hh hp ho
            exact ⟨_, by simp [execOp, hy], .mp hp⟩
        · simp at hr
      · simp at hr
    · simp at h
  | binOp op t x y yt =>
    simp only [evOp] at h
    split at h
    · rename_i q r hq hr
      refine pure_ (r := .junk) (v := undef) h (fun z hz => ?_)
      obtain ⟨v, q1, q2⟩ := sound_bin hh (rel_op h1 hq) (rel_op h1 hr) hz x y
      refine ⟨v, ?_, q2⟩
      simp only [execOp]
      rw [Sem.run_bind, q1]
      rfl
    · simp at h
  | unOp op t x =>
    simp only [evOp] at h
    split at h
    · rename_i q hq
      refine pure_ (r := .junk) (v := undef) h (fun z hz => ?_)
      obtain ⟨v, q1, q2⟩ := sound_un (P := P) (rel_op h1 hq) hz
      exact ⟨v, by simp [execOp, q1], q2⟩
    · simp at h
  | convert src dst x =>
    simp only [evOp] at h
    split at h
    · rename_i q hq
      obtain ⟨v, w', E', q1, q2, q3⟩ := sound_conv hh (rel_op h1 hq) h
      exact eff ⟨v, w', E', by simp [execOp, q1], q2, q3⟩
    · simp at h
  | makeSlice t l c =>
    simp only [evOp] at h
    split at h
    · rename_i q r hq hr
      obtain ⟨v, w', E', q1, q2, q3⟩ := sound_makeSlice hh (rel_op h1 hq) (rel_op h1 hr) h
      exact eff ⟨v, w', E', by simp [execOp, q1], q2, q3⟩
    · simp at h
  | slice t x lo hi mx =>
    simp only [evOp] at h
    obtain ⟨hok, h⟩ := of_ite h
    split at h
    · rename_i q l u k hq hl hu hk
      split at h
      · simp at h
      · rename_i hmx
        refine pure_ (r := .junk) (v := undef) h (fun z hz => ?_)
        obtain ⟨v, q1, q2⟩ := sound_slice hh (rel_op h1 hq) (opO_rep h1 hl) (opO_rep h1 hu) (opO_rep h1 hk) (by
          cases k <;> cases u <;> simp at hmx ⊢) (fun e he => okE_slice hok he) (fun n e he => okE_array hok he) hz
        exact ⟨v, by simp [execOp, q1], q2⟩
    · simp at h
  | fieldAddr t x f =>
    simp only [evOp] at h
    obtain ⟨hok, h⟩ := of_ite h
    split at h
    · rename_i q hq
      refine pure_ (r := .junk) (v := undef) h (fun z hz => ?_)
      obtain ⟨v, q1, q2⟩ := sound_fieldAddr hh (rel_op h1 hq) (fun fs q hu hf => okE_struct hok hu hf) hz
      exact ⟨v, by simp [execOp, q1], q2⟩
    · simp at h
  | field t x f =>
    simp only [evOp] at h
    obtain ⟨hok, h⟩ := of_ite h
    split at h
    · rename_i q hq
      refine pure_ (r := .junk) (v := undef) h (fun z hz => ?_)
      obtain ⟨v, q1, q2⟩ := sound_field (rel_op h1 hq) (fun fs q hu hf => okE_struct hok hu hf) hz
      exact ⟨v, by simp [execOp, q1], q2⟩
    · simp at h
  | indexAddr t x ix =>
    simp only [evOp] at h
    obtain ⟨hok, h⟩ := of_ite h
    split at h
    · rename_i q r hq hr
      refine pure_ (r := .junk) (v := undef) h (fun z hz => ?_)
      obtain ⟨v, q1, q2⟩ := sound_indexAddr hh (rel_op h1 hq) (rel_op h1 hr) (fun e he => okE_slice hok he) (fun n e he => okE_array hok he) hz
      exact ⟨v, by simp [execOp, q1], q2⟩
    · simp at h
  | index t x ix =>
    simp only [evOp] at h
    obtain ⟨hok, h⟩ := of_ite h
    split at h
    · rename_i q r hq hr
      refine pure_ (r := .junk) (v := undef) h (fun z hz => ?_)
      obtain ⟨v, q1, q2⟩ := sound_index (rel_op h1 hq) (rel_op h1 hr) (fun n e he => okE_array hok he) hz
      exact ⟨v, by simp [execOp, q1], q2⟩
    · simp at h
  | extract x i =>
    simp only [evOp] at h
    split at h
    · rename_i q hq
      refine pure_ (r := .junk) (v := undef) h (fun z hz => ?_)
      obtain ⟨v, q1, q2⟩ := sound_extract (P := P) (rel_op h1 hq) hz
      exact ⟨v, by simp [execOp, q1], q2⟩
    · simp at h
  | call c =>
    obtain ⟨callee, args, argTypes⟩ := c
    cases callee with
    | builtin b =>
      obtain ⟨xs⟩ := args
      obtain ⟨ts⟩ := argTypes
      simp only [evOp] at h
      unfold evBuiltin at h
      split at h
      · rename_i x t
        split at h
        · rename_i q hq
          split at h
          · rename_i n hn
            simp only [Option.some.injEq, Prod.mk.injEq] at h
            obtain ⟨rfl, rfl⟩ := h
            have q1 := sound_len (P := P) (ty := ty) (rel_op h1 hq) hn
            exact eff ⟨_, w, E, by simp [execOp, resolve, invoke, builtin, q1], .c (.v _), .refl hh⟩
          · simp at h
        · simp at h
      · rename_i x y t tx
        obtain ⟨hok, h⟩ := of_ite h
        split at h
        · rename_i q r hq hr
          obtain ⟨v, w', E', q1, q2, q3⟩ := sound_append (ty := ty) hh (rel_op h1 hq) (rel_op h1 hr) (fun e he => okZ_slice hok he) h
          exact eff ⟨v, w', E', by simp [execOp, resolve, invoke, builtin, q1], q2, q3⟩
        · simp at h
      · rename_i x y t tx
        obtain ⟨hok, h⟩ := of_ite h
        split at h
        · rename_i q r hq hr
          obtain ⟨v, w', E', q1, q2, q3⟩ := sound_copy (ty := ty) hh (rel_op h1 hq) (rel_op h1 hr) (fun e he => by obtain ⟨i, _, hi, _⟩ := okZ_slice hok he; exact ⟨i, hi⟩) h
          exact eff ⟨v, w', E', by simp [execOp, resolve, invoke, builtin, q1], q2, q3⟩
        · simp at h
      · rename_i x
        split at h
        · rename_i q hq
          refine pure_ (r := .junk) (v := undef) h (fun z hz => ?_)
          obtain ⟨v, q1, q2⟩ := sound_usd (P := P) hh ts.toArray ty (rel_op h1 hq) hz
          exact ⟨v, by simp [execOp, resolve, invoke, builtin, q1], q2⟩
        · simp at h
      · rename_i x y t it
        split at h
        · rename_i q r hq hr
          obtain ⟨v, w', E', q1, q2, q3⟩ := sound_ustr (P := P) hh t it ty (rel_op h1 hq) (rel_op h1 hr) h
          exact eff ⟨v, w', E', by simp [execOp, resolve, invoke, builtin, q1], q2, q3⟩
        · simp at h
      · rename_i x y
        split at h
        · rename_i q r hq hr
          refine pure_ (r := .junk) (v := undef) h (fun z hz => ?_)
          obtain ⟨v, q1, q2⟩ := sound_min (P := P) ts.toArray ty (rel_op h1 hq) (rel_op h1 hr) hz
          exact ⟨v, by simp [execOp, resolve, invoke, builtin, q1], q2⟩
        · simp at h
      · rename_i x y
        split at h
        · rename_i q r hq hr
          refine pure_ (r := .junk) (v := undef) h (fun z hz => ?_)
          obtain ⟨v, q1, q2⟩ := sound_max (P := P) ts.toArray ty (rel_op h1 hq) (rel_op h1 hr) hz
          exact ⟨v, by simp [execOp, resolve, invoke, builtin, q1], q2⟩
        · simp at h
      · rename_i x t
        split at h
        · rename_i q hq
          refine pure_ (r := .junk) (v := undef) h (fun z hz => ?_)
          obtain ⟨v, q1, q2⟩ := sound_cap (P := P) (ty := ty) hh (rel_op h1 hq) hz
          exact ⟨v, by simp [execOp, resolve, invoke, builtin, q1], q2⟩
        · simp at h
      · simp at h
    | _ => simp [evOp] at h
  | range t x =>
    simp only [evOp] at h
    split at h
    · rename_i q hq
      obtain ⟨v, w', E', q1, q2, q3⟩ := sound_range (P := P) hh (rel_op h1 hq) h
      exact eff ⟨v, w', E', by simp [execOp, q1], q2, q3⟩
    · simp at h
  | makeInterface t x =>
    simp only [evOp] at h
    split at h
    · rename_i q hq
      refine pure_ (r := .junk) (v := undef) h (fun z hz => ?_)
      obtain ⟨v, q1, q2⟩ := sound_mkIface (P := P) (rel_op h1 hq) hz
      exact ⟨v, by simp [execOp, q1], q2⟩
    · simp at h
  | typeAssert x xt t ok =>
    simp only [evOp] at h
    split at h
    · rename_i q hq
      refine pure_ (r := .junk) (v := undef) h (fun z hz => ?_)
      obtain ⟨v, q1, q2⟩ := sound_assert (P := P) (xt := xt) (rel_op h1 hq) hz
      exact ⟨v, by simp [execOp, q1], q2⟩
    · simp at h
  | makeFunc fn first cap =>
    simp only [evOp] at h
    split at h
    · rename_i l1 l2 hl1 hl2
      refine pure_ (r := .junk) (v := undef) h (fun z hz => ?_)
      obtain rfl := Option.some.inj hz
      obtain ⟨p1, p2⟩ := args_rep h1 hl1
      obtain ⟨p3, p4⟩ := args_rep h1 hl2
      refine ⟨.func fn (first.map a.eval) (cap.map a.eval), by simp [execOp, Instr.makeFunc], .mf fn l1 l2 _ _ (by simpa using p1) (by simpa using p3) (fun j hj m hm => ?_) (fun j hj m hm => ?_)⟩
      · have := p2 j m hm
        rw [List.getElem?_map, Array.getElem?_toList, Array.getElem?_eq_getElem (by simpa using hj)] at this
        simpa using this
      · have := p4 j m hm
        rw [List.getElem?_map, Array.getElem?_toList, Array.getElem?_eq_getElem (by simpa using hj)] at this
        simpa using this
    · simp at h
  | next x b =>
    simp only [evOp] at h
    obtain ⟨hb, h⟩ := of_ite h
    split at h
    · rename_i q hq
      obtain ⟨v, w', E', q1, q2, q3⟩ := sound_next (P := P) (ty := ty) hh (rel_op h1 hq) h
      exact eff ⟨v, w', E', by simp [execOp, hb, q1], q2, q3⟩
    · simp at h
  | _ => simp [evOp] at h

end Go.Av
