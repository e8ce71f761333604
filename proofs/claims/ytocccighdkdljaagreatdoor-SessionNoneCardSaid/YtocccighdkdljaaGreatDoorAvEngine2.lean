/- 2 texts of the program logic over abstract values, joined: each is proved without any condition beyond its own words. -/
import Derived.Test.YtocccighdkdljaaGreatDoorAvEngine1
import Derived.Scope
/- States; one operation, in a state. -/
set_option linter.unusedVariables false
set_option linter.unusedSimpArgs false
namespace Go.Av
open Go

structure St where
  fr : List (Nat × M)
  ob : List Ob

structure Ctx where
  w : World
  E : Env
  ob : List Ob
  N : Nat

def Rel (X : Ctx) (s : St) (a : Act) (w : World) : Prop :=
  ∃ E, (∀ t m, get s.fr t = some m → t < X.N ∧ RepM w E s.ob m (a.tmps.getD t undef)) ∧ a.tmps.size = X.N ∧ a.defers = [] ∧ Step X.w X.E X.ob w E s.ob

theorem get_put (fr : List (Nat × M)) (t : Nat) (m : M) (u : Nat) : get (put fr t m) u = if t = u then some m else get fr u := by
  rfl
theorem get_keep (fr : List (Nat × M)) (ts : List Nat) (u : Nat) : get (keep fr ts) u = if u ∈ ts then get fr u else none := by
  induction ts with
  | nil => simp [keep, get]
  | cons t ts ih =>
    simp only [keep]
    cases h : get fr t with
    | none =>
      simp only
      rw [ih]
      by_cases e : u = t
      · subst e
        by_cases hm : u ∈ ts <;> simp [hm, h]
      · simp [e]
    | some m =>
      simp only [get]
      by_cases e : t = u
      · subst e
        simp [h]
      · rw [if_neg e, ih]
        simp [Ne.symm e]
def putO (fr : List (Nat × M)) (d : Option Nat) (m : M) : List (Nat × M) :=
  match d with
  | some t => put fr t m
  | none => fr

variable {P : Program} {X : Ctx} {s : St} {a : Act} {w : World}

theorem rel_op {E : Env} (h1 : ∀ t m, get s.fr t = some m → t < X.N ∧ RepM w E s.ob m (a.tmps.getD t undef)) {x : Operand} {m : M} (h : opM s.fr x = some m) : RepM w E s.ob m (a.eval x) := by
  cases x with
  | tmp t => exact (h1 t m h).2
  | const v => exact rep_const h
  | func f =>
    obtain rfl := Option.some.inj h
    exact .c (.v _)
  | global g => simp [opM] at h

theorem getD_put (arr : Array Value) (d : Nat) (v : Value) (t : Nat) (h : t < arr.size) : (arr.setIfInBounds d v).getD t undef = if d = t then v else arr.getD t undef := by
  simp only [Array.getD_eq_getD_getElem?, Array.getElem?_setIfInBounds]
  by_cases e : d = t
  · subst e; simp [h]
  · simp [e]

theorem rel_put {E E' : Env} {w' : World} {ob' : List Ob} (h1 : ∀ t m, get s.fr t = some m → t < X.N ∧ RepM w E s.ob m (a.tmps.getD t undef)) (h2 : a.tmps.size = X.N) (h3 : a.defers = []) (h4 : Step X.w X.E X.ob w E s.ob)
    (hs : Step w E s.ob w' E' ob') {d : Option Nat} (hd : ∀ t, d = some t → t < X.N) {m : M} {v : Value} (hm : RepM w' E' ob' m v) : Rel X ⟨putO s.fr d m, ob'⟩ (a.put d v) w' := by
  refine ⟨E', fun t m' hg => ?_, ?_, ?_, h4.trans hs⟩
  · cases d with
    | none =>
      obtain ⟨p, q⟩ := h1 t m' hg
      exact ⟨p, q.keep hs.ext⟩
    | some u =>
      have hu := hd u rfl
      simp only [putO, get_put] at hg
      split at hg
      · rename_i e
        subst e
        obtain rfl := Option.some.inj hg
        refine ⟨hu, ?_⟩
        simp only [Act.put]
        rw [getD_put _ _ _ _ (by omega), if_pos rfl]
        exact hm
      · rename_i e
        obtain ⟨p, q⟩ := h1 t m' hg
        refine ⟨p, ?_⟩
        simp only [Act.put]
        rw [getD_put _ _ _ _ (by omega), if_neg e]
        exact q.keep hs.ext
  · cases d <;> simp [Act.put, h2]
  · cases d <;> simp [Act.put, h3]

def asB : Option M → Option Bool
  | some (.c (.v (.bool b))) => some b
  | _ => none
def mapOp (fr : List (Nat × M)) : List (Nat × Operand) → Option (List (Nat × M))
  | [] => some []
  | (i, x) :: r => match opM fr x, mapOp fr r with
    | some m, some l => some ((i, m) :: l)
    | _, _ => none
def mapArgs (fr : List (Nat × M)) : List Operand → Option (List M)
  | [] => some []
  | x :: r => match opM fr x, mapArgs fr r with
    | some m, some l => some (m :: l)
    | _, _ => none
def opO (fr : List (Nat × M)) : Option Operand → Option (Option M)
  | none => some none
  | some x => (opM fr x).map some
def okE (P : Program) (t : TypeId) : Bool :=
  match P.underlying t with
  | some (.slice e) => okT P e
  | some (.array _ e) => okT P e
  | some (.struct fs) => fs.all fun f => okT P f.type
  | _ => true
def okZ (P : Program) (t : TypeId) : Bool :=
  match P.underlying t with
  | some (.slice e) => match (P.info? e).bind (·.zero) with
    | some z => z.cells.size == szT P e
    | none => false
  | _ => true
def nilOK (ob : List Ob) : M → Option M
  | .c (.ptr cs) => some (.c (.ptr cs))
  | .mp i g off => match obAt ob i g with
    | some _ => some (.mp i g off)
    | none => none
  | _ => none
def with_ (ob : List Ob) (m : Option M) : Option (M × List Ob) :=
  match m with
  | some m => some (m, ob)
  | none => none
def evBuiltin (P : Program) (fr : List (Nat × M)) (ob : List Ob) (b : Builtin) (xs : List Operand) (ts : List TypeId) : Option (M × List Ob) :=
  match b, xs, ts with
  | .len, [x], [t] => match opM fr x with
    | some m => match lenM P ob t m with
      | some n => some (.c (.v (.int .i64 n)), ob)
      | none => none
    | none => none
  | .append, [x, y], [t, tx] => if okZ P t then (match opM fr x, opM fr y with
    | some m, some v => appendM P ob t tx m v
    | _, _ => none) else none
  | .copy, [x, y], [t, tx] => if okZ P t then (match opM fr x, opM fr y with
    | some m, some v => copyM P ob t tx m v
    | _, _ => none) else none
  | .unsafeSliceData, [x], _ => match opM fr x with
    | some m => with_ ob (usdM ob m)
    | none => none
  | .unsafeString, [x, y], [t, _] => match opM fr x, opM fr y with
    | some m, some v => ustrM P ob t m v
    | _, _ => none
  | .min, [x, y], _ => match opM fr x, opM fr y with
    | some m, some v => with_ ob (minmaxM false m v)
    | _, _ => none
  | .max, [x, y], _ => match opM fr x, opM fr y with
    | some m, some v => with_ ob (minmaxM true m v)
    | _, _ => none
  | .cap, [x], [t] => match opM fr x with
    | some m => with_ ob (capM P ob t m)
    | none => none
  | _, _, _ => none
def evOp (P : Program) (fr : List (Nat × M)) (ob : List Ob) (o : Op) (ty : TypeId) : Option (M × List Ob) :=
  match o with
  | .move x => with_ ob (opM fr x)
  | .assign x => with_ ob (opM fr x)
  | .pick c x y => match asB (opM fr c) with
    | some b => if b then with_ ob (opM fr x) else with_ ob (opM fr y)
    | none => none
  | .alloc e => allocM P ob e
  | .box e x => match opM fr x with
    | some m => boxM P ob e m
    | none => none
  | .build t parts => if okE P t then (match mapOp fr parts.toList with
    | some l => with_ ob (buildM P t l)
    | none => none) else none
  | .buildSlice t len parts => match mapOp fr parts.toList with
    | some l => buildSliceM P ob t len l
    | none => none
  | .load t x => if okT P t then (match opM fr x with
    | some m => with_ ob (loadM P ob t m)
    | none => none) else none
  | .store t x y => if okT P t then (match opM fr x, opM fr y with
    | some m, some v => match storeM P ob t m v with
      | some ob' => some (.junk, ob')
      | none => none
    | _, _ => none) else none
  | .nilCheck x => match opM fr x with
    | some m => with_ ob (nilOK ob m)
    | none => none
  | .binOp op t x y _ => match opM fr x, opM fr y with
    | some m, some v => with_ ob (binIf P op t y m (binM P ob op t m v))
    | _, _ => none
  | .unOp op _ x => match opM fr x with
    | some m => with_ ob (unM op m)
    | none => none
  | .convert src dst x => match opM fr x with
    | some m => convM P ob src dst m
    | none => none
  | .makeSlice t l c => match opM fr l, opM fr c with
    | some m, some v => makeSliceM P ob t m v
    | _, _ => none
  | .slice t x lo hi mx => if okE P t then (match opM fr x, opO fr lo, opO fr hi, opO fr mx with
    | some m, some l, some h, some q => if q.isSome && h.isNone then none else with_ ob (sliceM P ob t m l h q)
    | _, _, _, _ => none) else none
  | .fieldAddr t x f => if okE P t then (match opM fr x with
    | some m => with_ ob (fieldAddrM P ob t m f)
    | none => none) else none
  | .field t x f => if okE P t then (match opM fr x with
    | some m => with_ ob (fieldM P t m f)
    | none => none) else none
  | .indexAddr t x ix => if okE P t then (match opM fr x, opM fr ix with
    | some m, some v => with_ ob (indexAddrM P ob t m v)
    | _, _ => none) else none
  | .index t x ix => if okE P t then (match opM fr x, opM fr ix with
    | some m, some v => with_ ob (indexM P t m v)
    | _, _ => none) else none
  | .extract x i => match opM fr x with
    | some m => with_ ob (extractM m i)
    | none => none
  | .call c => match c.callee with
    | .builtin b => evBuiltin P fr ob b c.args.toList c.argTypes.toList
    | _ => none
  | .range t x => match opM fr x with
    | some m => rangeM P ob t m
    | none => none
  | .makeInterface t x => match opM fr x with
    | some m => with_ ob (mkIfaceM P t m)
    | none => none
  | .typeAssert x _ t ok => match opM fr x with
    | some m => with_ ob (assertM P t ok m)
    | none => none
  | .makeFunc fn first cap => match mapArgs fr first.toList, mapArgs fr cap.toList with
    | some a, some b => with_ ob (some (.mf fn a b))
    | _, _ => none
  | .next x b => if b then (match opM fr x with
    | some m => nextM ob m
    | none => none) else none
  | .makeMap t r => if r.isNone then some (makeMapM ob) else none
  | .entry x => match opM fr x with
    | some m => with_ ob (entryM ob m)
    | none => none
  | .lookup t x ix ok => match opM fr x, opM fr ix with
    | some m, some v => with_ ob (lookupM P ob t ok m v)
    | _, _ => none
  | .mapUpdate t x k y => match opM fr x, opM fr k, opM fr y with
    | some m, some q, some v => match mapUpdateM P ob t m q v with
      | some ob' => some (.junk, ob')
      | none => none
    | _, _, _ => none
  | _ => none

theorem with_some {ob ob' : List Ob} {m : Option M} {r : M} (h : with_ ob m = some (r, ob')) : m = some r ∧ ob' = ob := by
  unfold with_ at h
  split at h
  · simp only [Option.some.injEq, Prod.mk.injEq] at h
    exact ⟨by rw [h.1], h.2.symm⟩
  · simp at h

theorem map_parts {E : Env} (h1 : ∀ t m, get s.fr t = some m → t < X.N ∧ RepM w E s.ob m (a.tmps.getD t undef)) {parts : List (Nat × Operand)} {l : List (Nat × M)} (h : mapOp s.fr parts = some l) :
    parts.length = l.length ∧ ∀ (k : Nat) i m, l[k]? = some (i, m) → ∃ v, (parts.map fun p => (p.1, a.eval p.2))[k]? = some (i, v) ∧ RepM w E s.ob m v := by
  induction parts generalizing l with
  | nil =>
    obtain rfl := Option.some.inj h
    exact ⟨rfl, fun k i m hk => by simp at hk⟩
  | cons p parts ih =>
    obtain ⟨i, x⟩ := p
    simp only [mapOp] at h
    split at h
    · rename_i m l' hx hl
      obtain rfl := Option.some.inj h
      obtain ⟨e1, e2⟩ := ih hl
      refine ⟨by simp [e1], fun k j q hk => ?_⟩
      cases k with
      | zero =>
        simp only [List.getElem?_cons_zero, Option.some.injEq, Prod.mk.injEq] at hk
        obtain ⟨rfl, rfl⟩ := hk
        exact ⟨a.eval x, rfl, rel_op h1 hx⟩
      | succ k =>
        obtain ⟨v, hv, hr⟩ := e2 k j q (by simpa using hk)
        exact ⟨v, by simpa using hv, hr⟩
    · simp at h

theorem opO_rep {E : Env} (h1 : ∀ t m, get s.fr t = some m → t < X.N ∧ RepM w E s.ob m (a.tmps.getD t undef)) {x : Option Operand} {m : Option M} (h : opO s.fr x = some m) : RepO w E s.ob m (x.map a.eval) := by
  cases x with
  | none =>
    obtain rfl := Option.some.inj h
    trivial
  | some x =>
    obtain ⟨q, hq, rfl⟩ := Option.map_eq_some_iff.1 h
    exact rel_op h1 hq

theorem args_rep {E : Env} (h1 : ∀ t m, get s.fr t = some m → t < X.N ∧ RepM w E s.ob m (a.tmps.getD t undef)) {xs : List Operand} {l : List M} (h : mapArgs s.fr xs = some l) :
    xs.length = l.length ∧ ∀ (j : Nat) m, l[j]? = some m → RepM w E s.ob m ((xs.map a.eval)[j]?.getD undef) := by
  induction xs generalizing l with
  | nil =>
    obtain rfl := Option.some.inj h
    exact ⟨rfl, fun j m hj => by simp at hj⟩
  | cons x xs ih =>
    simp only [mapArgs] at h
    split at h
    · rename_i m l' hx hl
      obtain rfl := Option.some.inj h
      obtain ⟨e1, e2⟩ := ih hl
      refine ⟨by simp [e1], fun j q hj => ?_⟩
      cases j with
      | zero =>
        obtain rfl := Option.some.inj hj
        exact rel_op h1 hx
      | succ j => exact e2 j q (by simpa using hj)
    · simp at h

theorem okE_slice {t e : TypeId} (h : okE P t = true) (hu : P.underlying t = some (.slice e)) : okT P e = true := by
  unfold okE at h; rw [hu] at h; exact h
theorem okE_array {t e : TypeId} {n : Nat} (h : okE P t = true) (hu : P.underlying t = some (.array n e)) : okT P e = true := by
  unfold okE at h; rw [hu] at h; exact h
theorem okE_struct {t : TypeId} {fs : Array Field} {k : Nat} {f : Field} (h : okE P t = true) (hu : P.underlying t = some (.struct fs)) (hf : fs[k]? = some f) : okT P f.type = true := by
  unfold okE at h
  rw [hu] at h
  obtain ⟨hk, rfl⟩ := Array.getElem?_eq_some_iff.1 hf
  exact (Array.all_eq_true.1 h) k hk
theorem okZ_slice {t e : TypeId} (h : okZ P t = true) (hu : P.underlying t = some (.slice e)) : ∃ i z, P.info? e = some i ∧ i.zero = some z ∧ z.cells.size = szT P e := by
  unfold okZ at h
  rw [hu] at h
  simp only at h
  split at h
  · rename_i z hz
    obtain ⟨i, hi, hiz⟩ := zero_of_ok hz
    exact ⟨i, z, hi, hiz, by simpa using h⟩
  · simp at h

theorem sound_op {E : Env} (h1 : ∀ t m, get s.fr t = some m → t < X.N ∧ RepM w E s.ob m (a.tmps.getD t undef)) (hh : HeapOK w E s.ob) {o : Oper} {m : M} {ob' : List Ob} (h : evOp P s.fr s.ob o.op o.type = some (m, ob')) :
    ∃ v w' E', ((execOp a.eval o).run P w = .ok (.value v) w' ∨ ((execOp a.eval o).run P w = .ok .skip w' ∧ v = undef)) ∧ RepM w' E' ob' m v ∧ Step w E s.ob w' E' ob' := by
  obtain ⟨dst, op, ty, pos, after, guard⟩ := o
  simp only at h
  have pure_ : ∀ {r : M} {v : Value} {m' : Option M}, with_ s.ob m' = some (m, ob') → (∀ r, m' = some r → ∃ v, (execOp a.eval ⟨dst, op, ty, pos, after, guard⟩).run P w = .ok (.value v) w ∧ RepM w E s.ob r v) →
      ∃ v w' E', ((execOp a.eval ⟨dst, op, ty, pos, after, guard⟩).run P w = .ok (.value v) w' ∨ ((execOp a.eval ⟨dst, op, ty, pos, after, guard⟩).run P w = .ok .skip w' ∧ v = undef)) ∧ RepM w' E' ob' m v ∧ Step w E s.ob w' E' ob' := by
    intro r v m' hw hr
    obtain ⟨rfl, rfl⟩ := with_some hw
    obtain ⟨v, q1, q2⟩ := hr _ rfl
    exact ⟨v, w, E, .inl q1, q2, .refl hh⟩
  have eff : (∃ v w' E', (execOp a.eval ⟨dst, op, ty, pos, after, guard⟩).run P w = .ok (.value v) w' ∧ RepM w' E' ob' m v ∧ Step w E s.ob w' E' ob') →
      ∃ v w' E', ((execOp a.eval ⟨dst, op, ty, pos, after, guard⟩).run P w = .ok (.value v) w' ∨ ((execOp a.eval ⟨dst, op, ty, pos, after, guard⟩).run P w = .ok .skip w' ∧ v = undef)) ∧ RepM w' E' ob' m v ∧ Step w E s.ob w' E' ob' := by
    rintro ⟨v, w', E', q1, q2, q3⟩
    exact ⟨v, w', E', .inl q1, q2, q3⟩
  cases op with
  | move x => exact pure_ (r := .junk) (v := undef) h (fun r hr => ⟨_, rfl, rel_op h1 hr⟩)
  | assign x => exact pure_ (r := .junk) (v := undef) h (fun r hr => ⟨_, rfl, rel_op h1 hr⟩)
  | pick c x y =>
    simp only [evOp] at h
    split at h
    · rename_i b hb
      have hc : a.eval c = .bool b := by
        unfold asB at hb
        split at hb
        · rename_i b' hq
          obtain rfl := Option.some.inj hb
          have := rel_op h1 hq
          generalize a.eval c = z at this
          cases this with
          | c hc => cases hc; rfl
        · simp at hb
      cases b with
      | true =>
        simp only [if_true] at h
        exact pure_ (r := .junk) (v := undef) h (fun r hr => ⟨_, by simp [execOp, hc, asBool], rel_op h1 hr⟩)
      | false =>
        simp only [Bool.false_eq_true, if_false] at h
        exact pure_ (r := .junk) (v := undef) h (fun r hr => ⟨_, by simp [execOp, hc, asBool], rel_op h1 hr⟩)
    · simp at h
  | alloc e =>
    obtain ⟨v, w', E', q1, q2, q3⟩ := sound_alloc hh h
    exact eff ⟨v, w', E', by simp [execOp, q1], q2, q3⟩
  | box e x =>
    simp only [evOp] at h
    split at h
    · rename_i q hq
      obtain ⟨v, w', E', q1, q2, q3⟩ := sound_box hh (rel_op h1 hq) h
      exact eff ⟨v, w', E', by simp [execOp, q1], q2, q3⟩
    · simp at h
  | build t parts =>
    simp only [evOp] at h
    obtain ⟨hok, h⟩ := of_ite h
    split at h
    · rename_i l hl
      obtain ⟨p1, p2⟩ := map_parts h1 hl
      refine pure_ (r := .junk) (v := undef) h (fun r hr => ?_)
      obtain ⟨v, q1, q2⟩ := sound_build (pv := parts.map fun p => (p.1, a.eval p.2)) (fun fs k f hu hf => okE_struct hok hu hf) (fun n e hu => okE_array hok hu) (by simpa using p1) (fun k i m hk => by
        obtain ⟨v, hv, hr⟩ := p2 k i m hk
        refine ⟨v, ?_, hr⟩
        rw [← Array.getElem?_toList]
        simpa using hv) hr
      exact ⟨v, by simp [execOp, q1], q2⟩
    · simp at h
  | buildSlice t len parts =>
    simp only [evOp] at h
    split at h
    · rename_i l hl
      obtain ⟨p1, p2⟩ := map_parts h1 hl
      obtain ⟨v, w', E', q1, q2, q3⟩ := sound_buildSlice (pv := parts.map fun p => (p.1, a.eval p.2)) hh (by simpa using p1) (fun k i m hk => by
        obtain ⟨v, hv, hr⟩ := p2 k i m hk
        refine ⟨v, ?_, hr⟩
        rw [← Array.getElem?_toList]
        simpa using hv) h
      exact eff ⟨v, w', E', by simp [execOp, q1], q2, q3⟩
    · simp at h
  | load t x =>
    simp only [evOp] at h
    obtain ⟨hok, h⟩ := of_ite h
    split at h
    · rename_i q hq
      refine pure_ (r := .junk) (v := undef) h (fun r hr => ?_)
      obtain ⟨v, q1, q2⟩ := sound_load hh hok (rel_op h1 hq) hr
      exact ⟨v, by simp [execOp, q1], q2⟩
    · simp at h
  | store t x y =>
    simp only [evOp] at h
    obtain ⟨hok, h⟩ := of_ite h
    split at h
    · rename_i q r hq hr
      split at h
      · rename_i ob1 hs
        simp only [Option.some.injEq, Prod.mk.injEq] at h
        obtain ⟨rfl, rfl⟩ := h
        obtain ⟨w', q1, q2⟩ := sound_store hh hok (rel_op h1 hq) (rel_op h1 hr) hs
        exact ⟨undef, w', E, .inr ⟨by simp [execOp, q1], rfl⟩, .junk _, q2⟩
      · simp at h
    · simp at h
  | nilCheck x =>
    simp only [evOp] at h
    split at h
    · rename_i q hq
      refine pure_ (r := .junk) (v := undef) h (fun r hr => ?_)
      have hx := rel_op h1 hq
      unfold nilOK at hr
      split at hr
      · obtain rfl := Option.some.inj hr
        generalize hy : a.eval x = y at hx
        cases hx with
        | c hc =>
          cases hc with
          | ptr _ ad ys c1 c2 => exact ⟨.pointer (some ad), by simp [execOp, hy], .c (.ptr _ ad ys c1 c2)⟩
      · split at hr
        · rename_i o ho
          obtain rfl := Option.some.inj hr
          generalize hy : a.eval x = y at hx
          cases hx with
          | mp hp =>
            obtain ⟨_, _, _, _, rfl, _⟩ := at_obj hh hp ho
            exact ⟨_, by simp [execOp, hy], .mp hp⟩
        · simp at hr
      · simp at hr
    · simp at h
  | binOp op t x y yt =>
    simp only [evOp] at h
    split at h
    · rename_i q r hq hr
      refine pure_ (r := .junk) (v := undef) h (fun z hz => ?_)
      have plain : binM P s.ob op t q r = some z → ∃ v, (execOp a.eval ⟨dst, .binOp op t x y yt, ty, pos, after, guard⟩).run P w = .ok (.value v) w ∧ RepM w E s.ob z v := fun hz => by
        obtain ⟨v, q1, q2⟩ := sound_bin hh (rel_op h1 hq) (rel_op h1 hr) hz x y
        refine ⟨v, ?_, q2⟩
        simp only [execOp]
        rw [Sem.run_bind, q1]
        rfl
      unfold binIf at hz
      split at hz
      · rename_i hl
        split at hz
        · rename_i hi
          obtain ⟨v, hv, rfl⟩ := Option.map_eq_some_iff.1 hz
          have hy : a.eval y = .nilIface := by
            unfold nilLit at hl
            split at hl
            · rfl
            · simp at hl
          have q1 := sound_binIf (P := P) (ob := s.ob) (rel_op h1 hq) hl hi hv x
          refine ⟨v, ?_, .c (.v v)⟩
          simp only [execOp, hy]
          rw [Sem.run_bind, q1]
          rfl
        · exact plain hz
      · exact plain hz
    · simp at h
  | unOp op t x =>
    simp only [evOp] at h
    split at h
    · rename_i q hq
      refine pure_ (r := .junk) (v := undef) h (fun z hz => ?_)
      obtain ⟨v, q1, q2⟩ := sound_un (P := P) (rel_op h1 hq) hz
      exact ⟨v, by simp [execOp, q1], q2⟩
    · simp at h
  | convert src dst x =>
    simp only [evOp] at h
    split at h
    · rename_i q hq
      obtain ⟨v, w', E', q1, q2, q3⟩ := sound_conv hh (rel_op h1 hq) h
      exact eff ⟨v, w', E', by simp [execOp, q1], q2, q3⟩
    · simp at h
  | makeSlice t l c =>
    simp only [evOp] at h
    split at h
    · rename_i q r hq hr
      obtain ⟨v, w', E', q1, q2, q3⟩ := sound_makeSlice hh (rel_op h1 hq) (rel_op h1 hr) h
      exact eff ⟨v, w', E', by simp [execOp, q1], q2, q3⟩
    · simp at h
  | slice t x lo hi mx =>
    simp only [evOp] at h
    obtain ⟨hok, h⟩ := of_ite h
    split at h
    · rename_i q l u k hq hl hu hk
      split at h
      · simp at h
      · rename_i hmx
        refine pure_ (r := .junk) (v := undef) h (fun z hz => ?_)
        obtain ⟨v, q1, q2⟩ := sound_slice hh (rel_op h1 hq) (opO_rep h1 hl) (opO_rep h1 hu) (opO_rep h1 hk) (by
          cases k <;> cases u <;> simp at hmx ⊢) (fun e he => okE_slice hok he) (fun n e he => okE_array hok he) hz
        exact ⟨v, by simp [execOp, q1], q2⟩
    · simp at h
  | fieldAddr t x f =>
    simp only [evOp] at h
    obtain ⟨hok, h⟩ := of_ite h
    split at h
    · rename_i q hq
      refine pure_ (r := .junk) (v := undef) h (fun z hz => ?_)
      obtain ⟨v, q1, q2⟩ := sound_fieldAddr hh (rel_op h1 hq) (fun fs q hu hf => okE_struct hok hu hf) hz
      exact ⟨v, by simp [execOp, q1], q2⟩
    · simp at h
  | field t x f =>
    simp only [evOp] at h
    obtain ⟨hok, h⟩ := of_ite h
    split at h
    · rename_i q hq
      refine pure_ (r := .junk) (v := undef) h (fun z hz => ?_)
      obtain ⟨v, q1, q2⟩ := sound_field (rel_op h1 hq) (fun fs q hu hf => okE_struct hok hu hf) hz
      exact ⟨v, by simp [execOp, q1], q2⟩
    · simp at h
  | indexAddr t x ix =>
    simp only [evOp] at h
    obtain ⟨hok, h⟩ := of_ite h
    split at h
    · rename_i q r hq hr
      refine pure_ (r := .junk) (v := undef) h (fun z hz => ?_)
      obtain ⟨v, q1, q2⟩ := sound_indexAddr hh (rel_op h1 hq) (rel_op h1 hr) (fun e he => okE_slice hok he) (fun n e he => okE_array hok he) hz
      exact ⟨v, by simp [execOp, q1], q2⟩
    · simp at h
  | index t x ix =>
    simp only [evOp] at h
    obtain ⟨hok, h⟩ := of_ite h
    split at h
    · rename_i q r hq hr
      refine pure_ (r := .junk) (v := undef) h (fun z hz => ?_)
      obtain ⟨v, q1, q2⟩ := sound_index (rel_op h1 hq) (rel_op h1 hr) (fun n e he => okE_array hok he) hz
      exact ⟨v, by simp [execOp, q1], q2⟩
    · simp at h
  | extract x i =>
    simp only [evOp] at h
    split at h
    · rename_i q hq
      refine pure_ (r := .junk) (v := undef) h (fun z hz => ?_)
      obtain ⟨v, q1, q2⟩ := sound_extract (P := P) (rel_op h1 hq) hz
      exact ⟨v, by simp [execOp, q1], q2⟩
    · simp at h
  | call c =>
    obtain ⟨callee, args, argTypes⟩ := c
    cases callee with
    | builtin b =>
      obtain ⟨xs⟩ := args
      obtain ⟨ts⟩ := argTypes
      simp only [evOp] at h
      unfold evBuiltin at h
      split at h
      · rename_i x t
        split at h
        · rename_i q hq
          split at h
          · rename_i n hn
            simp only [Option.some.injEq, Prod.mk.injEq] at h
            obtain ⟨rfl, rfl⟩ := h
            have q1 := sound_len (P := P) (ty := ty) hh (rel_op h1 hq) hn
            exact eff ⟨_, w, E, by simp [execOp, resolve, invoke, builtin, q1], .c (.v _), .refl hh⟩
          · simp at h
        · simp at h
      · rename_i x y t tx
        obtain ⟨hok, h⟩ := of_ite h
        split at h
        · rename_i q r hq hr
          obtain ⟨v, w', E', q1, q2, q3⟩ := sound_append (ty := ty) hh (rel_op h1 hq) (rel_op h1 hr) (fun e he => okZ_slice hok he) h
          exact eff ⟨v, w', E', by simp [execOp, resolve, invoke, builtin, q1], q2, q3⟩
        · simp at h
      · rename_i x y t tx
        obtain ⟨hok, h⟩ := of_ite h
        split at h
        · rename_i q r hq hr
          obtain ⟨v, w', E', q1, q2, q3⟩ := sound_copy (ty := ty) hh (rel_op h1 hq) (rel_op h1 hr) (fun e he => by obtain ⟨i, _, hi, _⟩ := okZ_slice hok he; exact ⟨i, hi⟩) h
          exact eff ⟨v, w', E', by simp [execOp, resolve, invoke, builtin, q1], q2, q3⟩
        · simp at h
      · rename_i x
        split at h
        · rename_i q hq
          refine pure_ (r := .junk) (v := undef) h (fun z hz => ?_)
          obtain ⟨v, q1, q2⟩ := sound_usd (P := P) hh ts.toArray ty (rel_op h1 hq) hz
          exact ⟨v, by simp [execOp, resolve, invoke, builtin, q1], q2⟩
        · simp at h
      · rename_i x y t it
        split at h
        · rename_i q r hq hr
          obtain ⟨v, w', E', q1, q2, q3⟩ := sound_ustr (P := P) hh t it ty (rel_op h1 hq) (rel_op h1 hr) h
          exact eff ⟨v, w', E', by simp [execOp, resolve, invoke, builtin, q1], q2, q3⟩
        · simp at h
      · rename_i x y
        split at h
        · rename_i q r hq hr
          refine pure_ (r := .junk) (v := undef) h (fun z hz => ?_)
          obtain ⟨v, q1, q2⟩ := sound_min (P := P) ts.toArray ty (rel_op h1 hq) (rel_op h1 hr) hz
          exact ⟨v, by simp [execOp, resolve, invoke, builtin, q1], q2⟩
        · simp at h
      · rename_i x y
        split at h
        · rename_i q r hq hr
          refine pure_ (r := .junk) (v := undef) h (fun z hz => ?_)
          obtain ⟨v, q1, q2⟩ := sound_max (P := P) ts.toArray ty (rel_op h1 hq) (rel_op h1 hr) hz
          exact ⟨v, by simp [execOp, resolve, invoke, builtin, q1], q2⟩
        · simp at h
      · rename_i x t
        split at h
        · rename_i q hq
          refine pure_ (r := .junk) (v := undef) h (fun z hz => ?_)
          obtain ⟨v, q1, q2⟩ := sound_cap (P := P) (ty := ty) hh (rel_op h1 hq) hz
          exact ⟨v, by simp [execOp, resolve, invoke, builtin, q1], q2⟩
        · simp at h
      · simp at h
    | _ => simp [evOp] at h
  | range t x =>
    simp only [evOp] at h
    split at h
    · rename_i q hq
      obtain ⟨v, w', E', q1, q2, q3⟩ := sound_range (P := P) hh (rel_op h1 hq) h
      exact eff ⟨v, w', E', by simp [execOp, q1], q2, q3⟩
    · simp at h
  | makeInterface t x =>
    simp only [evOp] at h
    split at h
    · rename_i q hq
      refine pure_ (r := .junk) (v := undef) h (fun z hz => ?_)
      obtain ⟨v, q1, q2⟩ := sound_mkIface (P := P) (rel_op h1 hq) hz
      exact ⟨v, by simp [execOp, q1], q2⟩
    · simp at h
  | typeAssert x xt t ok =>
    simp only [evOp] at h
    split at h
    · rename_i q hq
      refine pure_ (r := .junk) (v := undef) h (fun z hz => ?_)
      obtain ⟨v, q1, q2⟩ := sound_assert (P := P) (xt := xt) (rel_op h1 hq) hz
      exact ⟨v, by simp [execOp, q1], q2⟩
    · simp at h
  | makeFunc fn first cap =>
    simp only [evOp] at h
    split at h
    · rename_i l1 l2 hl1 hl2
      refine pure_ (r := .junk) (v := undef) h (fun z hz => ?_)
      obtain rfl := Option.some.inj hz
      obtain ⟨p1, p2⟩ := args_rep h1 hl1
      obtain ⟨p3, p4⟩ := args_rep h1 hl2
      refine ⟨.func fn (first.map a.eval) (cap.map a.eval), by simp [execOp, Instr.makeFunc], .mf fn l1 l2 _ _ (by simpa using p1) (by simpa using p3) (fun j hj m hm => ?_) (fun j hj m hm => ?_)⟩
      · have := p2 j m hm
        rw [List.getElem?_map, Array.getElem?_toList, Array.getElem?_eq_getElem (by simpa using hj)] at this
        simpa using this
      · have := p4 j m hm
        rw [List.getElem?_map, Array.getElem?_toList, Array.getElem?_eq_getElem (by simpa using hj)] at this
        simpa using this
    · simp at h
  | next x b =>
    simp only [evOp] at h
    obtain ⟨hb, h⟩ := of_ite h
    split at h
    · rename_i q hq
      obtain ⟨v, w', E', q1, q2, q3⟩ := sound_next (P := P) (ty := ty) hh (rel_op h1 hq) h
      exact eff ⟨v, w', E', by simp [execOp, hb, q1], q2, q3⟩
    · simp at h
  | entry x =>
    simp only [evOp] at h
    split at h
    · rename_i q hq
      refine pure_ (r := .junk) (v := undef) h (fun z hz => ?_)
      obtain ⟨v, q1, q2⟩ := sound_entry (P := P) hh (rel_op h1 hq) hz
      exact ⟨v, by simp [execOp, q1], q2⟩
    · simp at h
  | makeMap t r =>
    simp only [evOp] at h
    obtain ⟨hr, h⟩ := of_ite h
    cases r with
    | some r => simp at hr
    | none =>
      have h := Option.some.inj h
      obtain ⟨v, w', E', q1, q2, q3⟩ := sound_makeMap (P := P) hh t
      rw [h] at q2 q3
      exact eff ⟨v, w', E', by simp [execOp, q1], q2, q3⟩
  | lookup t x ix ok =>
    simp only [evOp] at h
    split at h
    · rename_i q r hq hr
      refine pure_ (r := .junk) (v := undef) h (fun z hz => ?_)
      obtain ⟨v, q1, q2⟩ := sound_lookup (P := P) hh (rel_op h1 hq) (rel_op h1 hr) hz
      exact ⟨v, by simp [execOp, q1], q2⟩
    · simp at h
  | mapUpdate t x k y =>
    simp only [evOp] at h
    split at h
    · rename_i m' q v hm hq hv
      split at h
      · rename_i ob1 hs
        simp only [Option.some.injEq, Prod.mk.injEq] at h
        obtain ⟨rfl, rfl⟩ := h
        obtain ⟨w', q1, q2⟩ := sound_mapUpdate (P := P) hh (rel_op h1 hm) (rel_op h1 hq) (rel_op h1 hv) hs
        exact ⟨undef, w', E, .inr ⟨by simp [execOp, q1], rfl⟩, .junk _, q2⟩
      · simp at h
    · simp at h
  | _ => simp [evOp] at h

end Go.Av

/- Contracts; regions; code. -/
set_option linter.unusedVariables false
set_option linter.unusedSimpArgs false
namespace Go.Av
open Go

def okF (P : Program) (f : FuncId) : Bool :=
  match P.funcs[f]? with
  | some fn => !(fn.name == "runtime.NumGoroutine") && fn.body.isSome
  | none => false

def CallsX (P : Program) (f : FuncId) (vals : Array Value) (w : World) (Q : Value → World → Prop) : Prop :=
  (okF P f = true ∧ Calls P f vals w fun e w' => ∃ v, e = .returned v ∧ Q v w') ∨ ∃ v w', (callFunc f vals).run P w = .ok (.value v) w' ∧ Q v w'
theorem CallsX.mono {P : Program} {f : FuncId} {vals : Array Value} {w : World} {Q Q' : Value → World → Prop} (h : CallsX P f vals w Q) (hq : ∀ v w', Q v w' → Q' v w') : CallsX P f vals w Q' := by
  rcases h with ⟨h1, h2⟩ | ⟨v, w', h1, h2⟩
  · exact .inl ⟨h1, h2.mono fun e w' ⟨v, e1, e2⟩ => ⟨v, e1, hq _ _ e2⟩⟩
  · exact .inr ⟨v, w', h1, hq _ _ h2⟩
def Den (P : Program) (f : FuncId) (args : List M) (ob : List Ob) (Q : M → List Ob → Prop) : Prop :=
  ∀ (w : World) (E : Env) (vals : Array Value), vals.size = args.length → (∀ (j : Nat) m, args[j]? = some m → RepM w E ob m (vals.getD j undef)) → HeapOK w E ob →
    CallsX P f vals w fun v w' => ∃ r ob' E', Q r ob' ∧ RepM w' E' ob' r v ∧ Step w E ob w' E' ob'

theorem Den.mono {P : Program} {f : FuncId} {args : List M} {ob : List Ob} {Q Q' : M → List Ob → Prop} (h : Den P f args ob Q) (hq : ∀ r ob', Q r ob' → Q' r ob') : Den P f args ob Q' :=
  fun w E vals h1 h2 h3 => (h w E vals h1 h2 h3).mono fun v w' ⟨r, ob', E', b, c, d⟩ => ⟨r, ob', E', hq _ _ b, c, d⟩

def callOf (P : Program) (ob : List Ob) (fr : List (Nat × M)) : Op → Option (FuncId × List M)
  | .call c => match c.callee with
    | .value x => match opM fr x with
      | some (.c (.v (.func (.func f) ⟨[]⟩ ⟨[]⟩))) => match mapArgs fr c.args.toList with
        | some l => some (f, l)
        | none => none
      | some (.mf (.func f) first cap) => match mapArgs fr c.args.toList with
        | some l => some (f, first ++ (l ++ cap))
        | none => none
      | _ => none
    | .invoke x name => match opM fr x with
      | some m => match unfaceM m with
        | some (t, v) => match methM P ob t v name with
          | some (f, r) => match mapArgs fr c.args.toList with
            | some l => some (f, r :: l)
            | none => none
          | none => none
        | none => none
      | none => none
    | _ => none
  | _ => none
def guardV (ops : Array Oper) (fr : List (Nat × M)) (o : Oper) : Option Bool :=
  match o.guard with
  | none => some true
  | some (j, b) => match (ops[j]?).bind (·.dst) with
    | some d => match get fr d with
      | some (.c (.v (.bool x))) => some (x == b)
      | some (.tup []) => some false
      | _ => none
    | none => none
def dstOK (N : Nat) (o : Oper) : Bool :=
  match o.dst with
  | some t => decide (t < N)
  | none => true
def NextW (fr : List (Nat × M)) (ob : List Ob) (op : Op) (k : M → List Ob → Prop) : Prop :=
  match op with
  | .next x false => match opM fr x with
    | some m => NextP ob m k
    | none => False
  | _ => False
def nextB : Op → Bool
  | .next _ false => true
  | _ => false
theorem nextB_of_ev {P : Program} {fr : List (Nat × M)} {ob : List Ob} {op : Op} {ty : TypeId} {r : M × List Ob} (h : evOp P fr ob op ty = some r) : nextB op = false := by
  unfold nextB
  split
  · simp [evOp] at h
  · rfl
def awpOps (P : Program) (N : Nat) (ops : Array Oper) (K : St → Prop) : List Oper → St → Prop
  | [], s => K s
  | o :: rest, s =>
    if dstOK N o then
      match guardV ops s.fr o with
      | none => False
      | some g =>
        if g then
          match callOf P s.ob s.fr o.op with
          | some (f, args) => Den P f args s.ob fun r ob' => awpOps P N ops K rest ⟨putO s.fr o.dst r, ob'⟩
          | none => if nextB o.op then NextW s.fr s.ob o.op fun m ob' => awpOps P N ops K rest ⟨putO s.fr o.dst m, ob'⟩ else
            match evOp P s.fr s.ob o.op o.type with
            | some (m, ob') => awpOps P N ops K rest ⟨putO s.fr o.dst m, ob'⟩
            | none => False
        else awpOps P N ops K rest ⟨putO s.fr o.dst (.tup []), s.ob⟩
    else False

variable {P : Program} {X : Ctx}

theorem run_callFunc {f : FuncId} {args : Array Value} {w : World} (h : okF P f = true) : (callFunc f args).run P w = .ok (.enter f args) w := by
  unfold okF at h
  split at h
  · rename_i fn hfn
    simp only [Bool.and_eq_true, Bool.not_eq_true'] at h
    obtain ⟨h1, h2⟩ := h
    have h3 : ¬ (fn.body = none) := by intro hb; simp [hb] at h2
    have h4 : ¬ (fn.name = "runtime.NumGoroutine") := by simpa using h1
    simp [callFunc, hfn, h4, h3]
  · simp at h

theorem wanted_of {ops : Array Oper} {o : Oper} {s : St} {a : Act} {w : World} {E : Env} {g : Bool} (h1 : ∀ t m, get s.fr t = some m → t < X.N ∧ RepM w E s.ob m (a.tmps.getD t undef)) (h2 : a.tmps.size = X.N) (h : guardV ops s.fr o = some g) :
    Region.wanted o (yielded ops a.tmps) = g := by
  unfold guardV at h
  unfold Region.wanted
  split at h
  · rename_i hg
    rw [hg]
    exact Option.some.inj h
  · rename_i j b hg
    rw [hg]
    simp only
    split at h
    · rename_i d hd
      unfold yielded
      rw [hd]
      split at h
      · rename_i x hx
        obtain rfl := Option.some.inj h
        obtain ⟨hlt, hr⟩ := h1 _ _ hx
        have e : a.tmps[d]? = some (.bool x) := by
          generalize hz : a.tmps.getD d undef = z at hr
          cases hr with
          | c hc =>
            cases hc
            rw [Array.getD_eq_getD_getElem?, Array.getElem?_eq_getElem (by omega)] at hz
            rw [Array.getElem?_eq_getElem (by omega)]
            simpa using hz
        simp only [Option.bind_some, e]
        cases x <;> cases b <;> rfl
      · rename_i hx
        obtain rfl := Option.some.inj h
        obtain ⟨hlt, hr⟩ := h1 _ _ hx
        have e : ∃ arr, a.tmps[d]? = some (.tuple arr) := by
          generalize hz : a.tmps.getD d undef = z at hr
          cases hr with
          | tup ms arr hs hh =>
            rw [Array.getD_eq_getD_getElem?, Array.getElem?_eq_getElem (by omega)] at hz
            rw [Array.getElem?_eq_getElem (by omega)]
            exact ⟨arr, by simpa using hz⟩
        obtain ⟨arr, e⟩ := e
        simp only [Option.bind_some, e]
        rfl
      · simp at h
    · simp at h

theorem args_getD {E : Env} {s : St} {a : Act} {w : World} (h1 : ∀ t m, get s.fr t = some m → t < X.N ∧ RepM w E s.ob m (a.tmps.getD t undef)) {xs : Array Operand} {l : List M} (h : mapArgs s.fr xs.toList = some l) :
    (xs.map a.eval).size = l.length ∧ ∀ (j : Nat) m, l[j]? = some m → RepM w E s.ob m ((xs.map a.eval).getD j undef) := by
  obtain ⟨p1, p2⟩ := args_rep h1 h
  refine ⟨by simpa using p1, fun j m hj => ?_⟩
  have := p2 j m hj
  rw [Array.getD_eq_getD_getElem?]
  rw [← Array.getElem?_toList]
  simpa using this
theorem getD_app {w : World} {E : Env} {ob : List Ob} {a b : Array Value} {la lb : List M} (ha : a.size = la.length) (hra : ∀ (j : Nat) m, la[j]? = some m → RepM w E ob m (a.getD j undef))
    (hrb : ∀ (j : Nat) m, lb[j]? = some m → RepM w E ob m (b.getD j undef)) : ∀ (j : Nat) m, (la ++ lb)[j]? = some m → RepM w E ob m ((a ++ b).getD j undef) := by
  intro j m hj
  rw [Array.getD_eq_getD_getElem?]
  by_cases hlt : j < la.length
  · rw [List.getElem?_append_left hlt] at hj
    rw [Array.getElem?_append_left (by omega), ← Array.getD_eq_getD_getElem?]
    exact hra j m hj
  · rw [List.getElem?_append_right (by omega)] at hj
    rw [Array.getElem?_append_right (by omega), ← Array.getD_eq_getD_getElem?, ha]
    exact hrb _ m hj
theorem callOf_run {E : Env} {s : St} {a : Act} {w : World} {o : Oper} {f : FuncId} {args : List M} (h1 : ∀ t m, get s.fr t = some m → t < X.N ∧ RepM w E s.ob m (a.tmps.getD t undef)) (hh : HeapOK w E s.ob) (hc : callOf P s.ob s.fr o.op = some (f, args)) :
    ∃ vals : Array Value, vals.size = args.length ∧ (∀ (j : Nat) m, args[j]? = some m → RepM w E s.ob m (vals.getD j undef)) ∧ (execOp a.eval o).run P w = (callFunc f vals).run P w := by
  unfold callOf at hc
  split at hc
  · rename_i c hop
    split at hc
    · rename_i x hcal
      split at hc
      · rename_i f' hx
        split at hc
        · rename_i l' hl
          simp only [Option.some.injEq, Prod.mk.injEq] at hc
          obtain ⟨rfl, rfl⟩ := hc
          obtain ⟨p1, p2⟩ := args_getD h1 hl
          have hfx : a.eval x = .func (.func f') #[] #[] := by
            have := rel_op h1 hx
            generalize a.eval x = z at this
            cases this with
            | c hc => cases hc; rfl
          exact ⟨c.args.map a.eval, p1, p2, by simp [execOp, hop, resolve, hcal, hfx, Deferred.ofValue, invoke]⟩
        · simp at hc
      · rename_i f' first cap hx
        split at hc
        · rename_i l' hl
          simp only [Option.some.injEq, Prod.mk.injEq] at hc
          obtain ⟨rfl, rfl⟩ := hc
          obtain ⟨p1, p2⟩ := args_getD h1 hl
          have hfx := rel_op h1 hx
          generalize hz : a.eval x = z at hfx
          cases hfx with
          | mf fn fi ca f1 c1 hs1 hs2 hr1 hr2 =>
            have g1 : ∀ (j : Nat) m, first[j]? = some m → RepM w E s.ob m (f1.getD j undef) := fun j m hm => by
              have hj : j < f1.size := by have := (List.getElem?_eq_some_iff.1 hm).1; omega
              rw [Array.getD_eq_getD_getElem?, Array.getElem?_eq_getElem hj]
              exact hr1 j hj m hm
            have g2 : ∀ (j : Nat) m, cap[j]? = some m → RepM w E s.ob m (c1.getD j undef) := fun j m hm => by
              have hj : j < c1.size := by have := (List.getElem?_eq_some_iff.1 hm).1; omega
              rw [Array.getD_eq_getD_getElem?, Array.getElem?_eq_getElem hj]
              exact hr2 j hj m hm
            refine ⟨f1 ++ (c.args.map a.eval ++ c1), by simp [hs1, hs2]; simpa using p1, getD_app hs1 g1 (getD_app p1 p2 g2), ?_⟩
            simp [execOp, hop, resolve, hcal, hz, Deferred.ofValue, invoke]
        · simp at hc
      · simp at hc
    · rename_i x name hcal
      split at hc
      · rename_i m hx
        split at hc
        · rename_i t v hun
          split at hc
          · rename_i f' r hm
            split at hc
            · rename_i l' hl
              simp only [Option.some.injEq, Prod.mk.injEq] at hc
              obtain ⟨rfl, rfl⟩ := hc
              obtain ⟨p1, p2⟩ := args_getD h1 hl
              obtain ⟨v', hv', hrv⟩ := sound_unface (rel_op h1 hx) hun
              obtain ⟨k, hk⟩ : ∃ k, P.types.size + Made.depth = k + 1 := ⟨P.types.size + Made.depth - 1, by unfold Made.depth; omega⟩
              obtain ⟨z, hz, hrz⟩ := sound_meth (fuel := k) hh hrv hm
              refine ⟨#[z] ++ c.args.map a.eval, by simp at p1 ⊢; omega, getD_app (la := [r]) rfl (fun j m hj => ?_) p2, ?_⟩
              · match j, hj with
                | 0, hj => obtain rfl := Option.some.inj hj; exact hrz
              · have hex : (#[Value.iface t v'] ++ c.args.map a.eval).extract 1 (#[Value.iface t v'] ++ c.args.map a.eval).size = c.args.map a.eval := by
                  rw [Array.extract_append]
                  simp
                have h0 : (#[Value.iface t v'] ++ c.args.map a.eval)[0]? = some (Value.iface t v') := by
                  rw [Array.getElem?_append_left (by simp)]; rfl
                simp only [execOp, hop, resolve, hcal, hv', Sem.run_bind, Sem.run_pure, Result.andThen_ok, invoke, h0, hex, callMethod, show Sem.run P program w = .ok P w from rfl, hk, hz]
            · simp at hc
          · simp at hc
        · simp at hc
      · simp at hc
    · simp at hc
  · simp at hc

theorem awpOps_sound {ops : Array Oper} {K : St → Prop} {Q : Exit → Act → World → Prop} (hK : ∀ s a w, K s → Rel X s a w → Q .normal a w) (l : List Oper) : ∀ (s : St) (a : Act) (w : World), awpOps P X.N ops K l s → Rel X s a w → wpList P ops Q l a w := by
  induction l with
  | nil => intro s a w h hr; exact hK s a w h hr
  | cons o rest ih =>
    intro s a w h hrel
    obtain ⟨E, h1, h2, h3, h4⟩ := hrel
    unfold awpOps at h
    split at h
    · rename_i hdst
      have hd : ∀ t, o.dst = some t → t < X.N := fun t ht => by
        unfold dstOK at hdst; rw [ht] at hdst; simpa using hdst
      split at h
      · exact h.elim
      · rename_i g hg
        have hw := wanted_of h1 h2 hg
        unfold wpList
        rw [hw]
        cases g with
        | false =>
          simp only [Bool.false_eq_true, if_false] at h ⊢
          refine ih _ _ _ h (rel_put h1 h2 h3 h4 (.refl h4.heap) hd ?_)
          exact .tup [] #[] rfl (fun j hj => by simp at hj)
        | true =>
          simp only [if_true] at h ⊢
          refine .inl ?_
          split at h
          · rename_i f args hc
            obtain ⟨vals, p1, p2, hrun⟩ := callOf_run (w := w) h1 h4.heap hc
            have := h w E vals p1 p2 h4.heap
            unfold Oper.wp
            rcases this with ⟨hok, this⟩ | ⟨v, w', hv, r, ob', E', hq, hrv, hst⟩
            · rw [hrun, run_callFunc hok, Oper.upon_enter]
              refine this.mono ?_
              rintro e w' ⟨v, rfl, r, ob', E', hq, hrv, hst⟩
              exact ih _ _ _ hq (rel_put h1 h2 h3 h4 hst hd hrv)
            · rw [hrun, hv, Oper.upon_value]
              exact ih _ _ _ hq (rel_put h1 h2 h3 h4 hst hd hrv)
          · split at h
            · unfold NextW at h
              split at h
              · rename_i x hop
                split at h
                · rename_i m hm
                  obtain ⟨v, w', m', ob', hrun, hrv, hst, hk⟩ := sound_nextMap (P := P) (ty := o.type) h4.heap (rel_op h1 hm) h
                  have hex : (execOp a.eval o).run P w = .ok (.value v) w' := by
                    obtain ⟨dst, op, ty, pos, after, guard⟩ := o
                    simp only at hop
                    subst hop
                    simp [execOp, hrun]
                  unfold Oper.wp
                  rw [hex, Oper.upon_value]
                  exact ih _ _ _ hk (rel_put h1 h2 h3 h4 hst hd hrv)
                · exact h.elim
              · exact h.elim
            · split at h
              · rename_i m ob' hev
                obtain ⟨v, w', E', hrun, hrv, hst⟩ := sound_op h1 h4.heap hev
                unfold Oper.wp
                rcases hrun with hrun | ⟨hrun, rfl⟩
                · rw [hrun, Oper.upon_value]
                  exact ih _ _ _ h (rel_put h1 h2 h3 h4 hst hd hrv)
                · rw [hrun, Oper.upon_skip]
                  exact ih _ _ _ h (rel_put h1 h2 h3 h4 hst hd hrv)
              · exact h.elim
    · exact h.elim

def lift (X : Ctx) (Q : Exit → St → Prop) : Exit → Act → World → Prop := fun e a w => ∃ s, Q e s ∧ Rel X s a w
def Awp (P : Program) (X : Ctx) (c : Code) (Q : Exit → St → Prop) (s : St) : Prop := ∀ a w, Rel X s a w → c.wp P (lift X Q) a w

theorem Awp.mono {c : Code} {Q Q' : Exit → St → Prop} {s : St} (h : Awp P X c Q s) (hq : ∀ e s, Q e s → Q' e s) : Awp P X c Q' s :=
  fun a w hr => wp_mono (h a w hr) fun e a w ⟨s, q, r⟩ => ⟨s, hq e s q, r⟩
def Weak (s s' : St) : Prop := (∀ t m, get s'.fr t = some m → get s.fr t = some m) ∧ s'.ob = s.ob
theorem Rel.weak {s s' : St} {a : Act} {w : World} (h : Rel X s a w) (hw : Weak s s') : Rel X s' a w := by
  obtain ⟨E, h1, h2, h3, h4⟩ := h
  refine ⟨E, fun t m hg => ?_, h2, h3, by rw [hw.2]; exact h4⟩
  rw [hw.2]
  exact h1 t m (hw.1 t m hg)
theorem Awp.weak {c : Code} {Q : Exit → St → Prop} {s s' : St} (h : Awp P X c Q s') (hw : Weak s s') : Awp P X c Q s := fun a w hr => h a w (hr.weak hw)
theorem weak_keep (s : St) (ts : List Nat) : Weak s ⟨keep s.fr ts, s.ob⟩ := by
  refine ⟨fun t m hg => ?_, rfl⟩
  simp only [get_keep] at hg
  split at hg
  · exact hg
  · simp at hg

def thenA (K : St → Prop) (Q : Exit → St → Prop) : Exit → St → Prop
  | .normal, s => K s
  | e, s => Q e s
def inBlockA (id : Nat) (Q : Exit → St → Prop) : Exit → St → Prop
  | .exit id', s => if id' = id then Q .normal s else Q (.exit id') s
  | e, s => Q e s

theorem awp_seq {x y : Code} {Q : Exit → St → Prop} {s : St} (h : Awp P X x (thenA (Awp P X y Q) Q) s) : Awp P X (.seq x y) Q s := fun a w hr => by
  refine wp_seq (wp_mono (h a w hr) ?_)
  rintro e a' w' ⟨s', q, r⟩
  cases e with
  | normal => exact q a' w' r
  | _ => exact ⟨s', q, r⟩
theorem awp_cond {c : Operand} {x y : Code} {Q : Exit → St → Prop} {s : St} {b : Bool} (hb : asB (opM s.fr c) = some b) (h : if b then Awp P X x Q s else Awp P X y Q s) : Awp P X (.cond c x y) Q s := fun a w hr => by
  obtain ⟨E, h1, h2, h3, h4⟩ := hr
  have hc : a.eval c = .bool b := by
    unfold asB at hb
    split at hb
    · rename_i b' hq
      obtain rfl := Option.some.inj hb
      have := rel_op h1 hq
      generalize a.eval c = z at this
      cases this with
      | c hc => cases hc; rfl
    · simp at hb
  refine wp_cond hc ?_
  cases b with
  | true => exact (by simpa using h : Awp P X x Q s) a w ⟨E, h1, h2, h3, h4⟩
  | false => exact (by simpa using h : Awp P X y Q s) a w ⟨E, h1, h2, h3, h4⟩
theorem awp_block {id : Nat} {c : Code} {Q : Exit → St → Prop} {s : St} (h : Awp P X c (inBlockA id Q) s) : Awp P X (.block id c) Q s := fun a w hr => by
  refine wp_block (wp_mono (h a w hr) ?_)
  rintro e a' w' ⟨s', q, r⟩
  cases e with
  | exit id' =>
    simp only [inBlockA] at q
    simp only [Exit.inBlock]
    split at q
    · rename_i e; rw [if_pos e]; exact ⟨s', q, r⟩
    · rename_i e; rw [if_neg e]; exact ⟨s', q, r⟩
  | _ => exact ⟨s', q, r⟩
theorem awp_skip {Q : Exit → St → Prop} {s : St} (h : Q .normal s) : Awp P X .skip Q s := fun a w hr => wp_skip ⟨s, h, hr⟩
theorem awp_label {l : Nat} {Q : Exit → St → Prop} {s : St} (h : Q .normal s) : Awp P X (.label l) Q s := fun a w hr => wp_label ⟨s, h, hr⟩
theorem awp_exit {id : Nat} {Q : Exit → St → Prop} {s : St} (h : Q (.exit id) s) : Awp P X (.exit id) Q s := fun a w hr => wp_exit ⟨s, h, hr⟩
theorem awp_ret {Q : Exit → St → Prop} {s : St} (h : Q .ret s) : Awp P X .ret Q s := fun a w hr => wp_ret ⟨s, h, hr⟩
theorem awp_region {id : Nat} {l : List Oper} {Q : Exit → St → Prop} {s : St} (h : awpOps P X.N l.toArray (Q .normal) l s) : Awp P X (.region id l.toArray false) Q s := fun a w hr =>
  wp_region_lit (awpOps_sound (fun s a w hk hr => ⟨s, hk, hr⟩) l s a w h hr)
theorem awp_loop {c : Code} {Q : Exit → St → Prop} {s : St} (I : Nat → St → Prop) (n : Nat) (h0 : I n s) (h : ∀ n s, I n s → Awp P X c (thenA (fun s' => ∃ n', n' < n ∧ I n' s') Q) s) : Awp P X (.loop c) Q s := fun a w hr => by
  intro b k cs
  have key : ∀ n s a w, I n s → Rel X s a w → ∃ e a' w', lift X Q e a' w' ∧ Arrives P (lone (b.at a (.code c :: .inLoop c :: k)) cs w) b k cs e a' w' := by
    intro n
    induction n using Nat.strongRecOn with
    | _ n ih =>
      intro s a w hi hr
      obtain ⟨e, a1, w1, ⟨s1, q1, r1⟩, harr⟩ := h n s hi a w hr b (.inLoop c :: k) cs
      cases e with
      | normal =>
        obtain ⟨n', hlt, hi'⟩ := q1
        obtain ⟨e2, a2, w2, hq2, harr2⟩ := ih n' hlt s1 a1 w1 hi' r1
        exact ⟨e2, a2, w2, hq2, .of_steps (Steps.trans harr (.one step_inLoop)) harr2⟩
      | exit id => exact ⟨_, a1, w1, ⟨s1, q1, r1⟩, .pass (x := .inLoop c) rfl (fun _ _ => .inl (by simp)) harr⟩
      | goto l => exact ⟨_, a1, w1, ⟨s1, q1, r1⟩, .pass (x := .inLoop c) rfl (fun _ _ => .inl (by simp)) harr⟩
      | ret => exact ⟨_, a1, w1, ⟨s1, q1, r1⟩, .pass (x := .inLoop c) rfl (fun _ _ => .inl (by simp)) harr⟩
      | panic ch => exact ⟨_, a1, w1, ⟨s1, q1, r1⟩, .pass (x := .inLoop c) rfl (fun _ _ => .inl (by simp)) harr⟩
      | outgrown => exact ⟨_, a1, w1, ⟨s1, q1, r1⟩, .pass (x := .inLoop c) rfl (fun _ _ => .inl (by simp)) harr⟩
  obtain ⟨e, a', w', hq, harr⟩ := key n s a w h0 hr
  exact ⟨e, a', w', hq, .of_steps (.one step_loop) harr⟩

def resM (P : Program) (ob : List Ob) (fr : List (Nat × M)) : List ResultVar → Option (List M)
  | [] => some []
  | .tmp t :: r => match get fr t, resM P ob fr r with
    | some m, some l => some (m :: l)
    | _, _ => none
  | .cell q t :: r => if okT P t then (match get fr q with
    | some a => match loadM P ob t a, resM P ob fr r with
      | some m, some l => some (m :: l)
      | _, _ => none
    | none => none) else none
def resOf (P : Program) (ob : List Ob) (fr : List (Nat × M)) (rs : List ResultVar) : Option M :=
  match resM P ob fr rs with
  | some [m] => some m
  | some l => some (.tup l)
  | none => none
theorem load_asAddr {t : TypeId} {y z : Value} {w : World} (h : (Instr.loadAt t y).run P w = .ok z w) : (do loadVar t (← asAddr y) : Sem Value).run P w = .ok z w := by
  cases y with
  | pointer p =>
    cases p with
    | some a => exact h
    | none => simp [Instr.loadAt, Instr.sureAddr, stuck, Sem.run] at h
  | _ => simp [Instr.loadAt, Instr.sureAddr, stuck, Sem.run] at h
def slots : Nat → List M → List (Nat × M)
  | _, [] => []
  | k, m :: r => (k, m) :: slots (k + 1) r
theorem get_slots (k : Nat) (args : List M) (t : Nat) : get (slots k args) t = if k ≤ t then args[t - k]? else none := by
  induction args generalizing k with
  | nil => simp [slots, get]
  | cons m r ih =>
    simp only [slots, get]
    by_cases e : k = t
    · subst e; simp
    · rw [if_neg e, ih]
      by_cases h : k ≤ t
      · rw [if_pos h, if_pos (by omega), show t - k = (t - (k + 1)) + 1 by omega]
        rfl
      · rw [if_neg h, if_neg (by omega)]

def resFn (tmps : Array Value) : ResultVar → Sem Value
  | .tmp t => pure (tmps.getD t undef)
  | .cell q t => do loadVar t (← asAddr (tmps.getD q undef))
theorem results_eq (fn : Func) (tmps : Array Value) : results fn tmps = (do let vs ← fn.results.mapM (resFn tmps); pure (if h : vs.size = 1 then vs[0] else .tuple vs)) := by
  unfold results
  congr 1
theorem run_results {fr : List (Nat × M)} {a : Act} {w : World} {E : Env} {ob : List Ob} {N : Nat} (h1 : ∀ t m, get fr t = some m → t < N ∧ RepM w E ob m (a.tmps.getD t undef)) {rs : List ResultVar} {l : List M} (hh : HeapOK w E ob) (h : resM P ob fr rs = some l) :
    ∃ vs : List Value, (rs.mapM (resFn a.tmps)).run P w = .ok vs w ∧ vs.length = l.length ∧ ∀ (j : Nat) m, l[j]? = some m → ∃ v, vs[j]? = some v ∧ RepM w E ob m v := by
  induction rs generalizing l with
  | nil =>
    obtain rfl := Option.some.inj h
    exact ⟨[], rfl, rfl, fun j m hj => by simp at hj⟩
  | cons r rs ih =>
    cases r with
    | cell q t =>
      simp only [resM] at h
      obtain ⟨hok, h⟩ := of_ite h
      split at h
      · rename_i ad had
        split at h
        · rename_i m l' hm hl
          obtain rfl := Option.some.inj h
          obtain ⟨vs, e1, e2, e3⟩ := ih hl
          obtain ⟨z, hz, hrz⟩ := sound_load hh hok (h1 q ad had).2 hm
          refine ⟨z :: vs, ?_, by simp [e2], fun j q' hj => ?_⟩
          · rw [List.mapM_cons]
            have := load_asAddr hz
            simp only [resFn, this, Sem.run_bind, Sem.run_pure, Result.andThen_ok, e1] at this ⊢
          · cases j with
            | zero =>
              obtain rfl := Option.some.inj hj
              exact ⟨_, rfl, hrz⟩
            | succ j =>
              obtain ⟨v, hv, hr⟩ := e3 j q' (by simpa using hj)
              exact ⟨v, by simpa using hv, hr⟩
        · simp at h
      · simp at h
    | tmp t =>
      simp only [resM] at h
      split at h
      · rename_i m l' hm hl
        obtain rfl := Option.some.inj h
        obtain ⟨vs, e1, e2, e3⟩ := ih hl
        refine ⟨a.tmps.getD t undef :: vs, ?_, by simp [e2], fun j q hj => ?_⟩
        · rw [List.mapM_cons]
          simp only [resFn, Sem.run_bind, Sem.run_pure, Result.andThen_ok, e1]
        · cases j with
          | zero =>
            obtain rfl := Option.some.inj hj
            exact ⟨_, rfl, (h1 t m hm).2⟩
          | succ j =>
            obtain ⟨v, hv, hr⟩ := e3 j q (by simpa using hj)
            exact ⟨v, by simpa using hv, hr⟩
      · simp at h

theorem run_result {fn : Func} {fr : List (Nat × M)} {a : Act} {w : World} {E : Env} {ob : List Ob} {N : Nat} (h1 : ∀ t m, get fr t = some m → t < N ∧ RepM w E ob m (a.tmps.getD t undef)) {m : M} (hh : HeapOK w E ob) (h : resOf P ob fr fn.results.toList = some m) :
    ∃ v, (results fn a.tmps).run P w = .ok v w ∧ RepM w E ob m v := by
  unfold resOf at h
  split at h
  · rename_i q hq
    obtain rfl := Option.some.inj h
    obtain ⟨vs, e1, e2, e3⟩ := run_results (P := P) h1 hh hq
    obtain ⟨v, hv, hr⟩ := e3 0 q rfl
    match vs, e2 with
    | [u], _ =>
      obtain rfl := Option.some.inj hv
      refine ⟨u, ?_, hr⟩
      rw [results_eq, Sem.run_bind, Array.mapM_eq_mapM_toList]
      simp only [Sem.run_map, e1, Result.andThen_ok]
      rfl
  · rename_i l hne hq
    obtain rfl := Option.some.inj h
    obtain ⟨vs, e1, e2, e3⟩ := run_results (P := P) h1 hh hq
    have hlen : vs.length ≠ 1 := fun he => by
      match l, e2 with
      | [q], _ => exact hne q rfl
      | [], e2 => simp [he] at e2
      | _ :: _ :: _, e2 => simp [he] at e2
    refine ⟨.tuple vs.toArray, ?_, .tup l vs.toArray (by simp [e2]) (fun j hj m hm => ?_)⟩
    · rw [results_eq, Sem.run_bind, Array.mapM_eq_mapM_toList]
      simp only [Sem.run_map, e1, Result.andThen_ok, Sem.run_pure]
      rw [dif_neg (by simpa using hlen)]
    · obtain ⟨v, hv, hr⟩ := e3 j m hm
      have : v = vs.toArray[j] := by
        have hj' : j < vs.length := by simpa using hj
        rw [List.getElem?_eq_getElem hj'] at hv
        simpa using (Option.some.inj hv).symm
      rw [← this]
      exact hr
  · simp at h

def postOf (P : Program) (rs : List ResultVar) (Q : M → List Ob → Prop) : Exit → St → Prop
  | .normal, s | .ret, s => match resOf P s.ob s.fr rs with
    | some r => Q r s.ob
    | none => False
  | _, _ => False

theorem den_of {f : FuncId} {fn : Func} {c : Code} {args : List M} {ob : List Ob} {Q : M → List Ob → Prop} (hf : P.funcs[f]? = some fn) (hb : fn.body = some c) (hn : (fn.name == "runtime.NumGoroutine") = false) (hN : args.length ≤ fn.ntmps)
    (h : ∀ X : Ctx, X.N = fn.ntmps → X.ob = ob ∧ HeapOK X.w X.E X.ob → Awp P X c (postOf P fn.results.toList Q) ⟨slots 0 args, ob⟩) : Den P f args ob Q := by
  refine fun w E vals h1 h2 h3 => .inl ⟨by simp [okF, hf, hb, hn], ?_⟩
  have hw := h ⟨w, E, ob, fn.ntmps⟩ rfl ⟨rfl, h3⟩ { tmps := vals ++ Array.replicate (fn.ntmps - vals.size) undef, defers := [] } w ⟨E, fun t m hg => ?_, by simp; omega, rfl, .refl h3⟩
  · refine calls_of_wp hf hb (wp_mono hw ?_)
    rintro e a' w' ⟨s', q, E', r1, r2, r3, r4⟩
    cases e with
    | normal =>
      simp only [postOf] at q
      split at q
      · rename_i r hr
        obtain ⟨v, hv, hrv⟩ := run_result (P := P) r1 r4.heap hr
        exact ⟨r3, v, hv, v, rfl, r, s'.ob, E', q, hrv, r4⟩
      · exact q.elim
    | ret =>
      simp only [postOf] at q
      split at q
      · rename_i r hr
        obtain ⟨v, hv, hrv⟩ := run_result (P := P) r1 r4.heap hr
        exact ⟨r3, v, hv, v, rfl, r, s'.ob, E', q, hrv, r4⟩
      · exact q.elim
    | _ => exact q.elim
  · simp only at hg
    rw [get_slots] at hg
    simp only [Nat.zero_le, if_true, Nat.sub_zero] at hg
    have hlt := (List.getElem?_eq_some_iff.1 hg).1
    refine ⟨show t < fn.ntmps by omega, ?_⟩
    have := h2 t m hg
    rw [Array.getD_eq_getD_getElem?] at this ⊢
    rw [Array.getElem?_append_left (by omega)]
    exact this

end Go.Av
