/- Abstract values: what a slot or a cell holds, told without addresses; how a world bears it, and what keeps it so. -/
import Derived.Below
import Derived.Calls
import Derived.RowKit3
import Derived.Tactics
import Derived.Laws.Sem
import Derived.Laws.Cells
import Derived.Laws.Slices
import Derived.Laws.CopyRow
import Derived.WalkKit
import Derived.Laws.Strings
import Derived.Laws.Append
import Derived.Deep.AppendSrc
import Derived.Deep.Upon
set_option linter.unusedVariables false
set_option linter.unusedSimpArgs false
namespace Go.Av
open Go

/-- A persistent datum of one cell. -/
inductive C where
  | v (x : Value)
  | sl (cs : List C) (n : Nat) (full : Bool)
  | ptr (cs : List C)
  | ifc (t : TypeId) (agg : Bool) (cs : List C)
  deriving Inhabited

/-- What a slot, or a cell of an object of the call's own, holds. -/
inductive M where
  | c (x : C)
  | agg (ms : List M)
  | tup (ms : List M)
  | ms (i g off n : Nat)
  | mp (i g off : Nat)
  | mi (t : TypeId) (i g off : Nat)
  | mf (fn : Fn) (first cap : List M)
  | it (i : Nat)
  | junk
  deriving Inhabited

/-- An object: a block that the call may write. -/
structure Ob where
  ty : TypeId
  sz : Nat
  nil : Bool
  gen : Nat
  cs : List M
  iter : Option (ByteArray × Nat) := none
  deriving Inhabited

/-- Which blocks are never written again; where the objects lie; how many cells their blocks have. -/
structure Env where
  st : Nat → Prop
  blk : Nat → Nat
  asz : Nat → Nat

/-- A value of one cell. -/
abbrev one1 (v : Value) : Bool := v.oneCell'

/-- The world bears a persistent datum. -/
inductive RepC (w : World) (S : Nat → Prop) : C → Value → Prop where
  | v (x : Value) : RepC w S (.v x) x
  | nl (full : Bool) : RepC w S (.sl [] 0 full) (.slice none 0 0)
  | sl (cs : List C) (n : Nat) (full : Bool) (a : Addr) (cap : Nat) (ys : Nat → Value) (hf : full = true → cap = n) (hn : n ≤ cap)
      (h1 : ∀ j c, cs[j]? = some c → S a.block ∧ one1 (ys j) = true ∧ w.cell? (a.add j) = some (ys j)) (h2 : ∀ j c, cs[j]? = some c → RepC w S c (ys j)) : RepC w S (.sl cs n full) (.slice (some a) n cap)
  | ptr (cs : List C) (a : Addr) (ys : Nat → Value)
      (h1 : ∀ j c, cs[j]? = some c → S a.block ∧ one1 (ys j) = true ∧ w.cell? (a.add j) = some (ys j)) (h2 : ∀ j c, cs[j]? = some c → RepC w S c (ys j)) : RepC w S (.ptr cs) (.pointer (some a))
  | ifc1 (t : TypeId) (c : C) (y : Value) (h : RepC w S c y) : RepC w S (.ifc t false [c]) (.iface t y)
  | ifca (t : TypeId) (cs : List C) (arr : Array Value) (hs : arr.size = cs.length) (ho : ∀ j (hj : j < arr.size), one1 arr[j] = true) (h : ∀ j (hj : j < arr.size) c, cs[j]? = some c → RepC w S c arr[j]) : RepC w S (.ifc t true cs) (.iface t (.agg arr))

theorem add_block (a : Addr) (j : Nat) : (a.add j).block = a.block := by
  unfold Addr.add
  split <;> rfl
theorem add_add (a : Addr) (i j : Nat) : (a.add i).add j = a.add (i + j) := by
  unfold Addr.add
  by_cases hi : i = 0
  · simp [hi]
  · by_cases hj : j = 0
    · simp [hj]
    · simp [hi, hj, Nat.add_assoc]
theorem cell_of_heap {w w' : World} {a : Addr} (h : w'.heap[a.block]? = w.heap[a.block]?) : w'.cell? a = w.cell? a := by
  unfold World.cell?
  rw [h]

theorem RepC.keep {w w' : World} {S S' : Nat → Prop} (hk : ∀ b, S b → S' b ∧ w'.heap[b]? = w.heap[b]?) {c : C} {y : Value} (h : RepC w S c y) : RepC w' S' c y := by
  induction h with
  | v x => exact .v x
  | nl full => exact .nl full
  | sl cs n full a cap ys hf hn h1 h2 ih =>
    refine .sl cs n full a cap ys hf hn (fun j c hc => ?_) (fun j c hc => ih j c hc)
    obtain ⟨hs, ho, hcell⟩ := h1 j c hc
    exact ⟨(hk _ hs).1, ho, (cell_of_heap (by rw [add_block]; exact (hk _ hs).2)).trans hcell⟩
  | ptr cs a ys h1 h2 ih =>
    refine .ptr cs a ys (fun j c hc => ?_) (fun j c hc => ih j c hc)
    obtain ⟨hs, ho, hcell⟩ := h1 j c hc
    exact ⟨(hk _ hs).1, ho, (cell_of_heap (by rw [add_block]; exact (hk _ hs).2)).trans hcell⟩
  | ifc1 t c y h ih => exact .ifc1 t c y ih
  | ifca t cs arr hs ho h ih => exact .ifca t cs arr hs ho (fun j hj c hc => ih j hj c hc)

/-- A reference into a slice's object. -/
def SlOK (E : Env) (ob : List Ob) (i g off n : Nat) (y : Value) : Prop :=
  one1 y = true ∧ ∃ o, ob[i]? = some o ∧ o.iter = none ∧ g ≤ o.gen ∧ (g = o.gen → (o.nil = true → y = .slice none 0 0 ∧ n = 0 ∧ off = 0) ∧
    (o.nil = false → ∃ cap, y = .slice (some ⟨E.blk i, off, none⟩) n cap ∧ n ≤ cap ∧ off + cap * o.sz ≤ E.asz i))
def PtOK (E : Env) (ob : List Ob) (i g off : Nat) (y : Value) : Prop :=
  one1 y = true ∧ ∃ o, ob[i]? = some o ∧ o.iter = none ∧ g ≤ o.gen ∧ (g = o.gen → o.nil = false → y = .pointer (some ⟨E.blk i, off, none⟩))
def ItOK (E : Env) (ob : List Ob) (i : Nat) (y : Value) : Prop :=
  ∃ o, ob[i]? = some o ∧ (∃ q, o.iter = some q) ∧ y = .pointer (some ⟨E.blk i, 0, none⟩)

/-- What a value is, seen by a state. -/
inductive RepM (w : World) (E : Env) (ob : List Ob) : M → Value → Prop where
  | c {x : C} {y : Value} (h : RepC w E.st x y) : RepM w E ob (.c x) y
  | agg (ms : List M) (arr : Array Value) (hs : arr.size = ms.length) (ho : ∀ j (hj : j < arr.size), one1 arr[j] = true) (h : ∀ j (hj : j < arr.size) m, ms[j]? = some m → RepM w E ob m arr[j]) : RepM w E ob (.agg ms) (.agg arr)
  | tup (ms : List M) (arr : Array Value) (hs : arr.size = ms.length) (h : ∀ j (hj : j < arr.size) m, ms[j]? = some m → RepM w E ob m arr[j]) : RepM w E ob (.tup ms) (.tuple arr)
  | ms {i g off n : Nat} {y : Value} (h : SlOK E ob i g off n y) : RepM w E ob (.ms i g off n) y
  | mp {i g off : Nat} {y : Value} (h : PtOK E ob i g off y) : RepM w E ob (.mp i g off) y
  | mi {t : TypeId} {i g off : Nat} {y : Value} (h : PtOK E ob i g off y) : RepM w E ob (.mi t i g off) (.iface t y)
  | mf (fn : Fn) (first cap : List M) (f1 c1 : Array Value) (hs1 : f1.size = first.length) (hs2 : c1.size = cap.length)
      (h1 : ∀ j (hj : j < f1.size) m, first[j]? = some m → RepM w E ob m f1[j]) (h2 : ∀ j (hj : j < c1.size) m, cap[j]? = some m → RepM w E ob m c1[j]) : RepM w E ob (.mf fn first cap) (.func fn f1 c1)
  | it {i : Nat} {y : Value} (h : ItOK E ob i y) : RepM w E ob (.it i) y
  | junk (y : Value) : RepM w E ob .junk y

/-- From one state of the world to a later one: what was told of a slot is true still. -/
structure Ext (w : World) (E : Env) (ob : List Ob) (w' : World) (E' : Env) (ob' : List Ob) : Prop where
  st : ∀ b, E.st b → E'.st b ∧ w'.heap[b]? = w.heap[b]?
  ob : ∀ (i : Nat) (o : Ob), ob[i]? = some o → ∃ o', ob'[i]? = some o' ∧ o.gen ≤ o'.gen ∧ (o'.iter.isSome = o.iter.isSome) ∧ (o.iter.isSome = true → E'.blk i = E.blk i) ∧
    (o.gen = o'.gen → o'.nil = o.nil ∧ o'.sz = o.sz ∧ E'.blk i = E.blk i ∧ E'.asz i = E.asz i)

theorem Ext.refl (w : World) (E : Env) (ob : List Ob) : Ext w E ob w E ob :=
  ⟨fun _ h => ⟨h, rfl⟩, fun i o h => ⟨o, h, Nat.le_refl _, rfl, fun _ => rfl, fun _ => ⟨rfl, rfl, rfl, rfl⟩⟩⟩
theorem Ext.trans {w w1 w2 : World} {E E1 E2 : Env} {ob ob1 ob2 : List Ob} (h : Ext w E ob w1 E1 ob1) (k : Ext w1 E1 ob1 w2 E2 ob2) : Ext w E ob w2 E2 ob2 := by
  refine ⟨fun b hb => ?_, fun i o ho => ?_⟩
  · obtain ⟨h1, h2⟩ := h.st b hb
    obtain ⟨k1, k2⟩ := k.st b h1
    exact ⟨k1, k2.trans h2⟩
  · obtain ⟨o1, ho1, hg1, hi1, hb1, hr1⟩ := h.ob i o ho
    obtain ⟨o2, ho2, hg2, hi2, hb2, hr2⟩ := k.ob i o1 ho1
    refine ⟨o2, ho2, Nat.le_trans hg1 hg2, hi2.trans hi1, fun hh => (hb2 (hi1.trans hh)).trans (hb1 hh), fun he => ?_⟩
    have e1 : o.gen = o1.gen := by omega
    have e2 : o1.gen = o2.gen := by omega
    obtain ⟨a1, a2, a3, a4⟩ := hr1 e1
    obtain ⟨c1, c2, c3, c4⟩ := hr2 e2
    exact ⟨c1.trans a1, c2.trans a2, c3.trans a3, c4.trans a4⟩

theorem SlOK.keep {w w' : World} {E E' : Env} {ob ob' : List Ob} (hk : Ext w E ob w' E' ob') {i g off n : Nat} {y : Value} (h : SlOK E ob i g off n y) : SlOK E' ob' i g off n y := by
  obtain ⟨h1c, o, ho, hi, hg, hh⟩ := h
  obtain ⟨o', ho', hg', hi', _, hr⟩ := hk.ob i o ho
  refine ⟨h1c, o', ho', by rw [hi] at hi'; simpa using hi', Nat.le_trans hg hg', fun e => ?_⟩
  have e1 : g = o.gen := by omega
  obtain ⟨h1, h2⟩ := hh e1
  obtain ⟨r1, r2, r3, r4⟩ := hr (by omega)
  rw [r1, r2, r3, r4]
  exact ⟨h1, h2⟩
theorem PtOK.keep {w w' : World} {E E' : Env} {ob ob' : List Ob} (hk : Ext w E ob w' E' ob') {i g off : Nat} {y : Value} (h : PtOK E ob i g off y) : PtOK E' ob' i g off y := by
  obtain ⟨h1c, o, ho, hi, hg, hh⟩ := h
  obtain ⟨o', ho', hg', hi', _, hr⟩ := hk.ob i o ho
  refine ⟨h1c, o', ho', by rw [hi] at hi'; simpa using hi', Nat.le_trans hg hg', fun e => ?_⟩
  obtain ⟨r1, r2, r3, r4⟩ := hr (by omega)
  rw [r1, r3]
  exact hh (by omega)
theorem ItOK.keep {w w' : World} {E E' : Env} {ob ob' : List Ob} (hk : Ext w E ob w' E' ob') {i : Nat} {y : Value} (h : ItOK E ob i y) : ItOK E' ob' i y := by
  obtain ⟨o, ho, ⟨q, hq⟩, rfl⟩ := h
  obtain ⟨o', ho', _, hi', hb, _⟩ := hk.ob i o ho
  refine ⟨o', ho', ?_, by rw [hb (by rw [hq]; rfl)]⟩
  rw [hq] at hi'
  exact Option.isSome_iff_exists.1 hi'

theorem RepM.keep {w w' : World} {E E' : Env} {ob ob' : List Ob} (hk : Ext w E ob w' E' ob') {m : M} {y : Value} (h : RepM w E ob m y) : RepM w' E' ob' m y := by
  induction h with
  | c h => exact .c (h.keep hk.st)
  | agg ms arr hs ho h ih => exact .agg ms arr hs ho ih
  | tup ms arr hs h ih => exact .tup ms arr hs ih
  | ms h => exact .ms (h.keep hk)
  | mp h => exact .mp (h.keep hk)
  | mi h => exact .mi (h.keep hk)
  | mf fn first cap f1 c1 hs1 hs2 h1 h2 ih1 ih2 => exact .mf fn first cap f1 c1 hs1 hs2 ih1 ih2
  | it h => exact .it (h.keep hk)
  | junk y => exact .junk y

/-- A row of cells, told. -/
def Row (w : World) (E : Env) (ob : List Ob) (ms : List M) (arr : Array Value) : Prop := ∀ (j : Nat) (m : M), ms[j]? = some m → ∃ y, arr[j]? = some y ∧ one1 y = true ∧ RepM w E ob m y
theorem Row.keep {w w' : World} {E E' : Env} {ob ob' : List Ob} (hk : Ext w E ob w' E' ob') {ms : List M} {arr : Array Value} (h : Row w E ob ms arr) : Row w' E' ob' ms arr := fun j m hm =>
  let ⟨y, h1, h2, h3⟩ := h j m hm
  ⟨y, h1, h2, h3.keep hk⟩
theorem Row.len {w : World} {E : Env} {ob : List Ob} {ms : List M} {arr : Array Value} (h : Row w E ob ms arr) : ms.length ≤ arr.size := by
  rcases Nat.eq_zero_or_pos ms.length with h0 | h0
  · omega
  · obtain ⟨y, hy, _⟩ := h (ms.length - 1) _ (List.getElem?_eq_getElem (show ms.length - 1 < ms.length by omega))
    have := (Array.getElem?_eq_some_iff.1 hy).1
    omega

/-- An object, borne by its block. -/
def ObOK (w : World) (E : Env) (ob : List Ob) (i : Nat) (o : Ob) : Prop :=
  match o.iter with
  | some (s, p) => w.heap[E.blk i]? = some (.stringIter s p) ∧ o.nil = false
  | none => (o.nil = true → o.cs = []) ∧ (o.nil = false → ∃ arr lo hi, w.heap[E.blk i]? = some (.cells arr o.ty (lo, hi)) ∧ (∀ j, j < arr.size → ¬ (lo ≤ j ∧ j < hi)) ∧ arr.size = E.asz i ∧ Row w E ob o.cs arr)

/-- All objects of a state. -/
structure HeapOK (w : World) (E : Env) (ob : List Ob) : Prop where
  obj : ∀ (i : Nat) (o : Ob), ob[i]? = some o → ObOK w E ob i o
  inj : ∀ (i j : Nat) (oi oj : Ob), ob[i]? = some oi → ob[j]? = some oj → oi.nil = false → oj.nil = false → E.blk i = E.blk j → i = j
  stb : ∀ b, E.st b → b < w.heap.size
  own : ∀ (i : Nat) (o : Ob), ob[i]? = some o → o.nil = false → ¬ E.st (E.blk i) ∧ E.blk i < w.heap.size

/-- Against the world in which the call began. -/
structure Base (w0 : World) (own0 st0 : Nat → Prop) (w : World) (E : Env) (ob : List Ob) : Prop where
  os : w.os = w0.os
  tape : w.tape = w0.tape
  output : w.output = w0.output
  size : w0.heap.size ≤ w.heap.size
  block : ∀ b, b < w0.heap.size → ¬ own0 b → w.heap[b]? = w0.heap[b]?
  st : ∀ b, st0 b → E.st b
  st_of : ∀ b, E.st b → st0 b ∨ own0 b ∨ w0.heap.size ≤ b
  own : ∀ (i : Nat) (o : Ob), ob[i]? = some o → o.nil = false → own0 (E.blk i) ∨ w0.heap.size ≤ E.blk i

end Go.Av
