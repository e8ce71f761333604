/- 17 texts of the program logic over abstract values, joined: each is proved without any condition beyond its own words. -/
import Derived.Below
import Derived.Calls
import Derived.RowKit3
import Derived.Tactics
import Derived.Laws.Sem
import Derived.Laws.Cells
import Derived.Laws.Slices
import Derived.Laws.CopyRow
import Derived.WalkKit
import Derived.Laws.Strings
import Derived.Laws.Append
import Derived.Deep.AppendSrc
import Derived.Deep.Upon
import Derived.MapKept
import Derived.Laws.StructEq
import Derived.ChangeKeysEq
import Derived.Laws.BytesArg
import Derived.Lib.Builder
import Derived.Lib.UnsafeStr
import Derived.Lib.OthersKept
import Derived.Maps.RangeRun
/- The cells of package variables that the rows list: what they hold for good. Printed by mktab.py. -/
namespace Go.Av
open Go
def glist : List (Addr × Value) := [(⟨0, 0, none⟩, .iface 258 (.agg #[.pointer (some ⟨2, 74, none⟩)]))]
end Go.Av

/- Abstract values: what a slot or a cell holds, told without addresses; how a world bears it, and what keeps it so. -/
set_option linter.unusedVariables false
set_option linter.unusedSimpArgs false
namespace Go.Av
open Go

inductive C where
  | v (x : Value)
  | sl (cs : List C) (n : Nat) (full : Bool)
  | ptr (cs : List C)
  | ifc (t : TypeId) (agg : Bool) (cs : List C)
  deriving Inhabited

inductive M where
  | c (x : C)
  | agg (ms : List M)
  | tup (ms : List M)
  | ms (i g off n : Nat)
  | mp (i g off : Nat)
  | mi (t : TypeId) (i g off : Nat)
  | mf (fn : Fn) (first cap : List M)
  | it (i : Nat)
  | mm (i : Nat)
  | junk
  deriving Inhabited

inductive Odd where
  | str (s : ByteArray) (p : Nat)
  | map (es : List (ByteArray × Bool × List C))
  | mit (m : Option Nat) (n : Nat) (seen : List Nat)
  deriving Inhabited

structure Ob where
  ty : TypeId
  sz : Nat
  nil : Bool
  gen : Nat
  cs : List M
  iter : Option Odd := none
  deriving Inhabited

structure Env where
  st : Nat → Prop
  blk : Nat → Nat
  asz : Nat → Nat

abbrev one1 (v : Value) : Bool := v.oneCell'

inductive RepC (w : World) (S : Nat → Prop) : C → Value → Prop where
  | v (x : Value) : RepC w S (.v x) x
  | nl (full : Bool) : RepC w S (.sl [] 0 full) (.slice none 0 0)
  | sl (cs : List C) (n : Nat) (full : Bool) (a : Addr) (cap : Nat) (ys : Nat → Value) (hf : full = true → cap = n) (hn : n ≤ cap)
      (h1 : ∀ j c, cs[j]? = some c → S a.block ∧ one1 (ys j) = true ∧ w.cell? (a.add j) = some (ys j)) (h2 : ∀ j c, cs[j]? = some c → RepC w S c (ys j)) : RepC w S (.sl cs n full) (.slice (some a) n cap)
  | ptr (cs : List C) (a : Addr) (ys : Nat → Value)
      (h1 : ∀ j c, cs[j]? = some c → S a.block ∧ one1 (ys j) = true ∧ w.cell? (a.add j) = some (ys j)) (h2 : ∀ j c, cs[j]? = some c → RepC w S c (ys j)) : RepC w S (.ptr cs) (.pointer (some a))
  | ifc1 (t : TypeId) (c : C) (y : Value) (h : RepC w S c y) : RepC w S (.ifc t false [c]) (.iface t y)
  | ifca (t : TypeId) (cs : List C) (arr : Array Value) (hs : arr.size = cs.length) (ho : ∀ j (hj : j < arr.size), one1 arr[j] = true) (h : ∀ j (hj : j < arr.size) c, cs[j]? = some c → RepC w S c arr[j]) : RepC w S (.ifc t true cs) (.iface t (.agg arr))

theorem add_block (a : Addr) (j : Nat) : (a.add j).block = a.block := by
  unfold Addr.add
  split <;> rfl
theorem add_add (a : Addr) (i j : Nat) : (a.add i).add j = a.add (i + j) := by
  unfold Addr.add
  by_cases hi : i = 0
  · simp [hi]
  · by_cases hj : j = 0
    · simp [hj]
    · simp [hi, hj, Nat.add_assoc]
theorem cell_of_heap {w w' : World} {a : Addr} (h : w'.heap[a.block]? = w.heap[a.block]?) : w'.cell? a = w.cell? a := by
  unfold World.cell?
  rw [h]

theorem RepC.keep {w w' : World} {S S' : Nat → Prop} (hk : ∀ b, S b → S' b ∧ w'.heap[b]? = w.heap[b]?) {c : C} {y : Value} (h : RepC w S c y) : RepC w' S' c y := by
  induction h with
  | v x => exact .v x
  | nl full => exact .nl full
  | sl cs n full a cap ys hf hn h1 h2 ih =>
    refine .sl cs n full a cap ys hf hn (fun j c hc => ?_) (fun j c hc => ih j c hc)
    obtain ⟨hs, ho, hcell⟩ := h1 j c hc
    exact ⟨(hk _ hs).1, ho, (cell_of_heap (by rw [add_block]; exact (hk _ hs).2)).trans hcell⟩
  | ptr cs a ys h1 h2 ih =>
    refine .ptr cs a ys (fun j c hc => ?_) (fun j c hc => ih j c hc)
    obtain ⟨hs, ho, hcell⟩ := h1 j c hc
    exact ⟨(hk _ hs).1, ho, (cell_of_heap (by rw [add_block]; exact (hk _ hs).2)).trans hcell⟩
  | ifc1 t c y h ih => exact .ifc1 t c y ih
  | ifca t cs arr hs ho h ih => exact .ifca t cs arr hs ho (fun j hj c hc => ih j hj c hc)

def SlOK (E : Env) (ob : List Ob) (i g off n : Nat) (y : Value) : Prop :=
  one1 y = true ∧ ∃ o, ob[i]? = some o ∧ o.iter = none ∧ g ≤ o.gen ∧ (g = o.gen → (o.nil = true → y = .slice none 0 0 ∧ n = 0 ∧ off = 0) ∧
    (o.nil = false → ∃ cap, y = .slice (some ⟨E.blk i, off, none⟩) n cap ∧ n ≤ cap ∧ off + cap * o.sz ≤ E.asz i))
def PtOK (E : Env) (ob : List Ob) (i g off : Nat) (y : Value) : Prop :=
  one1 y = true ∧ ∃ o, ob[i]? = some o ∧ o.iter = none ∧ g ≤ o.gen ∧ (g = o.gen → o.nil = false → y = .pointer (some ⟨E.blk i, off, none⟩))
def ItOK (E : Env) (ob : List Ob) (i : Nat) (y : Value) : Prop :=
  ∃ o, ob[i]? = some o ∧ (∃ q, o.iter = some q) ∧ y = .pointer (some ⟨E.blk i, 0, none⟩)

def MmOK (E : Env) (ob : List Ob) (i : Nat) (y : Value) : Prop :=
  ∃ o, ob[i]? = some o ∧ (∃ q, o.iter = some q) ∧ y = .map (some (E.blk i))

inductive RepM (w : World) (E : Env) (ob : List Ob) : M → Value → Prop where
  | c {x : C} {y : Value} (h : RepC w E.st x y) : RepM w E ob (.c x) y
  | agg (ms : List M) (arr : Array Value) (hs : arr.size = ms.length) (ho : ∀ j (hj : j < arr.size), one1 arr[j] = true) (h : ∀ j (hj : j < arr.size) m, ms[j]? = some m → RepM w E ob m arr[j]) : RepM w E ob (.agg ms) (.agg arr)
  | tup (ms : List M) (arr : Array Value) (hs : arr.size = ms.length) (h : ∀ j (hj : j < arr.size) m, ms[j]? = some m → RepM w E ob m arr[j]) : RepM w E ob (.tup ms) (.tuple arr)
  | ms {i g off n : Nat} {y : Value} (h : SlOK E ob i g off n y) : RepM w E ob (.ms i g off n) y
  | mp {i g off : Nat} {y : Value} (h : PtOK E ob i g off y) : RepM w E ob (.mp i g off) y
  | mi {t : TypeId} {i g off : Nat} {y : Value} (h : PtOK E ob i g off y) : RepM w E ob (.mi t i g off) (.iface t y)
  | mf (fn : Fn) (first cap : List M) (f1 c1 : Array Value) (hs1 : f1.size = first.length) (hs2 : c1.size = cap.length)
      (h1 : ∀ j (hj : j < f1.size) m, first[j]? = some m → RepM w E ob m f1[j]) (h2 : ∀ j (hj : j < c1.size) m, cap[j]? = some m → RepM w E ob m c1[j]) : RepM w E ob (.mf fn first cap) (.func fn f1 c1)
  | it {i : Nat} {y : Value} (h : ItOK E ob i y) : RepM w E ob (.it i) y
  | mm {i : Nat} {y : Value} (h : MmOK E ob i y) : RepM w E ob (.mm i) y
  | junk (y : Value) : RepM w E ob .junk y

structure Ext (w : World) (E : Env) (ob : List Ob) (w' : World) (E' : Env) (ob' : List Ob) : Prop where
  st : ∀ b, E.st b → E'.st b ∧ w'.heap[b]? = w.heap[b]?
  ob : ∀ (i : Nat) (o : Ob), ob[i]? = some o → ∃ o', ob'[i]? = some o' ∧ o.gen ≤ o'.gen ∧ (o'.iter.isSome = o.iter.isSome) ∧ (o.iter.isSome = true → E'.blk i = E.blk i) ∧
    (o.gen = o'.gen → o'.nil = o.nil ∧ o'.sz = o.sz ∧ E'.blk i = E.blk i ∧ E'.asz i = E.asz i)

theorem Ext.refl (w : World) (E : Env) (ob : List Ob) : Ext w E ob w E ob :=
  ⟨fun _ h => ⟨h, rfl⟩, fun i o h => ⟨o, h, Nat.le_refl _, rfl, fun _ => rfl, fun _ => ⟨rfl, rfl, rfl, rfl⟩⟩⟩
theorem Ext.trans {w w1 w2 : World} {E E1 E2 : Env} {ob ob1 ob2 : List Ob} (h : Ext w E ob w1 E1 ob1) (k : Ext w1 E1 ob1 w2 E2 ob2) : Ext w E ob w2 E2 ob2 := by
  refine ⟨fun b hb => ?_, fun i o ho => ?_⟩
  · obtain ⟨h1, h2⟩ := h.st b hb
    obtain ⟨k1, k2⟩ := k.st b h1
    exact ⟨k1, k2.trans h2⟩
  · obtain ⟨o1, ho1, hg1, hi1, hb1, hr1⟩ := h.ob i o ho
    obtain ⟨o2, ho2, hg2, hi2, hb2, hr2⟩ := k.ob i o1 ho1
    refine ⟨o2, ho2, Nat.le_trans hg1 hg2, hi2.trans hi1, fun hh => (hb2 (hi1.trans hh)).trans (hb1 hh), fun he => ?_⟩
    have e1 : o.gen = o1.gen := by omega
    have e2 : o1.gen = o2.gen := by omega
    obtain ⟨a1, a2, a3, a4⟩ := hr1 e1
    obtain ⟨c1, c2, c3, c4⟩ := hr2 e2
    exact ⟨c1.trans a1, c2.trans a2, c3.trans a3, c4.trans a4⟩

theorem SlOK.keep {w w' : World} {E E' : Env} {ob ob' : List Ob} (hk : Ext w E ob w' E' ob') {i g off n : Nat} {y : Value} (h : SlOK E ob i g off n y) : SlOK E' ob' i g off n y := by
  obtain ⟨h1c, o, ho, hi, hg, hh⟩ := h
  obtain ⟨o', ho', hg', hi', _, hr⟩ := hk.ob i o ho
  refine ⟨h1c, o', ho', by rw [hi] at hi'; simpa using hi', Nat.le_trans hg hg', fun e => ?_⟩
  have e1 : g = o.gen := by omega
  obtain ⟨h1, h2⟩ := hh e1
  obtain ⟨r1, r2, r3, r4⟩ := hr (by omega)
  rw [r1, r2, r3, r4]
  exact ⟨h1, h2⟩
theorem PtOK.keep {w w' : World} {E E' : Env} {ob ob' : List Ob} (hk : Ext w E ob w' E' ob') {i g off : Nat} {y : Value} (h : PtOK E ob i g off y) : PtOK E' ob' i g off y := by
  obtain ⟨h1c, o, ho, hi, hg, hh⟩ := h
  obtain ⟨o', ho', hg', hi', _, hr⟩ := hk.ob i o ho
  refine ⟨h1c, o', ho', by rw [hi] at hi'; simpa using hi', Nat.le_trans hg hg', fun e => ?_⟩
  obtain ⟨r1, r2, r3, r4⟩ := hr (by omega)
  rw [r1, r3]
  exact hh (by omega)
theorem ItOK.keep {w w' : World} {E E' : Env} {ob ob' : List Ob} (hk : Ext w E ob w' E' ob') {i : Nat} {y : Value} (h : ItOK E ob i y) : ItOK E' ob' i y := by
  obtain ⟨o, ho, ⟨q, hq⟩, rfl⟩ := h
  obtain ⟨o', ho', _, hi', hb, _⟩ := hk.ob i o ho
  refine ⟨o', ho', ?_, by rw [hb (by rw [hq]; rfl)]⟩
  rw [hq] at hi'
  exact Option.isSome_iff_exists.1 hi'

theorem MmOK.keep {w w' : World} {E E' : Env} {ob ob' : List Ob} (hk : Ext w E ob w' E' ob') {i : Nat} {y : Value} (h : MmOK E ob i y) : MmOK E' ob' i y := by
  obtain ⟨o, ho, ⟨q, hq⟩, rfl⟩ := h
  obtain ⟨o', ho', _, hi', hb, _⟩ := hk.ob i o ho
  refine ⟨o', ho', ?_, by rw [hb (by rw [hq]; rfl)]⟩
  rw [hq] at hi'
  exact Option.isSome_iff_exists.1 hi'

theorem RepM.keep {w w' : World} {E E' : Env} {ob ob' : List Ob} (hk : Ext w E ob w' E' ob') {m : M} {y : Value} (h : RepM w E ob m y) : RepM w' E' ob' m y := by
  induction h with
  | c h => exact .c (h.keep hk.st)
  | agg ms arr hs ho h ih => exact .agg ms arr hs ho ih
  | tup ms arr hs h ih => exact .tup ms arr hs ih
  | ms h => exact .ms (h.keep hk)
  | mp h => exact .mp (h.keep hk)
  | mi h => exact .mi (h.keep hk)
  | mf fn first cap f1 c1 hs1 hs2 h1 h2 ih1 ih2 => exact .mf fn first cap f1 c1 hs1 hs2 ih1 ih2
  | it h => exact .it (h.keep hk)
  | mm h => exact .mm (h.keep hk)
  | junk y => exact .junk y

def Row (w : World) (E : Env) (ob : List Ob) (ms : List M) (arr : Array Value) : Prop := ∀ (j : Nat) (m : M), ms[j]? = some m → ∃ y, arr[j]? = some y ∧ one1 y = true ∧ RepM w E ob m y
theorem Row.keep {w w' : World} {E E' : Env} {ob ob' : List Ob} (hk : Ext w E ob w' E' ob') {ms : List M} {arr : Array Value} (h : Row w E ob ms arr) : Row w' E' ob' ms arr := fun j m hm =>
  let ⟨y, h1, h2, h3⟩ := h j m hm
  ⟨y, h1, h2, h3.keep hk⟩
theorem Row.len {w : World} {E : Env} {ob : List Ob} {ms : List M} {arr : Array Value} (h : Row w E ob ms arr) : ms.length ≤ arr.size := by
  rcases Nat.eq_zero_or_pos ms.length with h0 | h0
  · omega
  · obtain ⟨y, hy, _⟩ := h (ms.length - 1) _ (List.getElem?_eq_getElem (show ms.length - 1 < ms.length by omega))
    have := (Array.getElem?_eq_some_iff.1 hy).1
    omega

def eM : Bool × List C → M
  | (true, cs) => .agg (cs.map M.c)
  | (false, [c]) => .c c
  | (false, _) => .junk
def OddOK (w : World) (E : Env) (ob : List Ob) (i : Nat) : Odd → Prop
  | .str s p => w.heap[E.blk i]? = some (.stringIter s p)
  | .map es => ∃ arr : Array MapEntry, w.heap[E.blk i]? = some (.map arr es.length) ∧ arr.size = es.length ∧
      ∀ (j : Nat) (e : ByteArray × Bool × List C), es[j]? = some e → ∃ x, arr[j]? = some x ∧ x.key = .string e.1 ∧ x.born = j ∧ RepM w E [] (eM e.2) x.val
  | .mit none _ _ => w.heap[E.blk i]? = some (.mapIter none 0 #[] 0)
  | .mit (some m) n seen => m < i ∧ (∃ om, ob[m]? = some om ∧ om.iter.isSome = true) ∧ w.heap[E.blk i]? = some (.mapIter (some (E.blk m)) n seen.toArray n)
theorem OddOK.keep {w w' : World} {E E' : Env} {ob ob' : List Ob} {i : Nat} {q : Odd} (hk : Ext w E ob w' E' ob') (hb : E'.blk i = E.blk i) (hw : w'.heap[E.blk i]? = w.heap[E.blk i]?) (h : OddOK w E ob i q) : OddOK w' E' ob' i q := by
  cases q with
  | str s p =>
    simp only [OddOK] at h ⊢
    rw [hb, hw]; exact h
  | map es =>
    obtain ⟨arr, h1, h2, h3⟩ := h
    refine ⟨arr, by rw [hb, hw]; exact h1, h2, fun j e he => ?_⟩
    obtain ⟨x, a, b, c, d⟩ := h3 j e he
    exact ⟨x, a, b, c, d.keep ⟨hk.st, fun i o ho => by simp at ho⟩⟩
  | mit m n seen =>
    cases m with
    | none =>
      simp only [OddOK] at h ⊢
      rw [hb, hw]; exact h
    | some m =>
      obtain ⟨h0, ⟨om, h1, h2⟩, h3⟩ := h
      obtain ⟨om', a, _, b, c, _⟩ := hk.ob m om h1
      refine ⟨h0, ⟨om', a, by rw [b]; exact h2⟩, ?_⟩
      rw [hb, hw, c h2]
      exact h3
theorem OddOK.less {w : World} {E : Env} {ob suf : List Ob} {i : Nat} {q : Odd} (hi : i < ob.length) (h : OddOK w E (ob ++ suf) i q) : OddOK w E ob i q := by
  cases q with
  | str s p => exact h
  | map es => exact h
  | mit m n seen =>
    cases m with
    | none => exact h
    | some m =>
      obtain ⟨h0, ⟨om, h1, h2⟩, h3⟩ := h
      rw [List.getElem?_append_left (by omega)] at h1
      exact ⟨h0, ⟨om, h1, h2⟩, h3⟩

def ObOK (w : World) (E : Env) (ob : List Ob) (i : Nat) (o : Ob) : Prop :=
  match o.iter with
  | some q => OddOK w E ob i q ∧ o.nil = false
  | none => (o.nil = true → o.cs = []) ∧ (o.nil = false → ∃ arr lo hi, w.heap[E.blk i]? = some (.cells arr o.ty (lo, hi)) ∧ (∀ j, j < arr.size → ¬ (lo ≤ j ∧ j < hi)) ∧ arr.size = E.asz i ∧ Row w E ob o.cs arr)

def GOK (w : World) (E : Env) : Prop := ∀ (a : Addr) (v : Value), (a, v) ∈ glist → E.st a.block ∧ w.cell? a = some v
theorem GOK.ext {w w' : World} {E E' : Env} (h : GOK w E) (hk : ∀ b, E.st b → E'.st b ∧ w'.heap[b]? = w.heap[b]?) : GOK w' E' := fun a v hm =>
  ⟨(hk _ (h a v hm).1).1, (cell_of_heap (hk _ (h a v hm).1).2).trans (h a v hm).2⟩
structure HeapOK (w : World) (E : Env) (ob : List Ob) : Prop where
  obj : ∀ (i : Nat) (o : Ob), ob[i]? = some o → ObOK w E ob i o
  inj : ∀ (i j : Nat) (oi oj : Ob), ob[i]? = some oi → ob[j]? = some oj → oi.nil = false → oj.nil = false → E.blk i = E.blk j → i = j
  stb : ∀ b, E.st b → b < w.heap.size
  own : ∀ (i : Nat) (o : Ob), ob[i]? = some o → o.nil = false → ¬ E.st (E.blk i) ∧ E.blk i < w.heap.size
  gl : GOK w E

structure Base (w0 : World) (own0 st0 : Nat → Prop) (w : World) (E : Env) (ob : List Ob) : Prop where
  os : w.os = w0.os
  tape : w.tape = w0.tape
  output : w.output = w0.output
  size : w0.heap.size ≤ w.heap.size
  block : ∀ b, b < w0.heap.size → ¬ own0 b → w.heap[b]? = w0.heap[b]?
  st : ∀ b, st0 b → E.st b
  st_of : ∀ b, E.st b → st0 b ∨ own0 b ∨ w0.heap.size ≤ b
  own : ∀ (i : Nat) (o : Ob), ob[i]? = some o → o.nil = false → own0 (E.blk i) ∨ w0.heap.size ≤ E.blk i

end Go.Av

/- The operations on abstract values. -/
set_option linter.unusedVariables false
set_option linter.unusedSimpArgs false
namespace Go.Av
open Go

def get : List (Nat × M) → Nat → Option M
  | [], _ => none
  | (u, m) :: r, t => if u = t then some m else get r t
def put (fr : List (Nat × M)) (t : Nat) (m : M) : List (Nat × M) := (t, m) :: fr
def keep (fr : List (Nat × M)) : List Nat → List (Nat × M)
  | [] => []
  | t :: ts => match get fr t with
    | some m => (t, m) :: keep fr ts
    | none => keep fr ts

def constM (x : Value) : Option M :=
  match x with
  | .agg cs => if cs.all one1 then some (.agg (cs.toList.map fun z => .c (.v z))) else none
  | .tuple _ => none
  | x => some (.c (.v x))
def opM (fr : List (Nat × M)) : Operand → Option M
  | .tmp t => get fr t
  | .const x => constM x
  | .func f => some (.c (.v (.func (.func f) #[] #[])))
  | .global _ => none

def cellsM : M → Option (List M)
  | .agg ms => some ms
  | .tup _ => none
  | .junk => none
  | .c (.v x) => if one1 x then some [.c (.v x)] else none
  | m => some [m]
def up (cs : List C) : List M := cs.map M.c
def downs : List M → Option (List C)
  | [] => some []
  | .c x :: r => (downs r).map (x :: ·)
  | _ :: _ => none
theorem downs_up (cs : List C) : downs (up cs) = some cs := by
  induction cs with
  | nil => rfl
  | cons c cs ih => simp only [up, List.map_cons, downs] at *; rw [ih]; rfl
theorem up_downs {ms : List M} {cs : List C} (h : downs ms = some cs) : ms = up cs := by
  induction ms generalizing cs with
  | nil => simp [downs] at h; subst h; rfl
  | cons m ms ih =>
    cases m with
    | c x =>
      simp only [downs, Option.map_eq_some_iff] at h
      obtain ⟨r, hr, rfl⟩ := h
      rw [ih hr]; rfl
    | _ => simp [downs] at h

def szT (P : Program) (t : TypeId) : Nat := P.cellsOf t
def okT (P : Program) (t : TypeId) : Bool := (P.underlying t).isSome
def isAggT (P : Program) (t : TypeId) : Bool :=
  match P.underlying t with
  | some (.struct _) | some (.array _ _) => true
  | _ => false
def zeroT (P : Program) (t : TypeId) : Option (List M) :=
  match (P.info? t).bind (·.zero) with
  | some z => (constM z).bind cellsM
  | none => none

def andI (k : IntKind) (a b : Int) : Int := k.wrap ((BitVec.ofInt k.bits a &&& BitVec.ofInt k.bits b).toNat : Int)
def orI (k : IntKind) (a b : Int) : Int := k.wrap ((BitVec.ofInt k.bits a ||| BitVec.ofInt k.bits b).toNat : Int)
def xorI (k : IntKind) (a b : Int) : Int := k.wrap ((BitVec.ofInt k.bits a ^^^ BitVec.ofInt k.bits b).toNat : Int)
def andNotI (k : IntKind) (a b : Int) : Int := k.wrap ((BitVec.ofInt k.bits a &&& ~~~ BitVec.ofInt k.bits b).toNat : Int)
def notI (k : IntKind) (n : Int) : Int := k.wrap ((BitVec.ofInt k.bits (if k.signed then -1 else k.max) ^^^ BitVec.ofInt k.bits n).toNat : Int)
def pint (op : BinOp) (k : IntKind) (a b : Int) : Option Value :=
  match op with
  | .add => some (.int k (k.wrap (a + b)))
  | .sub => some (.int k (k.wrap (a - b)))
  | .mul => some (.int k (k.wrap (a * b)))
  | .quo => if b = 0 then none else some (.int k (k.wrap (a.tdiv b)))
  | .rem => if b = 0 then none else some (.int k (a.tmod b))
  | .and => some (.int k (andI k a b))
  | .or => some (.int k (orI k a b))
  | .xor => some (.int k (xorI k a b))
  | .andNot => some (.int k (andNotI k a b))
  | .eql => some (.bool (decide (a = b)))
  | .neq => some (.bool (!decide (a = b)))
  | .lss => some (.bool (decide (a < b)))
  | .leq => some (.bool (decide (a ≤ b)))
  | .gtr => some (.bool (decide (a > b)))
  | .geq => some (.bool (decide (a ≥ b)))
  | _ => none
def pshift (op : BinOp) (k : IntKind) (a b : Int) : Option Value :=
  if b < 0 then none else
  match op with
  | .shl => some (.int k (k.wrap (a * 2 ^ (min b.toNat k.bits))))
  | .shr => some (.int k (a.fdiv (2 ^ (min b.toNat k.bits))))
  | _ => none
def pstr (op : BinOp) (a b : ByteArray) : Option Value :=
  match op with
  | .add => if a.size + b.size ≤ 9223372036854775807 then some (.string (a ++ b)) else none
  | .eql => some (.bool (decide (a.toList = b.toList)))
  | .neq => some (.bool (!decide (a.toList = b.toList)))
  | .lss => some (.bool (Op.bytesLess a.toList b.toList))
  | .leq => some (.bool (Op.bytesLess a.toList b.toList || decide (a.toList = b.toList)))
  | .gtr => some (.bool (!(Op.bytesLess a.toList b.toList || decide (a.toList = b.toList))))
  | .geq => some (.bool (!(Op.bytesLess a.toList b.toList)))
  | _ => none
def pbin (P : Program) (op : BinOp) (t : TypeId) : Value → Value → Option Value
  | .int k a, .int k' b =>
    match op with
    | .shl | .shr => pshift op k a b
    | _ => if k = k' then pint op k a b else none
  | .string a, .string b => pstr op a b
  | .bool a, .bool b =>
    match P.underlying t, op with
    | some .bool, .eql => some (.bool (decide (a = b)))
    | some .bool, .neq => some (.bool (!decide (a = b)))
    | _, _ => none
  | _, _ => none
def obAt (ob : List Ob) (i g : Nat) : Option Ob :=
  match ob[i]? with
  | some o => if g = o.gen then (if o.nil then none else (if o.iter.isSome then none else some o)) else none
  | none => none
def liveS (ob : List Ob) (i g : Nat) : Option Ob :=
  match ob[i]? with
  | some o => if g = o.gen then (if o.iter.isSome then none else some o) else none
  | none => none
abbrev Ent := ByteArray × Bool × List C
def findE : List Ent → ByteArray → Option Nat
  | [], _ => none
  | e :: r, k => if e.1 = k then some 0 else (findE r k).map (· + 1)
def mapAt (ob : List Ob) (i : Nat) : Option (List Ent) :=
  match ob[i]? with
  | some o => match o.iter with
    | some (.map es) => some es
    | _ => none
  | none => none
def nilMap (ob : List Ob) : M → Option Bool
  | .c (.v (.map none)) => some true
  | .mm i => match ob[i]? with
    | some _ => some false
    | none => none
  | _ => none
def isNilMap : M → Bool
  | .c (.v (.map none)) => true
  | _ => false
def nilSl (ob : List Ob) : M → Option Bool
  | .c (.v (.slice none _ _)) => some true
  | .c (.sl _ n _) => if n = 0 then none else some false
  | .ms i g _ _ => match liveS ob i g with
    | some o => some o.nil
    | none => none
  | _ => none
def nilPt (ob : List Ob) : M → Option Bool
  | .c (.v (.pointer none)) => some true
  | .c (.ptr _) => some false
  | .mp i g _ => match obAt ob i g with
    | some _ => some false
    | none => none
  | _ => none
def leavesT (P : Program) : Nat → TypeId → Option (List Nat)
  | 0, _ => none
  | d + 1, t =>
    match P.underlying t with
    | some .bool => some [1]
    | some (.int _) => some [0]
    | some .string => some [2]
    | some (.array n e) => match leavesT P d e with
      | some l => if l.length = szT P e ∧ 0 < l.length then (if okT P e then (if isAggT P e then some (List.replicate n l).flatten else (if l.length = 1 then some (List.replicate n l).flatten else none)) else none) else none
      | none => none
    | some (.struct fs) => if P.stoodInHeld t then none else
      (fs.toList.foldl (fun acc f => match acc, leavesT P d f.type with
        | some l, some k => if f.name ≠ "_" then (if f.offset = l.length then (if k.length = szT P f.type ∧ 0 < k.length then (if okT P f.type then (if isAggT P f.type then some (l ++ k) else (if k.length = 1 then some (l ++ k) else none)) else none) else none) else none) else none
        | _, _ => none) (some []))
    | _ => none
def leavesX (P : Program) (t : TypeId) : Option (List Nat) := if P.eqGuardType P.depth t then none else if isAggT P t then leavesT P 12 t else none
def eqLeaf : Nat → M → M → Option Bool
  | 0, .c (.v (.int k a)), .c (.v (.int k' b)) => if k = k' then some (decide (a = b)) else none
  | 1, .c (.v (.bool a)), .c (.v (.bool b)) => some (decide (a = b))
  | 2, .c (.v (.string a)), .c (.v (.string b)) => some (decide (a.toList = b.toList))
  | _, _, _ => none
def eqM : List Nat → List M → List M → Option Bool
  | [], [], [] => some true
  | k :: ks, a :: r, b :: s => match eqLeaf k a b, eqM ks r s with
    | some x, some y => some (x && y)
    | _, _ => none
  | _, _, _ => none
def isNilSl : M → Bool
  | .c (.v (.slice none _ _)) => true
  | _ => false
def isNilPt : M → Bool
  | .c (.v (.pointer none)) => true
  | _ => false
def nilRes (op : BinOp) : Option Bool → Option Value
  | some b => match op with
    | .eql => some (.bool b)
    | .neq => some (.bool (!b))
    | _ => none
  | none => none
def eqPt (ob : List Ob) : M → M → Option Bool
  | .mp i g off, .mp j g' off' => if i = j then (match obAt ob i g, obAt ob j g' with
    | some _, some _ => some (decide (off = off'))
    | _, _ => none) else none
  | _, _ => none
def binNil (P : Program) (ob : List Ob) (op : BinOp) (t : TypeId) (x y : M) : Option Value :=
  match P.underlying t with
  | some (.slice _) => nilRes op (if isNilSl y then nilSl ob x else if isNilSl x then nilSl ob y else none)
  | some (.pointer te) => nilRes op (if isNilPt y then nilPt ob x else if isNilPt x then nilPt ob y else if okT P te then (if szT P te = 0 then none else eqPt ob x y) else none)
  | some (.map _ _) => nilRes op (if isNilMap y then nilMap ob x else if isNilMap x then nilMap ob y else none)
  | _ => none
def binM (P : Program) (ob : List Ob) (op : BinOp) (t : TypeId) (x y : M) : Option M :=
  match x, y with
  | .c (.v a), .c (.v b) => match pbin P op t a b with
    | some r => some (.c (.v r))
    | none => (binNil P ob op t x y).map fun r => .c (.v r)
  | .agg a, .agg b => match leavesX P t with
    | some ks => (nilRes op (eqM ks a b)).map fun r => .c (.v r)
    | none => none
  | _, _ => (binNil P ob op t x y).map fun r => .c (.v r)
def nilIfc : M → Option Bool
  | .c (.v .nilIface) => some true
  | .c (.ifc _ _ _) => some false
  | .mi _ _ _ _ => some false
  | _ => none
def nilLit : Operand → Bool
  | .const .nilIface => true
  | _ => false
def isIfcT (P : Program) (t : TypeId) : Bool :=
  match P.underlying t with
  | some (.interface _) => true
  | _ => false
def binIf (P : Program) (op : BinOp) (t : TypeId) (y : Operand) (m : M) (r : Option M) : Option M :=
  if nilLit y then (if isIfcT P t then (nilRes op (nilIfc m)).map (fun r => .c (.v r)) else r) else r
def unM (op : UnOp) : M → Option M
  | .c (.v (.bool b)) => match op with
    | .not => some (.c (.v (.bool (!b))))
    | _ => none
  | .c (.v (.int k n)) => match op with
    | .neg => some (.c (.v (.int k (k.wrap (0 - n)))))
    | .xor => some (.c (.v (.int k (notI k n))))
    | _ => none
  | _ => none

def lay (cs : List M) (off : Nat) (ms : List M) : List M :=
  match ms with
  | [m] => cs.set off m
  | _ => cs.take off ++ (ms ++ cs.drop (off + ms.length))
def loadM (P : Program) (ob : List Ob) (t : TypeId) : M → Option M
  | .c (.ptr cs) => if isAggT P t then (if szT P t ≤ cs.length then some (.agg (up (cs.take (szT P t)))) else none) else (cs[0]?).map M.c
  | .mp i g off => match obAt ob i g with
    | some o => if isAggT P t then (if off + szT P t ≤ o.cs.length then some (.agg ((o.cs.drop off).take (szT P t))) else none) else o.cs[off]?
    | none => none
  | _ => none
def storeM (P : Program) (ob : List Ob) (t : TypeId) (a x : M) : Option (List Ob) :=
  match a, cellsM x with
  | .mp i g off, some ms => match obAt ob i g with
    | some o => if ms.length = szT P t then (if off + ms.length ≤ o.cs.length then some (ob.set i { o with cs := lay o.cs off ms }) else none) else none
    | none => none
  | _, _ => none
def asI : M → Option Int
  | .c (.v (.int _ i)) => some i
  | _ => none
def indexAddrM (P : Program) (ob : List Ob) (t : TypeId) (x ix : M) : Option M :=
  match asI ix with
  | none => none
  | some i =>
    match P.underlying t, x with
    | some (.slice e), .c (.sl cs n _) => if 0 ≤ i then (if i < n then some (.c (.ptr (cs.drop (i.toNat * szT P e)))) else none) else none
    | some (.slice e), .ms id g off n => match liveS ob id g with
      | some _ => if 0 ≤ i then (if i < n then some (.mp id g (off + i.toNat * szT P e)) else none) else none
      | none => none
    | some (.array len e), .mp id g off => match obAt ob id g with
      | some _ => if 0 ≤ i then (if i < len then (if len ≤ 1 then none else some (.mp id g (off + i.toNat * szT P e))) else none) else none
      | none => none
    | some (.array len e), .c (.ptr cs) => if 0 ≤ i then (if i < len then some (.c (.ptr (cs.drop (i.toNat * szT P e)))) else none) else none
    | _, _ => none
def partM (P : Program) (t : TypeId) (ms : List M) (off : Nat) : Option M :=
  if isAggT P t then (if off + szT P t ≤ ms.length then some (.agg ((ms.drop off).take (szT P t))) else none) else ms[off]?
def byteAt (s : ByteArray) (i : Nat) : Int := ((s.toList.getD i 0).toNat : Int)
def indexM (P : Program) (t : TypeId) (x ix : M) : Option M :=
  match asI ix with
  | none => none
  | some i =>
    match P.underlying t, x with
    | some (.array len e), .agg ms => if 0 ≤ i then (if i < len then partM P e ms (i.toNat * szT P e) else none) else none
    | some .string, .c (.v (.string s)) => if 0 ≤ i then (if i < s.size then some (.c (.v (.int .u8 (byteAt s i.toNat)))) else none) else none
    | _, _ => none
def fieldM (P : Program) (t : TypeId) (x : M) (f : Nat) : Option M :=
  match P.underlying t, x with
  | some (.struct fs), .agg ms => match fs[f]? with
    | some q => partM P q.type ms q.offset
    | none => none
  | _, _ => none
def fieldAddrM (P : Program) (ob : List Ob) (t : TypeId) (x : M) (f : Nat) : Option M :=
  match P.underlying t with
  | some (.struct fs) => match fs[f]? with
    | some q => if szT P q.type = 0 then none else
      match x with
      | .c (.ptr cs) => some (.c (.ptr (cs.drop q.offset)))
      | .mp i g off => match obAt ob i g with
        | some _ => some (.mp i g (off + q.offset))
        | none => none
      | _ => none
    | none => none
  | _ => none
def newOb (ob : List Ob) (ty sz : Nat) (cs : List M) : List Ob := ob ++ [{ ty := ty, sz := sz, nil := false, gen := 0, cs := cs }]
def lenM (P : Program) (ob : List Ob) (t : TypeId) : M → Option Int
  | .c (.v (.string s)) => match P.underlying t with
    | some .string => some s.size
    | _ => none
  | .c (.v (.slice none n _)) => match P.underlying t with
    | some (.slice _) => some n
    | _ => none
  | .c (.sl _ n _) => match P.underlying t with
    | some (.slice _) => some n
    | _ => none
  | .ms i g _ n => match P.underlying t, liveS ob i g with
    | some (.slice _), some _ => some n
    | _, _ => none
  | .agg _ => match P.underlying t with
    | some (.array n _) => some n
    | _ => none
  | .c (.v (.map none)) => match P.underlying t with
    | some (.map _ _) => some 0
    | _ => none
  | .mm i => match P.underlying t with
    | some (.map _ _) => (mapAt ob i).map fun es => (es.length : Int)
    | _ => none
  | _ => none
def newsM (ob : List Ob) (sz : Nat) : M → Option (List M × Nat)
  | .c (.v (.slice none 0 0)) => some ([], 0)
  | .c (.v (.string s)) => if sz = 1 then some (up (s.toList.map fun b => .v (.int .u8 (b.toNat : Int))), s.size) else none
  | .c (.sl cs n _) => if cs.length = n * sz then some (up cs, n) else none
  | .ms i g off n => match liveS ob i g with
    | some o => if o.nil then some ([], 0) else (if off + n * sz ≤ o.cs.length then some ((o.cs.drop off).take (n * sz), n) else none)
    | none => none
  | _ => none
def roomB : Nat := 140737488355328
def isSrcT (P : Program) (t : TypeId) (x : M) : Bool :=
  match P.underlying t, x with
  | some .string, .c (.v (.string _)) => true
  | some (.slice _), .c (.v (.string _)) => false
  | some (.slice _), _ => true
  | _, _ => false
def appendM (P : Program) (ob : List Ob) (t tx : TypeId) (s x : M) : Option (M × List Ob) :=
  match P.underlying t with
  | some (.slice e) =>
    if isSrcT P tx x = false then none else
    match newsM ob (szT P e) x with
    | none => none
    | some (ns, n') =>
      match s with
      | .ms i g off n => match liveS ob i g with
        | some o => if off = 0 then (if o.ty = e then (if o.sz = szT P e then (if n * szT P e = o.cs.length then (if 0 < P.bytesOf e then (if (n + n') * P.bytesOf e ≤ roomB then
            some (.ms i (g + 1) 0 (n + n'), ob.set i { o with nil := o.nil && n' == 0, gen := g + 1, cs := o.cs ++ ns }) else none) else none) else none) else none) else none) else none
        | none => none
      | .c (.v (.slice none 0 0)) =>
        if n' = 0 then some (s, ob) else if 0 < P.bytesOf e then (if n' * P.bytesOf e ≤ roomB then some (.ms ob.length 0 0 n', newOb ob e (szT P e) ns) else none) else none
      | .c (.sl cs n true) =>
        if n' = 0 then some (s, ob) else if cs.length = n * szT P e then (if 0 < P.bytesOf e then (if (n + n') * P.bytesOf e ≤ roomB then some (.ms ob.length 0 0 (n + n'), newOb ob e (szT P e) (up cs ++ ns)) else none) else none) else none
      | _ => none
  | _ => none

def isWordsT (P : Program) (t : TypeId) : Bool :=
  match P.underlying t with
  | some (.array _ el) => (match P.underlying el with
    | some (.int .u64) => true
    | _ => false)
  | _ => false
def isBytesT (P : Program) (t : TypeId) : Bool :=
  match P.underlying t with
  | some (.array _ el) => (match P.underlying el with
    | some (.int .u8) => true
    | _ => false)
  | _ => false
def szOb (P : Program) (e : TypeId) : Nat :=
  match P.underlying e with
  | some (.array _ el) => szT P el
  | some (.struct fs) => if fs.any (fun f => isWordsT P f.type || isBytesT P f.type) then 1 else szT P e
  | _ => szT P e
def szBx (P : Program) (e : TypeId) : Nat :=
  match P.underlying e with
  | some (.array _ el) => szT P el
  | some (.struct fs) => if fs.any (fun f => isBytesT P f.type) then 1 else szT P e
  | _ => szT P e
def allocM (P : Program) (ob : List Ob) (e : TypeId) : Option (M × List Ob) :=
  match zeroT P e with
  | some ms => some (.mp ob.length 0 0, newOb ob e (szOb P e) ms)
  | none => none
def boxM (P : Program) (ob : List Ob) (e : TypeId) (x : M) : Option (M × List Ob) :=
  match cellsM x with
  | some ms => some (.mp ob.length 0 0, newOb ob e (szBx P e) ms)
  | none => none
def fillM (place : Nat → Option (Nat × Nat)) (cells : List M) : List (Nat × M) → Option (List M)
  | [] => some cells
  | (i, m) :: r => match place i, cellsM m with
    | some (off, size), some ms => if ms.length = size then (if off + ms.length ≤ cells.length then fillM place (lay cells off ms) r else none) else none
    | _, _ => none
def placeM (P : Program) (t : TypeId) (i : Nat) : Option (Nat × Nat) :=
  match P.underlying t with
  | some (.struct fs) => (fs[i]?).map fun f => (f.offset, szT P f.type)
  | some (.array _ e) => some (i * szT P e, szT P e)
  | _ => none
def buildM (P : Program) (t : TypeId) (parts : List (Nat × M)) : Option M :=
  if isAggT P t then
    match zeroT P t with
    | some zs => (fillM (placeM P t) zs parts).map M.agg
    | none => none
  else none
def zerosM (len : Nat) (zs : List M) : List M := (List.replicate len zs).flatten
def rowM (ob : List Ob) (e sz len : Nat) (ms : List M) : Option (List C) → M × List Ob
  | some cs => (.c (.sl cs len true), ob)
  | none => (.ms ob.length 0 0 len, newOb ob e sz ms)
def buildSliceM (P : Program) (ob : List Ob) (t : TypeId) (len : Nat) (parts : List (Nat × M)) : Option (M × List Ob) :=
  match P.underlying t with
  | some (.slice e) => if len * szT P e ≤ 16777216 then
      (match zeroT P e with
      | some zs => if zs.length = szT P e then (match fillM (fun i => some (i * szT P e, szT P e)) (zerosM len zs) parts with
          | some ms => some (rowM ob e (szT P e) len ms (downs ms))
          | none => none) else none
      | none => none) else none
  | _ => none
def makeSliceM (P : Program) (ob : List Ob) (t : TypeId) (l c : M) : Option (M × List Ob) :=
  match P.underlying t, asI l, asI c with
  | some (.slice e), some n, some k =>
    if 0 ≤ n then (if n ≤ k then (if k * (P.bytesOf e : Int) ≤ 281474976710656 then (if k ≤ 281474976710656 then
      (match zeroT P e with
      | some zs => if zs.length = szT P e then some (.ms ob.length 0 0 n.toNat, newOb ob e (szT P e) (zerosM n.toNat zs)) else none
      | none => none) else none) else none) else none) else none
  | _, _, _ => none
def boundM (m : Option M) (d : Int) : Option Int :=
  match m with
  | none => some d
  | some x => asI x
def sliceM (P : Program) (ob : List Ob) (t : TypeId) (x : M) (lo hi mx : Option M) : Option M :=
  match P.underlying t with
  | some .string =>
    match x, mx with
    | .c (.v (.string s)), none => match boundM lo 0, boundM hi s.size with
      | some l, some h => if 0 ≤ l then (if l ≤ h then (if h ≤ s.size then some (.c (.v (.string (s.extract l.toNat h.toNat)))) else none) else none) else none
      | _, _ => none
    | _, _ => none
  | some (.slice e) =>
    match x with
    | .c (.sl cs n full) => match boundM lo 0, boundM hi n, boundM mx n with
      | some l, some h, some m => if 0 ≤ l then (if l ≤ h then (if h ≤ m then (if m ≤ n then (if cs.length = n * szT P e then
          some (.c (if l = h then .sl [] 0 false else .sl ((cs.drop (l.toNat * szT P e)).take ((h - l).toNat * szT P e)) (h - l).toNat (if mx.isSome then decide (m = h) else full && decide (h = n)))) else none) else none) else none) else none) else none
      | _, _, _ => none
    | .c (.v (.slice none 0 0)) => match boundM lo 0, boundM hi 0, mx with
      | some l, some h, none => if l = 0 then (if h = 0 then some x else none) else none
      | _, _, _ => none
    | .ms i g off n => match liveS ob i g, boundM lo 0, boundM hi n, mx with
      | some o, some l, some h, none => if 0 ≤ l then (if l ≤ h then (if h ≤ n then (if o.sz = szT P e then
          (if o.nil then some (.c (.v (.slice none 0 0))) else some (if l = h then .c (.sl [] 0 false) else .ms i g (off + l.toNat * szT P e) (h - l).toNat)) else none) else none) else none) else none
      | _, _, _, _ => none
    | _ => none
  | some (.array k e) =>
    match x with
    | .mp i g off => match obAt ob i g, boundM lo 0, boundM hi k, boundM mx k with
      | some o, some l, some h, some m => if 0 ≤ l then (if l < h then (if h ≤ m then (if m ≤ k then (if o.sz = szT P e then (if off + k * szT P e ≤ o.cs.length then
          some (.ms i g (off + l.toNat * szT P e) (h - l).toNat) else none) else none) else none) else none) else none) else none
      | _, _, _, _ => none
    | _ => none
  | _ => none
def bytesM : List M → Option (List UInt8)
  | [] => some []
  | .c (.v (.int .u8 n)) :: r => (bytesM r).map fun bs => UInt8.ofNat n.toNat :: bs
  | _ :: _ => none
def isStrM : M → Bool
  | .c (.v (.string _)) => true
  | _ => false
def headOf (P : Program) (e u : TypeId) : Bool := rowAt P (fun t => sameLayout P P.depth t u) P.depth e 1 0 1
def convM (P : Program) (ob : List Ob) (src dst : TypeId) (x : M) : Option (M × List Ob) :=
  match P.underlying src, P.underlying dst, x with
  | some _, some (.int k), .c (.v (.int _ n)) => some (.c (.v (.int k (k.wrap n))), ob)
  | some _, some .string, .c (.v (.string s)) => some (x, ob)
  | some .string, some (.slice e), .c (.v (.string s)) => match P.underlying e with
    | some (.int .u8) => if szT P e = 1 then (if s.size ≤ 9223372036854775807 then some (.ms ob.length 0 0 s.size, newOb ob e 1 (up (s.toList.map fun b => .v (.int .u8 (b.toNat : Int))))) else none) else none
    | _ => none
  | some (.slice e), some .string, y => if isStrM y then none else match P.underlying e, newsM ob 1 y with
    | some (.int .u8), some (ns, _) => (bytesM ns).map fun bs => (.c (.v (.string ⟨bs.toArray⟩)), ob)
    | _, _ => none
  | some (.pointer t), some .unsafePointer, .mp i g off => match obAt ob i g with
    | some o => if okT P t then (if szT P t = 0 then none else (if off < o.cs.length then some (.mp i g off, ob) else none)) else none
    | none => none
  | some .unsafePointer, some (.pointer u), .mp i g off => match obAt ob i g with
    | some o => if off = 0 then (if o.ty = u ∨ headOf P o.ty u = true then (if okT P u then (if szT P o.ty = 0 then none else (if szT P o.ty ≤ o.cs.length then some (.mp i g off, ob) else none)) else none) else none) else none
    | none => none
  | _, _, _ => none
def extractM (x : M) (i : Nat) : Option M :=
  match x with
  | .tup ms => ms[i]?
  | _ => none

end Go.Av

/- What a step of the world does to objects: a new block, a block written, an object moved to a new block, an object given up. -/
set_option linter.unusedVariables false
set_option linter.unusedSimpArgs false
namespace Go.Av
open Go

def owns (E : Env) (ob : List Ob) (b : Nat) : Prop := ∃ (i : Nat) (o : Ob), ob[i]? = some o ∧ o.nil = false ∧ E.blk i = b
structure Step (w : World) (E : Env) (ob : List Ob) (w' : World) (E' : Env) (ob' : List Ob) : Prop where
  heap : HeapOK w' E' ob'
  ext : Ext w E ob w' E' ob'
  base : Base w (owns E ob) E.st w' E' ob'

theorem Base.refl (w : World) (E : Env) (ob : List Ob) : Base w (owns E ob) E.st w E ob :=
  ⟨rfl, rfl, rfl, Nat.le_refl _, fun _ _ _ => rfl, fun _ h => h, fun _ h => .inl h, fun i o h hn => .inl ⟨i, o, h, hn, rfl⟩⟩
theorem Base.trans {w0 : World} {own0 st0 : Nat → Prop} {w w' : World} {E E' : Env} {ob ob' : List Ob} (h : Base w0 own0 st0 w E ob) (k : Base w (owns E ob) E.st w' E' ob') : Base w0 own0 st0 w' E' ob' := by
  have ho : ∀ b, owns E ob b → own0 b ∨ w0.heap.size ≤ b := by
    rintro b ⟨i, o, hi, hn, rfl⟩
    exact h.own i o hi hn
  have hs := h.size
  refine ⟨k.os.trans h.os, k.tape.trans h.tape, k.output.trans h.output, Nat.le_trans hs k.size, fun b hb hn => ?_, fun b hb => k.st b (h.st b hb), fun b hb => ?_, fun i o hi hn => ?_⟩
  · exact (k.block b (by omega) (fun hw => by rcases ho b hw with h1 | h1; exact hn h1; omega)).trans (h.block b hb hn)
  · rcases k.st_of b hb with h1 | h1 | h1
    · exact h.st_of b h1
    · exact .inr (ho b h1)
    · exact .inr (.inr (by omega))
  · rcases k.own i o hi hn with h1 | h1
    · exact ho _ h1
    · exact .inr (by omega)
theorem Step.refl {w : World} {E : Env} {ob : List Ob} (h : HeapOK w E ob) : Step w E ob w E ob := ⟨h, .refl _ _ _, .refl _ _ _⟩
theorem Step.trans {w w1 w2 : World} {E E1 E2 : Env} {ob ob1 ob2 : List Ob} (h : Step w E ob w1 E1 ob1) (k : Step w1 E1 ob1 w2 E2 ob2) : Step w E ob w2 E2 ob2 :=
  ⟨k.heap, h.ext.trans k.ext, h.base.trans k.base⟩

def upd {α : Type} (f : Nat → α) (i : Nat) (x : α) : Nat → α := fun k => if k = i then x else f k
theorem upd_same {α : Type} (f : Nat → α) (i : Nat) (x : α) : upd f i x i = x := by simp [upd]
theorem upd_ne {α : Type} (f : Nat → α) (i : Nat) (x : α) {k : Nat} (h : k ≠ i) : upd f i x k = f k := by simp [upd, h]

theorem ObOK.keep {w w' : World} {E E' : Env} {ob ob' : List Ob} {i : Nat} {o : Ob} (hk : Ext w E ob w' E' ob') (hb : E'.blk i = E.blk i) (ha : E'.asz i = E.asz i) (hw : o.nil = false → w'.heap[E.blk i]? = w.heap[E.blk i]?) (h : ObOK w E ob i o) : ObOK w' E' ob' i o := by
  unfold ObOK at *
  split
  · rename_i q hi
    rw [hi] at h
    exact ⟨h.1.keep hk hb (hw h.2), h.2⟩
  · rename_i hi
    rw [hi] at h
    refine ⟨h.1, fun hn => ?_⟩
    obtain ⟨arr, lo, hii, h1, h2, h3, h4⟩ := h.2 hn
    exact ⟨arr, lo, hii, by rw [hb, hw hn]; exact h1, h2, by rw [ha]; exact h3, h4.keep hk⟩

theorem getElem?_snoc {α : Type} (l : List α) (x : α) (i : Nat) : (l ++ [x])[i]? = if i < l.length then l[i]? else if i = l.length then some x else none := by
  by_cases h : i < l.length
  · rw [if_pos h, List.getElem?_append_left h]
  · rw [if_neg h]
    by_cases e : i = l.length
    · subst e; rw [if_pos rfl, List.getElem?_append_right (Nat.le_refl _)]; simp
    · rw [if_neg e]; exact List.getElem?_eq_none (by simp; omega)

theorem step_new {w w' : World} {E : Env} {ob : List Ob} (hh : HeapOK w E ob) (ty sz : Nat) (cs : List M) (arr : Array Value) (hr : Row w E ob cs arr) (lo hi : Nat) (hf : ∀ j, j < arr.size → ¬ (lo ≤ j ∧ j < hi))
    (h1 : w'.os = w.os) (h2 : w'.tape = w.tape) (h3 : w'.output = w.output) (h4 : w'.heap = w.heap.push (.cells arr ty (lo, hi))) :
    Step w E ob w' { E with blk := upd E.blk ob.length w.heap.size, asz := upd E.asz ob.length arr.size } (newOb ob ty sz cs) := by
  have hold : ∀ b, b < w.heap.size → w'.heap[b]? = w.heap[b]? := fun b hb => by rw [h4, Array.getElem?_push, if_neg (by omega)]
  have hnew : w'.heap[w.heap.size]? = some (.cells arr ty (lo, hi)) := by rw [h4]; simp
  have hsz : w'.heap.size = w.heap.size + 1 := by rw [h4]; simp
  have hext : Ext w E ob w' { E with blk := upd E.blk ob.length w.heap.size, asz := upd E.asz ob.length arr.size } (newOb ob ty sz cs) := by
    refine ⟨fun b hb => ⟨hb, hold b (hh.stb b hb)⟩, fun i o ho => ?_⟩
    have hlt : i < ob.length := (List.getElem?_eq_some_iff.1 ho).1
    refine ⟨o, by unfold newOb; rw [getElem?_snoc, if_pos hlt]; exact ho, Nat.le_refl _, rfl, fun _ => upd_ne _ _ _ (by omega), fun _ => ⟨rfl, rfl, upd_ne _ _ _ (by omega), upd_ne _ _ _ (by omega)⟩⟩
  refine ⟨⟨fun i o ho => ?_, fun i j oi oj hi hj ni nj he => ?_, fun b hb => by have := hh.stb b hb; omega, fun i o ho hn => ?_, hh.gl.ext hext.st⟩, hext, ?_⟩
  · unfold newOb at ho
    rw [getElem?_snoc] at ho
    split at ho
    · rename_i hlt
      have h0 := hh.obj i o ho
      exact h0.keep hext (upd_ne _ _ _ (by omega)) (upd_ne _ _ _ (by omega)) (fun hn => hold _ (hh.own i o ho hn).2)
    · split at ho
      · rename_i e
        subst e
        obtain rfl := Option.some.inj ho
        simp only [ObOK]
        exact ⟨by simp, fun _ => ⟨arr, lo, hi, by rw [upd_same]; exact hnew, hf, (upd_same _ _ _).symm, hr.keep hext⟩⟩
      · simp at ho
  · unfold newOb at hi hj
    rw [getElem?_snoc] at hi hj
    simp only [upd] at he
    split at hi <;> split at hj
    · rename_i p q
      rw [if_neg (by omega), if_neg (by omega)] at he
      exact hh.inj i j oi oj hi hj ni nj he
    · split at hj
      · rename_i p q r
        rw [if_neg (by omega), if_pos r] at he
        have := (hh.own i oi hi ni).2
        omega
      · simp at hj
    · split at hi
      · rename_i p q r
        rw [if_pos r, if_neg (by omega)] at he
        have := (hh.own j oj hj nj).2
        omega
      · simp at hi
    · split at hi
      · split at hj
        · omega
        · simp at hj
      · simp at hi
  · unfold newOb at ho
    rw [getElem?_snoc] at ho
    split at ho
    · rename_i p
      have := hh.own i o ho hn
      simp only [upd]
      rw [if_neg (by omega)]
      exact ⟨this.1, by omega⟩
    · split at ho
      · rename_i e
        simp only [upd]
        rw [if_pos e]
        exact ⟨fun hs => by have := hh.stb _ hs; omega, by omega⟩
      · simp at ho
  · refine ⟨h1, h2, h3, by omega, fun b hb _ => hold b hb, fun b hb => hb, fun b hb => .inl hb, fun i o ho hn => ?_⟩
    unfold newOb at ho
    rw [getElem?_snoc] at ho
    simp only [upd]
    split at ho
    · rename_i p
      rw [if_neg (by omega)]
      exact .inl ⟨i, o, ho, hn, rfl⟩
    · split at ho
      · rename_i e
        rw [if_pos e]
        exact .inr (Nat.le_refl _)
      · simp at ho

theorem step_nil {w : World} {E : Env} {ob : List Ob} (hh : HeapOK w E ob) (ty sz : Nat) : Step w E ob w E (ob ++ [{ ty := ty, sz := sz, nil := true, gen := 0, cs := [] }]) := by
  have hext : Ext w E ob w E (ob ++ [{ ty := ty, sz := sz, nil := true, gen := 0, cs := [] }]) := by
    refine ⟨fun b hb => ⟨hb, rfl⟩, fun i o ho => ?_⟩
    have hlt : i < ob.length := (List.getElem?_eq_some_iff.1 ho).1
    exact ⟨o, by rw [getElem?_snoc, if_pos hlt]; exact ho, Nat.le_refl _, rfl, fun _ => rfl, fun _ => ⟨rfl, rfl, rfl, rfl⟩⟩
  have hold : ∀ (i : Nat) (o : Ob), (ob ++ [{ ty := ty, sz := sz, nil := true, gen := 0, cs := [] }])[i]? = some o → o.nil = false → ob[i]? = some o := by
    intro i o ho hn
    rw [getElem?_snoc] at ho
    split at ho
    · exact ho
    · split at ho
      · obtain rfl := Option.some.inj ho
        simp at hn
      · simp at ho
  refine ⟨⟨fun i o ho => ?_, fun i j oi oj hi hj ni nj he => hh.inj i j oi oj (hold i oi hi ni) (hold j oj hj nj) ni nj he, hh.stb, fun i o ho hn => hh.own i o (hold i o ho hn) hn, hh.gl.ext hext.st⟩, hext, ?_⟩
  · rw [getElem?_snoc] at ho
    split at ho
    · exact (hh.obj i o ho).keep hext rfl rfl (fun _ => rfl)
    · split at ho
      · obtain rfl := Option.some.inj ho
        simp [ObOK]
      · simp at ho
  · exact ⟨rfl, rfl, rfl, Nat.le_refl _, fun _ _ _ => rfl, fun _ h => h, fun _ h => .inl h, fun i o ho hn => .inl ⟨i, o, hold i o ho hn, hn, rfl⟩⟩

theorem getElem?_set {α : Type} (l : List α) (i j : Nat) (x : α) : (l.set i x)[j]? = if i = j then (if i < l.length then some x else none) else l[j]? := by
  rw [List.getElem?_set]

theorem step_set {w w' : World} {E : Env} {ob : List Ob} (hh : HeapOK w E ob) {i : Nat} {o : Ob} (ho : ob[i]? = some o) (hni : o.nil = false) (hit : o.iter = none) (cs' : List M) (g' : Nat) (hg : o.gen ≤ g') (arr' : Array Value) (ty' lo hi : Nat) (hty : ty' = o.ty)
    (hr : Row w E ob cs' arr') (hf : ∀ j, j < arr'.size → ¬ (lo ≤ j ∧ j < hi)) (hsz : arr'.size = E.asz i)
    (h1 : w'.os = w.os) (h2 : w'.tape = w.tape) (h3 : w'.output = w.output) (h4 : w'.heap.size = w.heap.size) (h5 : ∀ b, b ≠ E.blk i → w'.heap[b]? = w.heap[b]?) (h6 : w'.heap[E.blk i]? = some (.cells arr' ty' (lo, hi))) :
    Step w E ob w' E (ob.set i { o with cs := cs', gen := g' }) := by
  subst hty
  have hlt : i < ob.length := (List.getElem?_eq_some_iff.1 ho).1
  have hext : Ext w E ob w' E (ob.set i { o with cs := cs', gen := g' }) := by
    refine ⟨fun b hb => ⟨hb, h5 b (fun e => (hh.own i o ho hni).1 (e ▸ hb))⟩, fun k q hq => ?_⟩
    by_cases e : i = k
    · subst e
      obtain rfl := Option.some.inj (ho.symm.trans hq)
      exact ⟨{ o with cs := cs', gen := g' }, by rw [getElem?_set, if_pos rfl, if_pos hlt], hg, rfl, fun _ => rfl, fun _ => ⟨rfl, rfl, rfl, rfl⟩⟩
    · exact ⟨q, by rw [getElem?_set, if_neg e]; exact hq, Nat.le_refl _, rfl, fun _ => rfl, fun _ => ⟨rfl, rfl, rfl, rfl⟩⟩
  have hback : ∀ (k : Nat) (q : Ob), (ob.set i { o with cs := cs', gen := g' })[k]? = some q → ∃ q0, ob[k]? = some q0 ∧ q0.nil = q.nil := by
    intro k q hq
    rw [getElem?_set] at hq
    split at hq
    · rename_i e
      subst e
      try rw [if_pos hlt] at hq
      obtain rfl := Option.some.inj hq
      exact ⟨o, ho, rfl⟩
    · exact ⟨q, hq, rfl⟩
  refine ⟨⟨fun k q hq => ?_, fun a b oa ob_ ha hb na nb he => ?_, fun b hb => by rw [h4]; exact hh.stb b hb, fun k q hq hn => ?_, hh.gl.ext hext.st⟩, hext, ⟨h1, h2, h3, by omega, fun b hb hn => h5 b (fun e => hn ⟨i, o, ho, hni, e.symm⟩), fun b hb => hb, fun b hb => .inl hb, fun k q hq hn => ?_⟩⟩
  · rw [getElem?_set] at hq
    split at hq
    · rename_i e
      subst e
      try rw [if_pos hlt] at hq
      obtain rfl := Option.some.inj hq
      unfold ObOK
      split
      · rename_i q hi0
        simp [hit] at hi0
      · exact ⟨fun h => by simp [hni] at h, fun _ => ⟨arr', lo, hi, h6, hf, hsz, hr.keep hext⟩⟩
    · rename_i e
      exact (hh.obj k q hq).keep hext rfl rfl (fun hn => h5 _ (fun eb => e (hh.inj i k o q ho hq hni hn eb.symm)))
  · obtain ⟨qa, ha1, ha2⟩ := hback a oa ha
    obtain ⟨qb, hb1, hb2⟩ := hback b ob_ hb
    exact hh.inj a b qa qb ha1 hb1 (ha2.trans na) (hb2.trans nb) he
  · obtain ⟨q0, hq1, hq2⟩ := hback k q hq
    rw [h4]
    exact hh.own k q0 hq1 (hq2.trans hn)
  · obtain ⟨q0, hq1, hq2⟩ := hback k q hq
    exact .inl ⟨k, q0, hq1, hq2.trans hn, rfl⟩

theorem step_move {w w' : World} {E : Env} {ob : List Ob} (hh : HeapOK w E ob) {i : Nat} {o : Ob} (ho : ob[i]? = some o) (hit : o.iter = none) (cs' : List M) (g' : Nat) (hg : o.gen < g') (arr : Array Value) (ty' : Nat) (hty : ty' = o.ty)
    (hr : Row w E ob cs' arr) (h1 : w'.os = w.os) (h2 : w'.tape = w.tape) (h3 : w'.output = w.output) (h4 : w'.heap = w.heap.push (.cells arr ty' (0, 0))) :
    Step w E ob w' { E with blk := upd E.blk i w.heap.size, asz := upd E.asz i arr.size } (ob.set i { o with nil := false, cs := cs', gen := g' }) := by
  subst hty
  have hlt : i < ob.length := (List.getElem?_eq_some_iff.1 ho).1
  have hold : ∀ b, b < w.heap.size → w'.heap[b]? = w.heap[b]? := fun b hb => by rw [h4, Array.getElem?_push, if_neg (by omega)]
  have hnew : w'.heap[w.heap.size]? = some (.cells arr o.ty (0, 0)) := by rw [h4]; simp
  have hsz : w'.heap.size = w.heap.size + 1 := by rw [h4]; simp
  have hext : Ext w E ob w' { E with blk := upd E.blk i w.heap.size, asz := upd E.asz i arr.size } (ob.set i { o with nil := false, cs := cs', gen := g' }) := by
    refine ⟨fun b hb => ⟨hb, hold b (hh.stb b hb)⟩, fun k q hq => ?_⟩
    by_cases e : i = k
    · subst e
      obtain rfl := Option.some.inj (ho.symm.trans hq)
      exact ⟨{ o with nil := false, cs := cs', gen := g' }, by rw [getElem?_set, if_pos rfl, if_pos hlt], Nat.le_of_lt hg, rfl, fun h => by simp [hit] at h, fun h => by simp at h; omega⟩
    · exact ⟨q, by rw [getElem?_set, if_neg e]; exact hq, Nat.le_refl _, rfl, fun _ => upd_ne _ _ _ (Ne.symm e), fun _ => ⟨rfl, rfl, upd_ne _ _ _ (Ne.symm e), upd_ne _ _ _ (Ne.symm e)⟩⟩
  refine ⟨⟨fun k q hq => ?_, fun a b oa ob_ ha hb na nb he => ?_, fun b hb => by have := hh.stb b hb; omega, fun k q hq hn => ?_, hh.gl.ext hext.st⟩, hext, ⟨h1, h2, h3, by omega, fun b hb hn => hold b hb, fun b hb => hb, fun b hb => .inl hb, fun k q hq hn => ?_⟩⟩
  · rw [getElem?_set] at hq
    split at hq
    · rename_i e
      subst e
      try rw [if_pos hlt] at hq
      obtain rfl := Option.some.inj hq
      unfold ObOK
      split
      · rename_i q hi0
        simp [hit] at hi0
      · exact ⟨fun h => by simp at h, fun _ => ⟨arr, 0, 0, by simp only [upd_same]; exact hnew, fun j _ => by omega, by simp only [upd_same], hr.keep hext⟩⟩
    · rename_i e
      exact (hh.obj k q hq).keep hext (upd_ne _ _ _ (Ne.symm e)) (upd_ne _ _ _ (Ne.symm e)) (fun hn => hold _ (hh.own k q hq hn).2)
  · rw [getElem?_set] at ha hb
    simp only [upd] at he
    split at ha <;> split at hb
    · omega
    · rename_i p q
      rw [if_pos p.symm, if_neg (Ne.symm q)] at he
      have := (hh.own b ob_ hb nb).2
      omega
    · rename_i p q
      rw [if_neg (Ne.symm p), if_pos q.symm] at he
      have := (hh.own a oa ha na).2
      omega
    · rename_i p q
      rw [if_neg (Ne.symm p), if_neg (Ne.symm q)] at he
      exact hh.inj a b oa ob_ ha hb na nb he
  · rw [getElem?_set] at hq
    simp only [upd]
    split at hq
    · rename_i e
      rw [if_pos e.symm]
      exact ⟨fun hs => by have := hh.stb _ hs; omega, by omega⟩
    · rename_i e
      rw [if_neg (Ne.symm e)]
      have := hh.own k q hq hn
      exact ⟨this.1, by omega⟩
  · rw [getElem?_set] at hq
    simp only [upd]
    split at hq
    · rename_i e
      rw [if_pos e.symm]
      exact .inr (Nat.le_refl _)
    · rename_i e
      rw [if_neg (Ne.symm e)]
      exact .inl ⟨k, q, hq, hn, rfl⟩

theorem step_bump {w : World} {E : Env} {ob : List Ob} (hh : HeapOK w E ob) {i : Nat} {o : Ob} (ho : ob[i]? = some o) (hni : o.nil = true) (hit : o.iter = none) :
    Step w E ob w E (ob.set i { o with gen := o.gen + 1 }) := by
  have hlt : i < ob.length := (List.getElem?_eq_some_iff.1 ho).1
  have hext : Ext w E ob w E (ob.set i { o with gen := o.gen + 1 }) := by
    refine ⟨fun b hb => ⟨hb, rfl⟩, fun k q hq => ?_⟩
    by_cases e : i = k
    · subst e
      obtain rfl := Option.some.inj (ho.symm.trans hq)
      exact ⟨{ o with gen := o.gen + 1 }, by rw [getElem?_set, if_pos rfl, if_pos hlt], Nat.le_succ _, rfl, fun _ => rfl, fun _ => ⟨rfl, rfl, rfl, rfl⟩⟩
    · exact ⟨q, by rw [getElem?_set, if_neg e]; exact hq, Nat.le_refl _, rfl, fun _ => rfl, fun _ => ⟨rfl, rfl, rfl, rfl⟩⟩
  have hback : ∀ (k : Nat) (q : Ob), (ob.set i { o with gen := o.gen + 1 })[k]? = some q → q.nil = false → ob[k]? = some q := by
    intro k q hq hn
    rw [getElem?_set] at hq
    split at hq
    · rename_i e
      subst e
      try rw [if_pos hlt] at hq
      obtain rfl := Option.some.inj hq
      simp [hni] at hn
    · exact hq
  refine ⟨⟨fun k q hq => ?_, fun a b oa ob_ ha hb na nb he => hh.inj a b oa ob_ (hback a oa ha na) (hback b ob_ hb nb) na nb he, hh.stb, fun k q hq hn => hh.own k q (hback k q hq hn) hn, hh.gl.ext hext.st⟩, hext,
    ⟨rfl, rfl, rfl, Nat.le_refl _, fun _ _ _ => rfl, fun _ h => h, fun _ h => .inl h, fun k q hq hn => .inl ⟨k, q, hback k q hq hn, hn, rfl⟩⟩⟩
  rw [getElem?_set] at hq
  split at hq
  · rename_i e
    subst e
    try rw [if_pos hlt] at hq
    obtain rfl := Option.some.inj hq
    have h0 := hh.obj i o ho
    unfold ObOK at h0 ⊢
    rw [hit] at h0
    split
    · rename_i q hi0
      simp [hit] at hi0
    · exact ⟨fun _ => h0.1 hni, fun hf => by simp [hni] at hf⟩
  · exact (hh.obj k q hq).keep hext rfl rfl (fun _ => rfl)

end Go.Av

/- Maps of texts to closed data: what the world bears of them. -/
set_option linter.unusedVariables false
set_option linter.unusedSimpArgs false
namespace Go.Av
open Go
variable {P : Program} {w : World} {E : Env} {ob : List Ob}

theorem findE_some {es : List Ent} {k : ByteArray} {j : Nat} (h : findE es k = some j) : ∃ e, es[j]? = some e ∧ e.1 = k := by
  induction es generalizing j with
  | nil => simp [findE] at h
  | cons x r ih =>
    unfold findE at h
    split at h
    · rename_i hx
      obtain rfl := Option.some.inj h
      exact ⟨x, rfl, hx⟩
    · obtain ⟨j', hj, rfl⟩ := Option.map_eq_some_iff.1 h
      obtain ⟨e, h1, h2⟩ := ih hj
      exact ⟨e, by simpa using h1, h2⟩
def EntOK (w : World) (E : Env) (es : List Ent) (arr : Array MapEntry) : Prop :=
  arr.size = es.length ∧ ∀ (j : Nat) (e : Ent), es[j]? = some e → ∃ x, arr[j]? = some x ∧ x.key = .string e.1 ∧ x.born = j ∧ RepM w E [] (eM e.2) x.val
theorem findNow_ent {es : List Ent} {l : List MapEntry} (k : ByteArray) (h : ∀ (j : Nat) (e : Ent), es[j]? = some e → ∃ x, l[j]? = some x ∧ x.key = .string e.1) (hl : l.length = es.length) (i : Nat) :
    match findE es k with
    | some j => ∃ x, l[j]? = some x ∧ Instr.findNow .string (.string k) l i = some (some (i + j, x.val))
    | none => Instr.findNow .string (.string k) l i = some none := by
  induction es generalizing l i with
  | nil =>
    cases l with
    | nil => rfl
    | cons _ _ => simp at hl
  | cons e r ih =>
    cases l with
    | nil => simp at hl
    | cons x l =>
      obtain ⟨x', hx', hk⟩ := h 0 e rfl
      obtain rfl := Option.some.inj hx'
      have ih' := ih (l := l) (fun j e he => by
        obtain ⟨y, h1, h2⟩ := h (j + 1) e (by simpa using he)
        exact ⟨y, by simpa using h1, h2⟩) (by simpa using hl) (i + 1)
      unfold findE
      by_cases c : e.1 = k
      · rw [if_pos c]
        refine ⟨x, rfl, ?_⟩
        have : (k == k) = true := (MapKept.bytes_beq k k).2 rfl
        simp [Instr.findNow, hk, Instr.sameNow, c, this]
      · rw [if_neg c]
        have hne : (k == e.1) = false := by
          cases hb : (k == e.1) with
          | false => rfl
          | true => exact absurd ((MapKept.bytes_beq k e.1).1 hb).symm c
        cases hf : findE r k with
        | none =>
          rw [hf] at ih'
          simp only [Option.map_none]
          simp [Instr.findNow, hk, Instr.sameNow, hne, ih']
        | some j =>
          rw [hf] at ih'
          obtain ⟨y, h1, h2⟩ := ih'
          simp only [Option.map_some]
          refine ⟨y, by simpa using h1, ?_⟩
          simp [Instr.findNow, hk, Instr.sameNow, hne, h2]
          omega
theorem odd_map {i : Nat} {es : List Ent} (h : OddOK w E ob i (.map es)) : ∃ arr, w.heap[E.blk i]? = some (.map arr es.length) ∧ EntOK w E es arr := by
  obtain ⟨arr, h1, h2, h3⟩ := h
  exact ⟨arr, h1, h2, h3⟩
theorem mapAt_rep (hh : HeapOK w E ob) {i : Nat} {y : Value} {es : List Ent} (hx : RepM w E ob (.mm i) y) (h : mapAt ob i = some es) :
    ∃ o arr, ob[i]? = some o ∧ o.iter = some (.map es) ∧ o.nil = false ∧ y = .map (some (E.blk i)) ∧ w.heap[E.blk i]? = some (.map arr es.length) ∧ EntOK w E es arr := by
  unfold mapAt at h
  split at h
  · rename_i o ho
    split at h
    · rename_i es' hit
      obtain rfl := Option.some.inj h
      cases hx with
      | mm hq =>
        obtain ⟨o', ho', _, rfl⟩ := hq
        have hob := hh.obj i o ho
        unfold ObOK at hob
        rw [hit] at hob
        obtain ⟨arr, h1, h2⟩ := odd_map hob.1
        exact ⟨o, arr, ho, hit, hob.2, rfl, h1, h2⟩
    · simp at h
  · simp at h
theorem nilMap_rep {x : M} {a : Value} {q : Bool} (hx : RepM w E ob x a) (h : nilMap ob x = some q) : ∃ r : Option Nat, a = .map r ∧ q = r.isNone := by
  unfold nilMap at h
  split at h
  · obtain rfl := Option.some.inj h
    cases hx with
    | c hc => cases hc; exact ⟨none, rfl, rfl⟩
  · split at h
    · obtain rfl := Option.some.inj h
      cases hx with
      | mm hq =>
        obtain ⟨_, _, _, rfl⟩ := hq
        exact ⟨_, rfl, rfl⟩
    · simp at h
  · simp at h
theorem isNilMap_rep {x : M} {a : Value} (hx : RepM w E ob x a) (h : isNilMap x = true) : a = .map none := by
  unfold isNilMap at h
  split at h
  · cases hx with
    | c hc => cases hc; rfl
  · simp at h
end Go.Av

/- The operations on abstract values tell what the model's operations do. -/
set_option linter.unusedVariables false
set_option linter.unusedSimpArgs false
namespace Go.Av
open Go

variable {P : Program} {w : World} {E : Env} {ob : List Ob}

theorem rep_const {x : Value} {m : M} (h : constM x = some m) : RepM w E ob m x := by
  unfold constM at h
  split at h
  · rename_i cs
    split at h
    · rename_i ha
      obtain rfl := Option.some.inj h
      refine .agg _ _ (by simp) (fun j hj => ?_) (fun j hj m hm => ?_)
      · exact (Array.all_eq_true.1 ha) j hj
      · rw [List.getElem?_map, Array.getElem?_toList, Array.getElem?_eq_getElem hj] at hm
        obtain rfl := Option.some.inj hm
        exact .c (.v _)
    · simp at h
  · simp at h
  · obtain rfl := Option.some.inj h
    exact .c (.v _)

theorem rep_cells {m : M} {y : Value} {ms : List M} (h : RepM w E ob m y) (hc : cellsM m = some ms) :
    y.cells.size = ms.length ∧ (∀ v ∈ y.cells.toList, v.oneCell' = true) ∧ Row w E ob ms y.cells := by
  have single : ∀ (m : M) (y : Value), RepM w E ob m y → y.oneCell' = true → ms = [m] → y.cells.size = ms.length ∧ (∀ v ∈ y.cells.toList, v.oneCell' = true) ∧ Row w E ob ms y.cells := by
    rintro m y hr h1 rfl
    have hy : y.cells = #[y] := by
      cases y <;> first | rfl | simp [Value.oneCell'] at h1
    rw [hy]
    refine ⟨rfl, by simpa using h1, fun j m' hm => ?_⟩
    cases j with
    | zero =>
      obtain rfl := Option.some.inj hm
      exact ⟨y, rfl, h1, hr⟩
    | succ j => simp at hm
  cases h with
  | c hx =>
    cases hx with
    | v x =>
      simp only [cellsM] at hc
      split at hc
      · rename_i h1
        obtain rfl := Option.some.inj hc
        exact single _ _ (.c (.v _)) h1 rfl
      · simp at hc
    | nl full =>
      obtain rfl := Option.some.inj hc
      exact single _ _ (.c (.nl full)) rfl rfl
    | sl cs n full a cap ys hf hn h1 h2 =>
      obtain rfl := Option.some.inj hc
      exact single _ _ (.c (.sl cs n full a cap ys hf hn h1 h2)) rfl rfl
    | ptr cs a ys h1 h2 =>
      obtain rfl := Option.some.inj hc
      exact single _ _ (.c (.ptr cs a ys h1 h2)) rfl rfl
    | ifc1 t c y h =>
      obtain rfl := Option.some.inj hc
      exact single _ _ (.c (.ifc1 t c y h)) rfl rfl
    | ifca t cs arr hs ho h =>
      obtain rfl := Option.some.inj hc
      exact single _ _ (.c (.ifca t cs arr hs ho h)) rfl rfl
  | agg ms' arr hs ho h =>
    obtain rfl := Option.some.inj hc
    refine ⟨hs, fun v hv => ?_, fun j m hm => ?_⟩
    · obtain ⟨j, hj, rfl⟩ := List.getElem_of_mem hv
      exact ho j hj
    · have hj : j < arr.size := by rw [hs]; exact (List.getElem?_eq_some_iff.1 hm).1
      exact ⟨arr[j], Array.getElem?_eq_getElem hj, ho j hj, h j hj m hm⟩
  | tup ms' arr hs h => simp [cellsM] at hc
  | ms hq => exact single _ _ (.ms hq) hq.1 (Option.some.inj hc).symm
  | mp hq => exact single _ _ (.mp hq) hq.1 (Option.some.inj hc).symm
  | mi hq => exact single _ _ (.mi hq) rfl (Option.some.inj hc).symm
  | mf fn first cap f1 c1 hs1 hs2 h1 h2 => exact single _ _ (.mf fn first cap f1 c1 hs1 hs2 h1 h2) rfl (Option.some.inj hc).symm
  | it hq =>
    obtain ⟨o, ho, hq', rfl⟩ := hq
    exact single _ _ (.it ⟨o, ho, hq', rfl⟩) rfl (Option.some.inj hc).symm
  | mm hq =>
    obtain ⟨o, ho, hq', rfl⟩ := hq
    exact single _ _ (.mm ⟨o, ho, hq', rfl⟩) rfl (Option.some.inj hc).symm
  | junk y => simp [cellsM] at hc

theorem run_isAgg {t : TypeId} {d : TypeDesc} (h : P.underlying t = some d) (w : World) : (isAgg t).run P w = .ok (isAggT P t) w := by
  simp only [isAgg, isAggT, Sem.run_bind, run_underlying h, Result.andThen_ok, h]
  cases d <;> rfl
theorem info_of_under {t : TypeId} {d : TypeDesc} (h : P.underlying t = some d) : ∃ i, P.info? t = some i := by
  unfold Program.underlying at h
  cases hi : P.info? t with
  | none => simp [hi] at h
  | some i => exact ⟨i, rfl⟩
theorem run_size {t : TypeId} {i : TypeInfo} (h : P.info? t = some i) (w : World) : (sizeOf t).run P w = .ok (szT P t) w := by
  simp [sizeOf, typeInfo, h, szT, Program.cellsOf]
theorem under_of_ok {t : TypeId} (h : okT P t = true) : ∃ d, P.underlying t = some d := Option.isSome_iff_exists.1 h

theorem getElem?_take_drop {α : Type} (l : List α) (o n j : Nat) : ((l.drop o).take n)[j]? = if j < n then l[o + j]? else none := by
  by_cases h : j < n
  · rw [if_pos h, List.getElem?_take_of_lt h, List.getElem?_drop]
  · rw [if_neg h, List.getElem?_eq_none]
    simp; omega

theorem arr_of_range (n : Nat) (f : Nat → Value) (j : Nat) (hj : j < ((List.range n).map f).toArray.size) : ((List.range n).map f).toArray[j] = f j := by simp

theorem at_obj (hh : HeapOK w E ob) {i g off : Nat} {y : Value} {o : Ob} (hp : PtOK E ob i g off y) (ho : obAt ob i g = some o) :
    ob[i]? = some o ∧ o.nil = false ∧ o.iter = none ∧ o.gen = g ∧ y = .pointer (some ⟨E.blk i, off, none⟩) ∧
      ∃ arr lo hi, w.heap[E.blk i]? = some (.cells arr o.ty (lo, hi)) ∧ (∀ j, j < arr.size → ¬ (lo ≤ j ∧ j < hi)) ∧ arr.size = E.asz i ∧ Row w E ob o.cs arr := by
  obtain ⟨h1, o', ho', hit, hg, hh'⟩ := hp
  unfold obAt at ho
  rw [ho'] at ho
  simp only at ho
  split at ho
  · rename_i e
    split at ho
    · simp at ho
    · rename_i hn
      split at ho
      · simp at ho
      · obtain rfl := Option.some.inj ho
        have hn' : o'.nil = false := by simpa using hn
        have := hh.obj i o' ho'
        unfold ObOK at this
        rw [hit] at this
        exact ⟨ho', hn', hit, e.symm, hh' e hn', this.2 hn'⟩
  · simp at ho

theorem sound_load (hh : HeapOK w E ob) {t : TypeId} {a m : M} {y : Value} (hok : okT P t = true) (ha : RepM w E ob a y) (h : loadM P ob t a = some m) :
    ∃ z, (Instr.loadAt t y).run P w = .ok z w ∧ RepM w E ob m z := by
  obtain ⟨d, hd⟩ := under_of_ok hok
  obtain ⟨ti, hti⟩ := info_of_under hd
  cases ha with
  | c hc =>
    cases hc with
    | ptr cs a ys h1 h2 =>
      simp only [loadM] at h
      split at h
      · rename_i hagg
        split at h
        · rename_i hsz
          obtain rfl := Option.some.inj h
          have hcells := run_loadCells (P := P) w a (szT P t) ys (fun j hj => (h1 j _ (List.getElem?_eq_getElem (show j < cs.length by omega))).2.2)
          refine ⟨.agg ((List.range (szT P t)).map ys).toArray, ?_, ?_⟩
          · simp [Instr.loadAt, Instr.sureAddr, loadVar, run_isAgg hd, hagg, run_size hti, hcells]
          · refine .agg _ _ (by simp [up]; omega) (fun j hj => ?_) (fun j hj m hm => ?_)
            · rw [arr_of_range]
              exact (h1 j _ (List.getElem?_eq_getElem (show j < cs.length by simp at hj; omega))).2.1
            · rw [arr_of_range]
              unfold up at hm
              rw [List.getElem?_map] at hm
              obtain ⟨c, hc, rfl⟩ := Option.map_eq_some_iff.1 hm
              rw [List.getElem?_take] at hc
              split at hc
              · exact .c (h2 j c hc)
              · simp at hc
        · simp at h
      · rename_i hagg
        obtain ⟨c, hc, rfl⟩ := Option.map_eq_some_iff.1 h
        obtain ⟨_, ho, hcell⟩ := h1 0 c hc
        rw [show a.add 0 = a from rfl] at hcell
        exact ⟨ys 0, by simp [Instr.loadAt, Instr.sureAddr, loadVar, run_isAgg hd, hagg, hcell], .c (h2 0 c hc)⟩
    | v x => simp [loadM] at h
    | sl => simp [loadM] at h
    | nl => simp [loadM] at h
    | ifc1 => simp [loadM] at h
    | ifca => simp [loadM] at h
  | @mp i g off y hp =>
    simp only [loadM] at h
    cases ho : obAt ob i g with
    | none => simp [ho] at h
    | some o =>
      rw [ho] at h
      simp only at h
      obtain ⟨hob, hnil, hit, hgen, rfl, arr, lo, hi, hblk, hfz, hsz, hrow⟩ := at_obj hh hp ho
      have hcellat : ∀ j z, arr[off + j]? = some z → w.cell? ((⟨E.blk i, off, none⟩ : Addr).add j) = some z := by
        intro j z hz
        have : (⟨E.blk i, off, none⟩ : Addr).add j = ⟨E.blk i, off + j, none⟩ := by unfold Addr.add; split <;> simp_all
        rw [this]
        simp [World.cell?, hblk, hz]
      split at h
      · rename_i hagg
        split at h
        · rename_i hle
          obtain rfl := Option.some.inj h
          have hlen := hrow.len
          have hcells := run_loadCells (P := P) w ⟨E.blk i, off, none⟩ (szT P t) (fun j => arr.getD (off + j) undef) (fun j hj => hcellat j _ (by
            rw [Array.getElem?_eq_getElem (show off + j < arr.size by omega)]; simp [Array.getD, show off + j < arr.size by omega]))
          refine ⟨.agg ((List.range (szT P t)).map (fun j => arr.getD (off + j) undef)).toArray, ?_, ?_⟩
          · simp [Instr.loadAt, Instr.sureAddr, loadVar, run_isAgg hd, hagg, run_size hti, hcells]
          · refine .agg _ _ (by simp; omega) (fun j hj => ?_) (fun j hj m hm => ?_)
            · rw [arr_of_range]
              have hj' : j < szT P t := by simpa using hj
              obtain ⟨z, hz, h1z, _⟩ := hrow (off + j) _ (List.getElem?_eq_getElem (show off + j < o.cs.length by omega))
              rw [Array.getD_eq_getD_getElem?, hz]
              exact h1z
            · rw [arr_of_range]
              rw [getElem?_take_drop] at hm
              split at hm
              · obtain ⟨z, hz, _, hrz⟩ := hrow (off + j) m hm
                rw [Array.getD_eq_getD_getElem?, hz]
                exact hrz
              · simp at hm
        · simp at h
      · rename_i hagg
        obtain ⟨z, hz, h1z, hrz⟩ := hrow off m h
        have := hcellat 0 z hz
        rw [show (⟨E.blk i, off, none⟩ : Addr).add 0 = ⟨E.blk i, off, none⟩ from rfl] at this
        exact ⟨z, by simp [Instr.loadAt, Instr.sureAddr, loadVar, run_isAgg hd, hagg, this], hrz⟩
  | _ => simp [loadM] at h

end Go.Av

/- Stores, addresses, parts, lengths; numbers, strings and bools. -/
set_option linter.unusedVariables false
set_option linter.unusedSimpArgs false
namespace Go.Av
open Go

variable {P : Program} {w : World} {E : Env} {ob : List Ob}

theorem length_lay (cs : List M) (off : Nat) (ms : List M) (h : off + ms.length ≤ cs.length) : (lay cs off ms).length = cs.length := by
  unfold lay
  split
  · simp
  · simp; omega
theorem getElem?_lay (cs : List M) (off : Nat) (ms : List M) (h : off + ms.length ≤ cs.length) (j : Nat) : (lay cs off ms)[j]? = if off ≤ j ∧ j < off + ms.length then ms[j - off]? else cs[j]? := by
  unfold lay
  split
  · rename_i m
    simp only [List.length_cons, List.length_nil, Nat.zero_add] at h ⊢
    rw [List.getElem?_set]
    by_cases e : off = j
    · subst e
      rw [if_pos rfl, if_pos (by omega), if_pos ⟨Nat.le_refl _, by omega⟩, Nat.sub_self]
      rfl
    · rw [if_neg e, if_neg (by omega)]
  · by_cases h1 : j < off
    · rw [if_neg (by omega), List.getElem?_append_left (by simp; omega), List.getElem?_take_of_lt h1]
    · rw [List.getElem?_append_right (by simp; omega)]
      have e : (cs.take off).length = off := by simp; omega
      rw [e]
      by_cases h2 : j < off + ms.length
      · rw [if_pos ⟨by omega, h2⟩, List.getElem?_append_left (by omega)]
      · rw [if_neg (by omega), List.getElem?_append_right (by omega), List.getElem?_drop]
        congr 1
        omega

theorem store_cells (g : Nat) (t : TypeId) (lo hi : Nat) : ∀ (vs : List Value) (i o : Nat) (cur : Array Value) (w : World), w.heap[g]? = some (.cells cur t (lo, hi)) → (∀ j, j < cur.size → ¬ (lo ≤ j ∧ j < hi)) → o + i + vs.length ≤ cur.size → (∀ v ∈ vs, v.oneCell' = true) →
    ∃ w', (storeCells ⟨g, o, none⟩ vs i).run P w = .ok () w' ∧ w'.os = w.os ∧ w'.tape = w.tape ∧ w'.output = w.output ∧ w'.heap.size = w.heap.size ∧ (∀ b, b ≠ g → w'.heap[b]? = w.heap[b]?) ∧
      ∃ cur', w'.heap[g]? = some (.cells cur' t (lo, hi)) ∧ cur'.size = cur.size ∧ ∀ j, cur'[j]? = if o + i ≤ j ∧ j < o + i + vs.length then vs[j - (o + i)]? else cur[j]?
  | [], i, o, cur, w, hg, _, _, _ => ⟨w, by simp [storeCells], rfl, rfl, rfl, rfl, fun _ _ => rfl, cur, hg, rfl, fun j => by simp; intro h1 h2; omega⟩
  | v :: rest, i, o, cur, w, hg, hfz, hl, h1 => by
    have hi' : o + i < cur.size := by simp at hl; omega
    have hadd : (⟨g, o, none⟩ : Addr).add i = ⟨g, o + i, none⟩ := by unfold Addr.add; split <;> simp_all
    have hcell : w.cell? ⟨g, o + i, none⟩ = some cur[o + i] := by simp [World.cell?, hg, hi']
    have hfro : w.frozen? ⟨g, o + i, none⟩ = false := by
      have := hfz (o + i) hi'
      simp only [World.frozen?, hg]
      rw [Bool.and_eq_false_iff]
      simp only [decide_eq_false_iff_not]
      omega
    have hst : (store ((⟨g, o, none⟩ : Addr).add i) v).run P w = .ok () (w.setCell ⟨g, o + i, none⟩ v) := by
      rw [hadd, run_store P w _ v _ (h1 v (by simp)), hcell]
      simp [hfro]
    have hblk : (w.setCell ⟨g, o + i, none⟩ v).heap[g]? = some (.cells (cur.setIfInBounds (o + i) v) t (lo, hi)) := by
      simp [World.setCell, Array.getElem?_modify, hg]
    obtain ⟨w', hr, a1, a2, a3, a4, a5, cur', hc, hcs, hcj⟩ := store_cells g t lo hi rest (i + 1) o (cur.setIfInBounds (o + i) v) (w.setCell ⟨g, o + i, none⟩ v) hblk (fun j hj => hfz j (by simpa using hj)) (by simp at hl ⊢; omega) (fun x hx => h1 x (by simp [hx]))
    refine ⟨w', by simp only [storeCells, Sem.run_bind, hst, Result.andThen_ok, hr], a1, a2, a3, by rw [a4]; simp [World.setCell], fun b hb => by rw [a5 b hb]; exact RowKit.Below.heap_setCell _ _ _ _ hb, cur', hc, by rw [hcs]; simp, fun j => ?_⟩
    rw [hcj j]
    simp only [List.length_cons]
    by_cases e : j = o + i
    · subst e
      rw [if_neg (by omega), if_pos ⟨Nat.le_refl _, by omega⟩, Nat.sub_self]
      simp [hi']
    · by_cases h2 : o + (i + 1) ≤ j ∧ j < o + (i + 1) + rest.length
      · rw [if_pos h2, if_pos (by omega)]
        rw [show j - (o + i) = (j - (o + (i + 1))) + 1 by omega]
        rfl
      · rw [if_neg h2, if_neg (by omega)]
        rw [Array.getElem?_setIfInBounds, if_neg (by omega)]

theorem sound_store (hh : HeapOK w E ob) {t : TypeId} {a x : M} {y z : Value} (hok : okT P t = true) (ha : RepM w E ob a y) (hx : RepM w E ob x z) {ob' : List Ob} (h : storeM P ob t a x = some ob') :
    ∃ w', (Instr.storeAt t y z).run P w = .ok () w' ∧ Step w E ob w' E ob' := by
  obtain ⟨d, hd⟩ := under_of_ok hok
  obtain ⟨ti, hti⟩ := info_of_under hd
  unfold storeM at h
  split at h
  · rename_i i g off ms hms
    cases ha with
    | mp hp =>
      split at h
      · rename_i o ho
        split at h
        · rename_i hsz
          split at h
          · rename_i hle
            obtain rfl := Option.some.inj h
            obtain ⟨hob, hnil, hit, hgen, rfl, arr, lo, hi, hblk, hfz, hasz, hrow⟩ := at_obj hh hp ho
            obtain ⟨c1, c2, c3⟩ := rep_cells hx hms
            have hlen := hrow.len
            obtain ⟨w', hr, a1, a2, a3, a4, a5, cur', hc, hcs, hcj⟩ := store_cells (P := P) (E.blk i) o.ty lo hi z.cells.toList 0 off arr w hblk hfz (by simp; omega) c2
            refine ⟨w', ?_, ?_⟩
            · simp [Instr.storeAt, Instr.sureAddr, storeVar, run_size hti, c1, hsz, hr]
            · have := step_set hh hob hnil hit (lay o.cs off ms) o.gen (Nat.le_refl _) cur' o.ty lo hi rfl (w' := w') ?_ (fun j hj => hfz j (by omega)) (by omega) a1 a2 a3 a4 a5 hc
              · exact this
              · intro j m hm
                rw [getElem?_lay _ _ _ hle] at hm
                rw [hcj j]
                simp only [Nat.add_zero, Array.length_toList, c1]
                split at hm
                · rename_i hin
                  rw [if_pos hin]
                  obtain ⟨v, hv, h1v, hrv⟩ := c3 _ m hm
                  exact ⟨v, by rw [Array.getElem?_toList]; exact hv, h1v, hrv⟩
                · rename_i hin
                  rw [if_neg hin]
                  exact hrow j m hm
          · simp at h
        · simp at h
      · simp at h
  · simp at h

theorem asI_rep {m : M} {y : Value} {i : Int} (h : RepM w E ob m y) (hi : asI m = some i) : ∃ k, y = .int k i := by
  unfold asI at hi
  split at hi
  · rename_i k j
    obtain rfl := Option.some.inj hi
    cases h with
    | c hc => cases hc; exact ⟨k, rfl⟩
  · simp at hi

theorem rep_drop {S : Nat → Prop} {cs : List C} {a : Addr} {ys : Nat → Value} (n : Nat)
    (h1 : ∀ j c, cs[j]? = some c → S a.block ∧ one1 (ys j) = true ∧ w.cell? (a.add j) = some (ys j)) (h2 : ∀ j c, cs[j]? = some c → RepC w S c (ys j)) : RepC w S (.ptr (cs.drop n)) (.pointer (some (a.add n))) := by
  refine .ptr _ _ (fun j => ys (n + j)) (fun j c hc => ?_) (fun j c hc => ?_)
  · rw [List.getElem?_drop] at hc
    obtain ⟨p, q, r⟩ := h1 _ c hc
    exact ⟨by rw [add_block]; exact p, q, by rw [add_add]; exact r⟩
  · rw [List.getElem?_drop] at hc
    exact h2 _ c hc

theorem add_obj (b off n : Nat) : (⟨b, off, none⟩ : Addr).add n = ⟨b, off + n, none⟩ := by
  unfold Addr.add
  split <;> simp_all

theorem live_ok {i g off n : Nat} {y : Value} {o : Ob} (hq : SlOK E ob i g off n y) (hl : liveS ob i g = some o) :
    ob[i]? = some o ∧ o.iter = none ∧ g = o.gen ∧ (o.nil = true → y = .slice none 0 0 ∧ n = 0 ∧ off = 0) ∧ (o.nil = false → ∃ cap, y = .slice (some ⟨E.blk i, off, none⟩) n cap ∧ n ≤ cap ∧ off + cap * o.sz ≤ E.asz i) := by
  obtain ⟨q1, o', ho, hit, hg, hr⟩ := hq
  unfold liveS at hl
  rw [ho] at hl
  simp only at hl
  split at hl
  · rename_i e
    split at hl
    · simp at hl
    · obtain rfl := Option.some.inj hl
      exact ⟨ho, hit, e, (hr e).1, (hr e).2⟩
  · simp at hl

theorem sound_indexAddr (hh : HeapOK w E ob) {t : TypeId} {x ix m : M} {y z : Value} (hx : RepM w E ob x y) (hi : RepM w E ob ix z) (he : ∀ e, P.underlying t = some (.slice e) → okT P e = true) (ha : ∀ n e, P.underlying t = some (.array n e) → okT P e = true)
    (h : indexAddrM P ob t x ix = some m) : ∃ v, (Instr.indexAt t y z).run P w = .ok v w ∧ RepM w E ob m v := by
  unfold indexAddrM at h
  split at h
  · simp at h
  · rename_i i hai
    obtain ⟨k, rfl⟩ := asI_rep hi hai
    split at h
    · rename_i e cs n full hu
      split at h
      · rename_i h0
        split at h
        · rename_i hn
          obtain rfl := Option.some.inj h
          obtain ⟨d, hd⟩ := under_of_ok (he e hu)
          obtain ⟨ti, hti⟩ := info_of_under hd
          cases hx with
          | c hc =>
            cases hc with
            | nl full => exact absurd hn (by simp; omega)
            | sl cs n full a cap ys hf hn' h1 h2 =>
              refine ⟨.pointer (some (a.add (i.toNat * szT P e))), ?_, .c (rep_drop _ h1 h2)⟩
              simp [Instr.indexAt, asIntOf, run_underlying hu, h0, hn, run_size hti]
        · simp at h
      · simp at h
    · rename_i e id g off n hu
      split at h
      · rename_i o hl
        split at h
        · rename_i h0
          split at h
          · rename_i hn
            obtain rfl := Option.some.inj h
            obtain ⟨d, hd⟩ := under_of_ok (he e hu)
            obtain ⟨ti, hti⟩ := info_of_under hd
            cases hx with
            | ms hq =>
              obtain ⟨ho, hit, hg, r1, r2⟩ := live_ok hq hl
              cases hnil : o.nil with
              | true =>
                obtain ⟨rfl, rfl, rfl⟩ := r1 hnil
                exact absurd hn (by simp; omega)
              | false =>
                obtain ⟨cap, rfl, _, _⟩ := r2 hnil
                refine ⟨.pointer (some ((⟨E.blk id, off, none⟩ : Addr).add (i.toNat * szT P e))), ?_, .mp ⟨rfl, o, ho, hit, by omega, fun _ _ => by rw [add_obj]⟩⟩
                simp [Instr.indexAt, asIntOf, run_underlying hu, h0, hn, run_size hti]
          · simp at h
        · simp at h
      · simp at h
    · rename_i len e id g off hu
      split at h
      · rename_i o hl
        split at h
        · rename_i h0
          split at h
          · rename_i hn
            split at h
            · simp at h
            · rename_i htiny
              obtain rfl := Option.some.inj h
              obtain ⟨d, hd⟩ := under_of_ok (ha len e hu)
              obtain ⟨ti, hti⟩ := info_of_under hd
              cases hx with
              | mp hq =>
                obtain ⟨hob, hnil, hit, hgen, rfl, _⟩ := at_obj hh hq hl
                refine ⟨.pointer (some ((⟨E.blk id, off, none⟩ : Addr).add (i.toNat * szT P e))), ?_, .mp ⟨rfl, o, hob, hit, by omega, fun _ _ => by rw [add_obj]⟩⟩
                simp [Instr.indexAt, Instr.sureAddr, asIntOf, run_underlying hu, h0, hn, run_size hti]
          · simp at h
        · simp at h
      · simp at h
    · rename_i len e cs hu
      split at h
      · rename_i h0
        split at h
        · rename_i hn
          obtain rfl := Option.some.inj h
          obtain ⟨d, hd⟩ := under_of_ok (ha len e hu)
          obtain ⟨ti, hti⟩ := info_of_under hd
          cases hx with
          | c hc =>
            cases hc with
            | ptr cs a ys h1 h2 =>
              refine ⟨.pointer (some (a.add (i.toNat * szT P e))), ?_, .c (rep_drop _ h1 h2)⟩
              simp [Instr.indexAt, Instr.sureAddr, asIntOf, run_underlying hu, h0, hn, run_size hti]
        · simp at h
      · simp at h
    · simp at h

theorem sound_part {t : TypeId} {ms : List M} {arr : Array Value} {off : Nat} {m : M} (hok : okT P t = true) (hs : arr.size = ms.length) (ho : ∀ j (hj : j < arr.size), one1 arr[j] = true) (hr : ∀ j (hj : j < arr.size) m, ms[j]? = some m → RepM w E ob m arr[j])
    (h : partM P t ms off = some m) : ∃ v, (part t arr off).run P w = .ok v w ∧ RepM w E ob m v := by
  obtain ⟨d, hd⟩ := under_of_ok hok
  obtain ⟨ti, hti⟩ := info_of_under hd
  unfold partM at h
  split at h
  · rename_i hagg
    split at h
    · rename_i hle
      obtain rfl := Option.some.inj h
      refine ⟨.agg (arr.extract off (off + szT P t)), by simp [part, run_isAgg hd, hagg, run_size hti], .agg _ _ (by simp; omega) (fun j hj => ?_) (fun j hj m hm => ?_)⟩
      · rw [Array.getElem_extract]
        exact ho _ _
      · rw [Array.getElem_extract]
        rw [getElem?_take_drop] at hm
        split at hm
        · exact hr _ _ m hm
        · simp at hm
    · simp at h
  · rename_i hagg
    have hlt : off < arr.size := by rw [hs]; exact (List.getElem?_eq_some_iff.1 h).1
    exact ⟨arr[off], by simp [part, run_isAgg hd, hagg, Array.getElem?_eq_getElem hlt], hr off hlt m h⟩

theorem toList_data (s : ByteArray) : s.toList = s.data.toList := ByteArray.toList_eq s
theorem sound_index {t : TypeId} {x ix m : M} {y z : Value} (hx : RepM w E ob x y) (hi : RepM w E ob ix z) (ha : ∀ n e, P.underlying t = some (.array n e) → okT P e = true)
    (h : indexM P t x ix = some m) : ∃ v, (Instr.index t y z).run P w = .ok v w ∧ RepM w E ob m v := by
  unfold indexM at h
  split at h
  · simp at h
  · rename_i i hai
    obtain ⟨k, rfl⟩ := asI_rep hi hai
    split at h
    · rename_i len e ms hu
      split at h
      · rename_i h0
        split at h
        · rename_i hn
          obtain ⟨d, hd⟩ := under_of_ok (ha len e hu)
          obtain ⟨ti, hti⟩ := info_of_under hd
          cases hx with
          | agg ms arr hs ho hr =>
            obtain ⟨v, hv, hrv⟩ := sound_part (ha len e hu) hs ho hr h
            exact ⟨v, by simp [Instr.index, asIntOf, run_underlying hu, h0, hn, run_size hti, hv], hrv⟩
        · simp at h
      · simp at h
    · rename_i s hu
      split at h
      · rename_i h0
        split at h
        · rename_i hn
          obtain rfl := Option.some.inj h
          cases hx with
          | c hc =>
            cases hc
            have hlt : i.toNat < s.size := by omega
            refine ⟨.int .u8 (s[i.toNat]'hlt).toNat, ?_, ?_⟩
            · simp [Instr.index, asIntOf, run_underlying hu, h0, hlt]
            · have : byteAt s i.toNat = ((s[i.toNat]'hlt).toNat : Int) := by
                unfold byteAt
                rw [toList_data]
                simp [List.getD_eq_getElem?_getD, hlt]
                rfl
              rw [this]
              exact .c (.v _)
        · simp at h
      · simp at h
    · simp at h

theorem sound_field {t : TypeId} {x m : M} {y : Value} {f : Nat} (hx : RepM w E ob x y) (hs : ∀ fs q, P.underlying t = some (.struct fs) → fs[f]? = some q → okT P q.type = true) (h : fieldM P t x f = some m) :
    ∃ v, (Instr.field t y f).run P w = .ok v w ∧ RepM w E ob m v := by
  unfold fieldM at h
  split at h
  · rename_i fs ms hu
    split at h
    · rename_i q hq
      cases hx with
      | agg ms arr hsz ho hr =>
        obtain ⟨v, hv, hrv⟩ := sound_part (hs fs q hu hq) hsz ho hr h
        exact ⟨v, by simp [Instr.field, run_underlying hu, hq, asAgg, hv], hrv⟩
    · simp at h
  · simp at h

theorem sound_fieldAddr (hh : HeapOK w E ob) {t : TypeId} {x m : M} {y : Value} {f : Nat} (hx : RepM w E ob x y) (hs : ∀ fs q, P.underlying t = some (.struct fs) → fs[f]? = some q → okT P q.type = true) (h : fieldAddrM P ob t x f = some m) :
    ∃ v, (Instr.fieldAt t y f).run P w = .ok v w ∧ RepM w E ob m v := by
  unfold fieldAddrM at h
  split at h
  · rename_i fs hu
    split at h
    · rename_i q hq
      obtain ⟨d, hd⟩ := under_of_ok (hs fs q hu hq)
      obtain ⟨ti, hti⟩ := info_of_under hd
      split at h
      · simp at h
      · rename_i hz
        split at h
        · rename_i cs
          obtain rfl := Option.some.inj h
          cases hx with
          | c hc =>
            cases hc with
            | ptr cs a ys h1 h2 => exact ⟨.pointer (some (a.add q.offset)), by simp [Instr.fieldAt, run_underlying hu, hq, Instr.sureAddr, fieldPlace, run_size hti, hz], .c (rep_drop _ h1 h2)⟩
        · rename_i i g off
          split at h
          · rename_i o hl
            obtain rfl := Option.some.inj h
            cases hx with
            | mp hp =>
              obtain ⟨hob, hnil, hit, hgen, rfl, _⟩ := at_obj hh hp hl
              refine ⟨.pointer (some ((⟨E.blk i, off, none⟩ : Addr).add q.offset)), by simp [Instr.fieldAt, run_underlying hu, hq, Instr.sureAddr, fieldPlace, run_size hti, hz], .mp ⟨rfl, o, hob, hit, by omega, fun _ _ => by rw [add_obj]⟩⟩
          · simp at h
        · simp at h
    · simp at h
  · simp at h

theorem sound_len (hh : HeapOK w E ob) {t ty : TypeId} {x : M} {y : Value} {n : Int} (hx : RepM w E ob x y) (h : lenM P ob t x = some n) : (Builtin.len_ #[t] ty #[y]).run P w = .ok (.int .i64 n) w := by
  unfold lenM at h
  split at h
  · rename_i s
    split at h
    · rename_i hu
      obtain rfl := Option.some.inj h
      cases hx with
      | c hc => cases hc; simp [Builtin.len_, run_underlying hu, goInt]
    · simp at h
  · rename_i n' c
    split at h
    · rename_i e hu
      obtain rfl := Option.some.inj h
      cases hx with
      | c hc => cases hc; simp [Builtin.len_, run_underlying hu, goInt]
    · simp at h
  · rename_i cs n' full
    split at h
    · rename_i e hu
      obtain rfl := Option.some.inj h
      cases hx with
      | c hc => cases hc <;> simp [Builtin.len_, run_underlying hu, goInt]
    · simp at h
  · rename_i i g off n'
    split at h
    · rename_i e o hu hl
      obtain rfl := Option.some.inj h
      cases hx with
      | ms hq =>
        obtain ⟨ho, hit, hg, r1, r2⟩ := live_ok hq hl
        cases hnil : o.nil with
        | true =>
          obtain ⟨rfl, rfl, rfl⟩ := r1 hnil
          simp [Builtin.len_, run_underlying hu, goInt]
        | false =>
          obtain ⟨cap, rfl, _⟩ := r2 hnil
          simp [Builtin.len_, run_underlying hu, goInt]
    · simp at h
  · rename_i ms
    split at h
    · rename_i k e hu
      obtain rfl := Option.some.inj h
      cases hx
      simp [Builtin.len_, run_underlying hu, goInt]
    · simp at h
  · split at h
    · rename_i kt et hu
      obtain rfl := Option.some.inj h
      cases hx with
      | c hc => cases hc; simp [Builtin.len_, run_underlying hu, goInt]
    · simp at h
  · split at h
    · rename_i kt et hu
      obtain ⟨es, hes, rfl⟩ := Option.map_eq_some_iff.1 h
      obtain ⟨o, arr, _, _, _, rfl, hblk, hent⟩ := mapAt_rep hh hx hes
      simp [Builtin.len_, run_underlying hu, MapKept.run_getObj_map hblk, goInt, Result.andThen, hent.1]
    · simp at h
  · simp at h

end Go.Av

/- Arrays and structs of plain cells, held against each other. -/
set_option linter.unusedVariables false
set_option linter.unusedSimpArgs false
namespace Go.Av
open Go
variable {P : Program} {w : World} {E : Env} {ob : List Ob}

theorem dec_beq_int (a b : Int) : (a == b) = decide (a = b) := by
  by_cases h : a = b <;> simp [h]
theorem dec_beq_list (a b : List UInt8) : (a == b) = decide (a = b) := by
  by_cases h : a = b <;> simp [h]
theorem dec_beq_bool (a b : Bool) : (a == b) = decide (a = b) := by
  by_cases h : a = b <;> simp [h]

theorem of_ite' {α : Type} {c : Prop} [Decidable c] {x : Option α} {y : α} (h : (if c then x else none) = some y) : c ∧ x = some y := by
  by_cases hc : c
  · rw [if_pos hc] at h; exact ⟨hc, h⟩
  · rw [if_neg hc] at h; simp at h
def eqLeafV : Nat → Value → Value → Option Bool
  | 0, .int k a, .int k' b => if k = k' then some (decide (a = b)) else none
  | 1, .bool a, .bool b => some (decide (a = b))
  | 2, .string a, .string b => some (decide (a.toList = b.toList))
  | _, _, _ => none
def eqV : List Nat → List Value → List Value → Option Bool
  | [], [], [] => some true
  | k :: ks, a :: r, b :: s => match eqLeafV k a b, eqV ks r s with
    | some x, some y => some (x && y)
    | _, _ => none
  | _, _, _ => none
theorem eqV_len : ∀ {ks : List Nat} {xs ys : List Value} {b : Bool}, eqV ks xs ys = some b → xs.length = ks.length ∧ ys.length = ks.length
  | [], [], [], _, _ => ⟨rfl, rfl⟩
  | [], [], _ :: _, _, h => by simp [eqV] at h
  | [], _ :: _, _, _, h => by simp [eqV] at h
  | k :: ks, [], _, _, h => by simp [eqV] at h
  | k :: ks, _ :: _, [], _, h => by simp [eqV] at h
  | k :: ks, x :: xs, y :: ys, b, h => by
    simp only [eqV] at h
    split at h
    · rename_i u v h1 h2
      have := eqV_len h2
      simp [this.1, this.2]
    · simp at h
theorem eqV_app : ∀ {k1 k2 : List Nat} {xs ys : List Value} {b : Bool}, eqV (k1 ++ k2) xs ys = some b →
    ∃ u v, eqV k1 (xs.take k1.length) (ys.take k1.length) = some u ∧ eqV k2 (xs.drop k1.length) (ys.drop k1.length) = some v ∧ b = (u && v)
  | [], k2, xs, ys, b, h => ⟨true, b, rfl, h, by simp⟩
  | k :: k1, k2, [], _, _, h => by simp [eqV] at h
  | k :: k1, k2, _ :: _, [], _, h => by simp [eqV] at h
  | k :: k1, k2, x :: xs, y :: ys, b, h => by
    simp only [List.cons_append, eqV] at h
    split at h
    · rename_i u v h1 h2
      obtain rfl := Option.some.inj h
      obtain ⟨p, q, e1, e2, rfl⟩ := eqV_app h2
      refine ⟨u && p, q, ?_, e2, by rw [Bool.and_assoc]⟩
      simp only [List.length_cons, List.take_succ_cons, eqV, h1, e1]
    · simp at h
def wrapT (P : Program) (t : TypeId) (xs : List Value) : Value := if isAggT P t then .agg xs.toArray else xs.headD undef
theorem run_part_w {e : TypeId} {arr : Array Value} {off n : Nat} (hok : okT P e = true) (hn : n = szT P e) (hle : off + n ≤ arr.size) (h1 : isAggT P e = false → n = 1) :
    (part e arr off).run P w = .ok (wrapT P e ((arr.toList.drop off).take n)) w := by
  obtain ⟨d, hd⟩ := under_of_ok hok
  obtain ⟨ti, hti⟩ := info_of_under hd
  subst hn
  cases hagg : isAggT P e with
  | true =>
    simp only [part, Sem.run_bind, run_isAgg hd, hagg, Result.andThen_ok, if_true, run_size hti, Sem.run_pure, wrapT]
    congr 2
    apply Array.toList_inj.1
    simp
  | false =>
    have hs := h1 hagg
    have hlt : off < arr.size := by omega
    simp only [part, Sem.run_bind, run_isAgg hd, hagg, Result.andThen_ok, Bool.false_eq_true, if_false, wrapT, Array.getElem?_eq_getElem hlt, Sem.run_pure, hs]
    congr 1
    have hl : off < arr.toList.length := by simpa using hlt
    rw [List.drop_eq_getElem_cons hl]
    simp
def EqOK (P : Program) (D : Nat) (t : TypeId) (ks : List Nat) : Prop := ∀ (w : World) (xs ys : List Value) (b : Bool), eqV ks xs ys = some b → (Op.equalIn D t (wrapT P t xs) (wrapT P t ys)).run P w = .ok b w
theorem run_items {e : TypeId} {D : Nat} {l : List Nat} (hE : EqOK P D e l) (hok : okT P e = true) (hl : l.length = szT P e) (hpos : 0 < l.length) (h1 : isAggT P e = false → l.length = 1) (xs ys : Array Value) : ∀ (n i : Nat) (b : Bool) (w : World),
    eqV (List.replicate n l).flatten (xs.toList.drop (i * szT P e)) (ys.toList.drop (i * szT P e)) = some b → (Op.eqItems D e (P.cellsOf e) xs ys (List.range' i n)).run P w = .ok b w
  | 0, i, b, w, h => by
    simp only [List.replicate_zero, List.flatten_nil] at h
    cases hx : xs.toList.drop (i * szT P e) <;> cases hy : ys.toList.drop (i * szT P e) <;> rw [hx, hy] at h <;> simp [eqV] at h
    subst h
    simp [Op.eqItems]
  | n + 1, i, b, w, h => by
    rw [List.replicate_succ, List.flatten_cons] at h
    obtain ⟨u, v, e1, e2, rfl⟩ := eqV_app h
    have hlen := eqV_len h
    simp only [List.length_drop, Array.length_toList, List.length_append] at hlen
    rw [hl] at e1 e2 hlen
    have hsz : l.length ≤ xs.size - i * szT P e := by omega
    have p1 := run_part_w (P := P) (w := w) (arr := xs) (off := i * szT P e) hok rfl (by omega) (fun h => by rw [← hl]; exact h1 h)
    have p2 := run_part_w (P := P) (w := w) (arr := ys) (off := i * szT P e) hok rfl (by omega) (fun h => by rw [← hl]; exact h1 h)
    have p3 := hE w _ _ _ e1
    have hc : P.cellsOf e = szT P e := rfl
    simp only [List.range'_succ, Op.eqItems, Sem.run_bind, hc, p1, p2, p3, Result.andThen_ok]
    cases u with
    | false => simp
    | true =>
      simp only [Bool.not_true, Bool.false_eq_true, if_false, Bool.true_and]
      refine run_items hE hok hl hpos h1 xs ys n (i + 1) v w ?_
      rw [List.drop_drop, List.drop_drop] at e2
      rw [show (i + 1) * szT P e = i * szT P e + szT P e by rw [Nat.add_mul]; omega]
      exact e2
def fieldStep (P : Program) (d : Nat) (acc : Option (List Nat)) (f : Field) : Option (List Nat) := match acc, leavesT P d f.type with
  | some l, some k => if f.name ≠ "_" then (if f.offset = l.length then (if k.length = szT P f.type ∧ 0 < k.length then (if okT P f.type then (if isAggT P f.type then some (l ++ k) else (if k.length = 1 then some (l ++ k) else none)) else none) else none) else none) else none
  | _, _ => none
theorem fold_none (d : Nat) (fs : List Field) : fs.foldl (fieldStep P d) none = none := by
  induction fs with
  | nil => rfl
  | cons f fs ih => rw [List.foldl_cons]; exact ih
theorem run_fields {d D : Nat} (hE : ∀ t ks, leavesT P d t = some ks → EqOK P D t ks) (xs ys : Array Value) : ∀ (fs : List Field) (l ks : List Nat) (b : Bool) (w : World),
    fs.foldl (fieldStep P d) (some l) = some ks → (∃ r, ks = l ++ r ∧ eqV r (xs.toList.drop l.length) (ys.toList.drop l.length) = some b) → (Op.eqFields D xs ys fs).run P w = .ok b w
  | [], l, ks, b, w, h, ⟨r, hr, he⟩ => by
    simp only [List.foldl_nil, Option.some.injEq] at h
    subst h
    obtain rfl : r = [] := by simpa using hr
    cases hx : xs.toList.drop l.length <;> cases hy : ys.toList.drop l.length <;> rw [hx, hy] at he <;> simp [eqV] at he
    subst he
    simp [Op.eqFields]
  | f :: fs, l, ks, b, w, h, ⟨r, hr, he⟩ => by
    rw [List.foldl_cons] at h
    cases hs : fieldStep P d (some l) f with
    | none => rw [hs, fold_none] at h; simp at h
    | some l' =>
      rw [hs] at h
      unfold fieldStep at hs
      split at hs
      · rename_i l0 k hl0 hk
        obtain rfl := Option.some.inj hl0
        obtain ⟨hn, hs⟩ := of_ite' hs
        obtain ⟨hoff, hs⟩ := of_ite' hs
        obtain ⟨⟨hsz, hpos⟩, hs⟩ := of_ite' hs
        obtain ⟨hok, hs⟩ := of_ite' hs
        have h3 : l' = l ++ k ∧ (isAggT P f.type = false → k.length = 1) := by
          split at hs
          · rename_i ha
            exact ⟨(Option.some.inj hs).symm, fun e => by rw [e] at ha; simp at ha⟩
          · obtain ⟨h1, hs⟩ := of_ite' hs
            exact ⟨(Option.some.inj hs).symm, fun _ => h1⟩
        obtain ⟨rfl, h1⟩ := h3
        have hpre : ∃ q, r = k ++ q := by
          have : ∀ (fs : List Field) (a b : List Nat), fs.foldl (fieldStep P d) (some a) = some b → ∃ q, b = a ++ q := by
            intro fs
            induction fs with
            | nil => intro a b h; exact ⟨[], by simpa using h.symm⟩
            | cons g gs ih =>
              intro a b h
              rw [List.foldl_cons] at h
              cases hg : fieldStep P d (some a) g with
              | none => rw [hg, fold_none] at h; simp at h
              | some a' =>
                rw [hg] at h
                obtain ⟨q, rfl⟩ := ih a' b h
                unfold fieldStep at hg
                split at hg
                · rename_i l0 k' hl0 hk'
                  obtain rfl := Option.some.inj hl0
                  obtain ⟨_, hg⟩ := of_ite' hg
                  obtain ⟨_, hg⟩ := of_ite' hg
                  obtain ⟨_, hg⟩ := of_ite' hg
                  obtain ⟨_, hg⟩ := of_ite' hg
                  split at hg
                  · obtain rfl := Option.some.inj hg
                    exact ⟨k' ++ q, by simp⟩
                  · obtain ⟨_, hg⟩ := of_ite' hg
                    obtain rfl := Option.some.inj hg
                    exact ⟨k' ++ q, by simp⟩
                · simp at hg
          obtain ⟨q, hq⟩ := this fs (l ++ k) ks h
          exact ⟨q, by rw [hr] at hq; simpa using hq⟩
        obtain ⟨q, rfl⟩ := hpre
        obtain ⟨u, v, e1, e2, rfl⟩ := eqV_app he
        have hlen := eqV_len he
        simp only [List.length_drop, Array.length_toList, List.length_append] at hlen
        have p1 := run_part_w (P := P) (w := w) (arr := xs) (off := l.length) hok hsz (by omega) h1
        have p2 := run_part_w (P := P) (w := w) (arr := ys) (off := l.length) hok hsz (by omega) h1
        have p3 := hE f.type k hk w _ _ _ e1
        simp only [Op.eqFields, hn, ne_eq, not_false_eq_true, if_true, Sem.run_bind, hoff, p1, p2, p3, Result.andThen_ok]
        cases u with
        | false => simp
        | true =>
          simp only [Bool.not_true, Bool.false_eq_true, if_false, Bool.true_and]
          refine run_fields hE xs ys fs (l ++ k) ks v w h ⟨q, by rw [hr]; simp, ?_⟩
          rw [List.drop_drop, List.drop_drop] at e2
          simpa using e2
      · simp at hs
theorem eqOK_of : ∀ (d : Nat) (t : TypeId) (ks : List Nat) (D : Nat), leavesT P d t = some ks → EqOK P (d + D) t ks
  | 0, t, ks, D, h => by simp [leavesT] at h
  | d + 1, t, ks, D, h => by
    intro w xs ys b he
    have hD : d + 1 + D = (d + D) + 1 := by omega
    rw [hD]
    unfold leavesT at h
    have one : ∀ k, ks = [k] → ∃ a b', xs = [a] ∧ ys = [b'] ∧ eqLeafV k a b' = some b := by
      intro k hk
      subst hk
      have hl := eqV_len he
      match xs, ys, hl with
      | [a], [b'], _ =>
        simp only [eqV] at he
        split at he
        · rename_i u v h1 h2
          simp only [Option.some.injEq] at h2 he
          subst h2
          simp only [Bool.and_true] at he
          subst he
          exact ⟨a, b', rfl, rfl, h1⟩
        · simp at he
    split at h
    · rename_i hu
      obtain ⟨a, b', rfl, rfl, hq⟩ := one 1 (Option.some.inj h).symm
      have hag : isAggT P t = false := by unfold isAggT; rw [hu]
      simp only [wrapT, hag, Bool.false_eq_true, if_false, List.headD_cons]
      unfold eqLeafV at hq
      split at hq
      all_goals (try (exfalso; omega))
      all_goals simp at hq
      subst hq
      simp [Op.equalIn, run_underlying hu, dec_beq_bool]
    · rename_i k' hu
      obtain ⟨a, b', rfl, rfl, hq⟩ := one 0 (Option.some.inj h).symm
      have hag : isAggT P t = false := by unfold isAggT; rw [hu]
      simp only [wrapT, hag, Bool.false_eq_true, if_false, List.headD_cons]
      unfold eqLeafV at hq
      split at hq
      all_goals (try (exfalso; omega))
      all_goals simp at hq
      obtain ⟨rfl, rfl⟩ := hq
      simp [Op.equalIn, run_underlying hu, dec_beq_int]
    · rename_i hu
      obtain ⟨a, b', rfl, rfl, hq⟩ := one 2 (Option.some.inj h).symm
      have hag : isAggT P t = false := by unfold isAggT; rw [hu]
      simp only [wrapT, hag, Bool.false_eq_true, if_false, List.headD_cons]
      unfold eqLeafV at hq
      split at hq
      all_goals (try (exfalso; omega))
      all_goals simp at hq
      subst hq
      simp [Op.equalIn, run_underlying hu, beq_toListBytes, dec_beq_list]
    · rename_i n e hu
      split at h
      · rename_i l hl
        obtain ⟨⟨hsz, hpos⟩, h⟩ := of_ite' h
        obtain ⟨hok, h⟩ := of_ite' h
        have h3 : ks = (List.replicate n l).flatten ∧ (isAggT P e = false → l.length = 1) := by
          split at h
          · rename_i ha
            exact ⟨(Option.some.inj h).symm, fun e => by rw [e] at ha; simp at ha⟩
          · obtain ⟨h1, h⟩ := of_ite' h
            exact ⟨(Option.some.inj h).symm, fun _ => h1⟩
        obtain ⟨rfl, h1⟩ := h3
        have hag : isAggT P t = true := by unfold isAggT; rw [hu]
        obtain ⟨dd, hd⟩ := under_of_ok hok
        obtain ⟨ti, hti⟩ := info_of_under hd
        simp only [wrapT, hag, if_true]
        rw [run_equalIn_array w (d + D) _ _ hu hti, List.range_eq_range']
        exact run_items (eqOK_of d e l D hl) hok hsz hpos h1 _ _ n 0 b w (by simpa using he)
      · simp at h
    · rename_i fs hu
      split at h
      · simp at h
      · rename_i hst
        have hag : isAggT P t = true := by unfold isAggT; rw [hu]
        have hfo : P.fieldsOf t = fs := by unfold Program.fieldsOf; rw [hu]
        simp only [wrapT, hag, if_true]
        rw [run_equalIn_struct w (d + D) t _ _ (by rw [hfo]; exact hu) (by simpa using hst), hfo]
        exact run_fields (fun t' ks' h' => eqOK_of d t' ks' D h') _ _ fs.toList [] ks b w h ⟨ks, rfl, by simpa using he⟩
    · simp at h
theorem eqM_V : ∀ {ks : List Nat} {ms ms' : List M} {xs ys : List Value} {b : Bool}, xs.length = ms.length → ys.length = ms'.length → (∀ (j : Nat) m v, ms[j]? = some m → xs[j]? = some v → RepM w E ob m v) → (∀ (j : Nat) m v, ms'[j]? = some m → ys[j]? = some v → RepM w E ob m v) →
    eqM ks ms ms' = some b → eqV ks xs ys = some b
  | [], [], [], [], [], b, _, _, _, _, h => h
  | [], [], [], _ :: _, _, b, hl, _, _, _, h => by simp at hl
  | [], [], [], [], _ :: _, b, _, hl, _, _, h => by simp at hl
  | [], [], _ :: _, _, _, _, _, _, _, _, h => by simp [eqM] at h
  | [], _ :: _, _, _, _, _, _, _, _, _, h => by simp [eqM] at h
  | k :: ks, [], _, _, _, _, _, _, _, _, h => by simp [eqM] at h
  | k :: ks, _ :: _, [], _, _, _, _, _, _, _, h => by simp [eqM] at h
  | k :: ks, m :: ms, m' :: ms', [], _, _, hl, _, _, _, _ => by simp at hl
  | k :: ks, m :: ms, m' :: ms', _ :: _, [], _, _, hl, _, _, _ => by simp at hl
  | k :: ks, m :: ms, m' :: ms', x :: xs, y :: ys, b, l1, l2, r1, r2, h => by
    simp only [eqM] at h
    split at h
    · rename_i u v h1 h2
      obtain rfl := Option.some.inj h
      have q1 := r1 0 m x rfl rfl
      have q2 := r2 0 m' y rfl rfl
      have e1 : eqLeafV k x y = some u := by
        unfold eqLeaf at h1
        split at h1
        · cases q1 with
          | c q => cases q; cases q2 with
            | c q => cases q; exact h1
        · cases q1 with
          | c q => cases q; cases q2 with
            | c q => cases q; exact h1
        · cases q1 with
          | c q => cases q; cases q2 with
            | c q => cases q; exact h1
        · simp at h1
      have e2 := eqM_V (ks := ks) (ms := ms) (ms' := ms') (xs := xs) (ys := ys) (by simpa using l1) (by simpa using l2) (fun j m v hm hv => r1 (j + 1) m v (by simpa using hm) (by simpa using hv)) (fun j m v hm hv => r2 (j + 1) m v (by simpa using hm) (by simpa using hv)) h2
      simp only [eqV, e1, e2]
    · simp at h
theorem sound_eqX {t : TypeId} {ms ms' : List M} {a b : Value} {ks : List Nat} {r : Bool} (hx : RepM w E ob (.agg ms) a) (hy : RepM w E ob (.agg ms') b) (hk : leavesX P t = some ks) (h : eqM ks ms ms' = some r) :
    (∃ xs ys, a = .agg xs ∧ b = .agg ys) ∧ (Op.equal t a b).run P w = .ok r w ∧ P.eqGuardType P.depth t = false := by
  unfold leavesX at hk
  split at hk
  · simp at hk
  · rename_i hg
    split at hk
    · rename_i hag
      cases hx with
      | agg _ xs hs ho hr => cases hy with
        | agg _ ys hs' ho' hr' =>
          refine ⟨⟨xs, ys, rfl, rfl⟩, ?_, by simpa using hg⟩
          have he := eqM_V (w := w) (E := E) (ob := ob) (xs := xs.toList) (ys := ys.toList) (by simpa using hs) (by simpa using hs') (fun j m v hm hv => by
            obtain ⟨hj, rfl⟩ := Array.getElem?_eq_some_iff.1 (by simpa using hv : xs[j]? = some v)
            exact hr j hj m hm) (fun j m v hm hv => by
            obtain ⟨hj, rfl⟩ := Array.getElem?_eq_some_iff.1 (by simpa using hv : ys[j]? = some v)
            exact hr' j hj m hm) h
          have := eqOK_of 12 t ks (Op.maxDepth - 12) hk w _ _ r he
          rw [show 12 + (Op.maxDepth - 12) = Op.maxDepth by unfold Op.maxDepth; omega] at this
          simp only [wrapT, hag, if_true] at this
          exact this
    · simp at hk
end Go.Av

/- Operators. -/
set_option linter.unusedVariables false
set_option linter.unusedSimpArgs false
namespace Go.Av
open Go

variable {P : Program} {w : World} {E : Env} {ob : List Ob}

theorem sound_pint {op : BinOp} {k : IntKind} {a b : Int} {r : Value} (t : TypeId) (h1 : op ≠ .shl) (h2 : op ≠ .shr) (h : pint op k a b = some r) : (binOp op t (.int k a) (.int k b)).run P w = .ok r w := by
  cases op <;> simp only [pint] at h <;> first
    | (exact absurd rfl h1)
    | (exact absurd rfl h2)
    | (obtain rfl := Option.some.inj h; simp [binOp, Op.intArith, Op.intBits, Op.intCmp, andI, orI, xorI, andNotI]; done)
    | (obtain rfl := Option.some.inj h; simp [binOp, Op.intCmp, dec_beq_int, bne]; done)
    | (split at h
       · simp at h
       · rename_i hb
         obtain rfl := Option.some.inj h
         simp [binOp, Op.intDiv, hb])
theorem sound_pshift {op : BinOp} {k yk : IntKind} {a b : Int} {r : Value} (t : TypeId) (hop : op = .shl ∨ op = .shr) (h : pshift op k a b = some r) : (binOp op t (.int k a) (.int yk b)).run P w = .ok r w := by
  unfold pshift at h
  split at h
  · simp at h
  · rename_i hb
    rcases hop with rfl | rfl <;> (simp only at h; obtain rfl := Option.some.inj h; simp [binOp, Op.shift, hb])
theorem sound_pstr {op : BinOp} {a b : ByteArray} {r : Value} (t : TypeId) (h : pstr op a b = some r) : (binOp op t (.string a) (.string b)).run P w = .ok r w := by
  cases op <;> simp only [pstr] at h <;> first
    | (simp at h; done)
    | (obtain rfl := Option.some.inj h; simp [binOp, Op.stringOp, dec_beq_list]; done)
    | (split at h
       · rename_i hle
         obtain rfl := Option.some.inj h
         have : ¬ (((a.size + b.size : Nat) : Int) > IntKind.i64.max) := by
           have : IntKind.i64.max = 9223372036854775807 := rfl
           omega
         simp only [binOp, Op.stringOp, this, if_false]
         rfl
       · simp at h)
theorem eqGuard_plain (op : BinOp) (t : TypeId) (x y : Operand) (a b : Value) (ha : (∀ cs, a ≠ .agg cs) ∧ a ≠ .nilIface) : eqGuard op t x y a b = pure () := by
  cases op <;> first
    | rfl
    | (cases a <;> first | rfl | exact absurd rfl (ha.1 _) | exact absurd rfl ha.2)
theorem sound_pbin {op : BinOp} {t : TypeId} {a b r : Value} (h : pbin P op t a b = some r) (x y : Operand) : (do eqGuard op t x y a b; binOp op t a b : Sem Value).run P w = .ok r w := by
  have hg : ∀ a b : Value, pbin P op t a b = some r → eqGuard op t x y a b = pure () := by
    intro a b h
    refine eqGuard_plain _ _ _ _ _ _ ⟨fun cs e => ?_, fun e => ?_⟩
    · subst e; simp [pbin] at h
    · subst e; simp [pbin] at h
  rw [hg a b h]
  show (binOp op t a b).run P w = .ok r w
  unfold pbin at h
  split at h
  · rename_i k a k' b
    split at h
    · exact sound_pshift t (.inl rfl) h
    · exact sound_pshift t (.inr rfl) h
    · rename_i h1 h2
      split at h
      · rename_i e
        subst e
        exact sound_pint t h1 h2 h
      · simp at h
  · exact sound_pstr t h
  · rename_i a b
    split at h
    · rename_i hu
      obtain rfl := Option.some.inj h
      simp [binOp, run_equal_bool w t a b hu, dec_beq_bool]
    · rename_i hu
      obtain rfl := Option.some.inj h
      simp [binOp, run_equal_bool w t a b hu, dec_beq_bool]
    · simp at h
  · simp at h

theorem eqS_right (d : Nat) {t e : TypeId} (hu : P.underlying t = some (.slice e)) (a : Option Addr) (n c n' c' : Nat) : (Op.equalIn (d + 1) t (.slice a n c) (.slice none n' c')).run P w = .ok a.isNone w := by
  cases a <;> simp [Op.equalIn, run_underlying hu]
theorem eqS_left (d : Nat) {t e : TypeId} (hu : P.underlying t = some (.slice e)) (a : Option Addr) (n c n' c' : Nat) : (Op.equalIn (d + 1) t (.slice none n' c') (.slice a n c)).run P w = .ok a.isNone w := by
  simp [Op.equalIn, run_underlying hu]
theorem eqP_right (d : Nat) {t e : TypeId} (hu : P.underlying t = some (.pointer e)) (a : Option Addr) : (Op.equalIn (d + 1) t (.pointer a) (.pointer none)).run P w = .ok a.isNone w := by
  cases a <;> simp [Op.equalIn, run_underlying hu]
theorem eqP_left (d : Nat) {t e : TypeId} (hu : P.underlying t = some (.pointer e)) (a : Option Addr) : (Op.equalIn (d + 1) t (.pointer none) (.pointer a)).run P w = .ok a.isNone w := by
  simp [Op.equalIn, run_underlying hu]

theorem nilSl_rep {m : M} {y : Value} {b : Bool} (hm : RepM w E ob m y) (h : nilSl ob m = some b) : ∃ a n c, y = .slice a n c ∧ b = a.isNone := by
  unfold nilSl at h
  split at h
  · obtain rfl := Option.some.inj h
    cases hm with
    | c hc => cases hc; exact ⟨_, _, _, rfl, rfl⟩
  · split at h
    · simp at h
    · rename_i hn0
      obtain rfl := Option.some.inj h
      cases hm with
      | c hc =>
        cases hc with
        | nl => exact absurd rfl hn0
        | sl => exact ⟨_, _, _, rfl, rfl⟩
  · rename_i i g off n
    split at h
    · rename_i o hl
      obtain rfl := Option.some.inj h
      cases hm with
      | ms hq =>
        obtain ⟨_, _, _, r1, r2⟩ := live_ok hq hl
        cases hn : o.nil with
        | true => obtain ⟨rfl, _, _⟩ := r1 hn; exact ⟨_, _, _, rfl, by simp⟩
        | false => obtain ⟨cap, rfl, _⟩ := r2 hn; exact ⟨_, _, _, rfl, by simp⟩
    · simp at h
  · simp at h
theorem nilPt_rep (hh : HeapOK w E ob) {m : M} {y : Value} {b : Bool} (hm : RepM w E ob m y) (h : nilPt ob m = some b) : ∃ a, y = .pointer a ∧ b = a.isNone := by
  unfold nilPt at h
  split at h
  · obtain rfl := Option.some.inj h
    cases hm with
    | c hc => cases hc; exact ⟨_, rfl, rfl⟩
  · obtain rfl := Option.some.inj h
    cases hm with
    | c hc => cases hc; exact ⟨_, rfl, rfl⟩
  · rename_i i g off
    split at h
    · rename_i o hl
      obtain rfl := Option.some.inj h
      cases hm with
      | mp hq =>
        obtain ⟨_, _, _, _, rfl, _⟩ := at_obj hh hq hl
        exact ⟨_, rfl, rfl⟩
    · simp at h
  · simp at h
theorem isNilSl_rep {m : M} {y : Value} (hm : RepM w E ob m y) (h : isNilSl m = true) : ∃ n c, y = .slice none n c := by
  unfold isNilSl at h
  split at h
  · cases hm with
    | c hc => cases hc; exact ⟨_, _, rfl⟩
  · simp at h
theorem isNilPt_rep {m : M} {y : Value} (hm : RepM w E ob m y) (h : isNilPt m = true) : y = .pointer none := by
  unfold isNilPt at h
  split at h
  · cases hm with
    | c hc => cases hc; rfl
  · simp at h
theorem eqMp_right (d : Nat) {t kt et : TypeId} (hu : P.underlying t = some (.map kt et)) (a : Option Nat) : (Op.equalIn (d + 1) t (.map a) (.map none)).run P w = .ok a.isNone w := by
  cases a <;> simp [Op.equalIn, run_underlying hu]
theorem eqMp_left (d : Nat) {t kt et : TypeId} (hu : P.underlying t = some (.map kt et)) (a : Option Nat) : (Op.equalIn (d + 1) t (.map none) (.map a)).run P w = .ok a.isNone w := by
  simp [Op.equalIn, run_underlying hu]
theorem binOp_eq_slice {t : TypeId} {op : BinOp} {a b r : Value} {q : Bool} (ha : ∃ p n c, a = .slice p n c) (hb : ∃ p n c, b = .slice p n c) (he : (Op.equal t a b).run P w = .ok q w) (h : nilRes op (some q) = some r) (ox oy : Operand) :
    (do eqGuard op t ox oy a b; binOp op t a b : Sem Value).run P w = .ok r w := by
  obtain ⟨p, n, c, rfl⟩ := ha
  obtain ⟨p', n', c', rfl⟩ := hb
  rw [eqGuard_at_slice]
  cases op <;> simp only [nilRes] at h <;> first
    | (simp at h; done)
    | (obtain rfl := Option.some.inj h; simp [binOp, he])
theorem binOp_eq_pointer {t : TypeId} {op : BinOp} {a b r : Value} {q : Bool} (ha : ∃ p, a = .pointer p) (hb : ∃ p, b = .pointer p) (he : (Op.equal t a b).run P w = .ok q w) (h : nilRes op (some q) = some r) (ox oy : Operand) :
    (do eqGuard op t ox oy a b; binOp op t a b : Sem Value).run P w = .ok r w := by
  obtain ⟨p, rfl⟩ := ha
  obtain ⟨p', rfl⟩ := hb
  rw [eqGuard_at_pointer]
  cases op <;> simp only [nilRes] at h <;> first
    | (simp at h; done)
    | (obtain rfl := Option.some.inj h; simp [binOp, he])

theorem eqPt_rep (hh : HeapOK w E ob) {x y : M} {a b : Value} {q : Bool} {t te : TypeId} {ti : TypeInfo} (hx : RepM w E ob x a) (hy : RepM w E ob y b) (hu : P.underlying t = some (.pointer te)) (hti : P.info? te = some ti) (hz : ti.size ≠ 0) (h : eqPt ob x y = some q) :
    ∃ p p', a = .pointer p ∧ b = .pointer p' ∧ ∀ d : Nat, (Op.equalIn (d + 1) t a b).run P w = .ok q w := by
  unfold eqPt at h
  split at h
  · rename_i i g off j g' off'
    split at h
    · rename_i e
      subst e
      split at h
      · rename_i o o' ho ho'
        obtain rfl := Option.some.inj h
        cases hx with
        | mp hp =>
          cases hy with
          | mp hq =>
            obtain ⟨_, _, _, _, rfl, _⟩ := at_obj hh hp ho
            obtain ⟨_, _, _, _, rfl, _⟩ := at_obj hh hq ho'
            refine ⟨_, _, rfl, rfl, fun d => ?_⟩
            by_cases e : off = off'
            · subst e
              simp [Op.equalIn, run_underlying hu, sizeOf, typeInfo, hti, sameAddr]
            · simp [Op.equalIn, run_underlying hu, sizeOf, typeInfo, hti, sameAddr, e, hz]
      · simp at h
    · simp at h
  · simp at h
theorem sound_binNil (hh : HeapOK w E ob) {op : BinOp} {t : TypeId} {x y : M} {a b r : Value} (hx : RepM w E ob x a) (hy : RepM w E ob y b) (h : binNil P ob op t x y = some r) (ox oy : Operand) : (do eqGuard op t ox oy a b; binOp op t a b : Sem Value).run P w = .ok r w := by
  have get : ∀ o : Option Bool, nilRes op o = some r → ∃ q, o = some q := fun o ho => by
    cases o with
    | none => simp [nilRes] at ho
    | some q => exact ⟨q, rfl⟩
  unfold binNil at h
  split at h
  · rename_i e hu
    obtain ⟨q, hq⟩ := get _ h
    rw [hq] at h
    split at hq
    · rename_i hn
      obtain ⟨n', c', rfl⟩ := isNilSl_rep hy hn
      obtain ⟨p, n, c, rfl, rfl⟩ := nilSl_rep hx hq
      exact binOp_eq_slice ⟨_, _, _, rfl⟩ ⟨_, _, _, rfl⟩ (eqS_right 9999 hu p n c n' c') h ox oy
    · split at hq
      · rename_i hn
        obtain ⟨n', c', rfl⟩ := isNilSl_rep hx hn
        obtain ⟨p, n, c, rfl, rfl⟩ := nilSl_rep hy hq
        exact binOp_eq_slice ⟨_, _, _, rfl⟩ ⟨_, _, _, rfl⟩ (eqS_left 9999 hu p n c n' c') h ox oy
      · simp at hq
  · rename_i e hu
    obtain ⟨q, hq⟩ := get _ h
    rw [hq] at h
    split at hq
    · rename_i hn
      obtain rfl := isNilPt_rep hy hn
      obtain ⟨p, rfl, rfl⟩ := nilPt_rep hh hx hq
      exact binOp_eq_pointer ⟨_, rfl⟩ ⟨_, rfl⟩ (eqP_right 9999 hu p) h ox oy
    · split at hq
      · rename_i hn
        obtain rfl := isNilPt_rep hx hn
        obtain ⟨p, rfl, rfl⟩ := nilPt_rep hh hy hq
        exact binOp_eq_pointer ⟨_, rfl⟩ ⟨_, rfl⟩ (eqP_left 9999 hu p) h ox oy
      · split at hq
        · rename_i hok
          obtain ⟨d, hd⟩ := under_of_ok hok
          obtain ⟨ti, hti⟩ := info_of_under hd
          split at hq
          · simp at hq
          · rename_i hz
            have hcz : szT P e = ti.size := by simp [szT, Program.cellsOf, hti]
            obtain ⟨p, p', rfl, rfl, he⟩ := eqPt_rep (P := P) hh hx hy hu hti (by omega) hq
            exact binOp_eq_pointer ⟨_, rfl⟩ ⟨_, rfl⟩ (he 9999) h ox oy
        · simp at hq
  · rename_i kt et hu
    have key : ∀ (p p' : Option Nat) (q : Bool), a = .map p → b = .map p' → (Op.equal t a b).run P w = .ok q w → nilRes op (some q) = some r → (do eqGuard op t ox oy a b; binOp op t a b : Sem Value).run P w = .ok r w := fun p p' q ha hb he hn => by
      subst ha hb
      rw [eqGuard_at_map]
      cases op <;> simp only [nilRes] at hn <;> first
        | (simp at hn; done)
        | (obtain rfl := Option.some.inj hn; simp [binOp, he])
    obtain ⟨q, hq⟩ := get _ h
    rw [hq] at h
    split at hq
    · rename_i hn
      obtain rfl := isNilMap_rep hy hn
      obtain ⟨p, rfl, rfl⟩ := nilMap_rep hx hq
      exact key p none _ rfl rfl (eqMp_right 9999 hu p) h
    · split at hq
      · rename_i hn
        obtain rfl := isNilMap_rep hx hn
        obtain ⟨p, rfl, rfl⟩ := nilMap_rep hy hq
        exact key none p _ rfl rfl (eqMp_left 9999 hu p) h
      · simp at hq
  · simp at h

theorem sound_bin (hh : HeapOK w E ob) {op : BinOp} {t : TypeId} {x y m : M} {a b : Value} (hx : RepM w E ob x a) (hy : RepM w E ob y b) (h : binM P ob op t x y = some m) (ox oy : Operand) :
    ∃ v, (do eqGuard op t ox oy a b; binOp op t a b : Sem Value).run P w = .ok v w ∧ RepM w E ob m v := by
  unfold binM at h
  split at h
  · rename_i a' b'
    split at h
    · rename_i r hr
      obtain rfl := Option.some.inj h
      cases hx with
      | c hc => cases hc; cases hy with
        | c hd => cases hd; exact ⟨r, sound_pbin hr ox oy, .c (.v _)⟩
    · obtain ⟨r, hr, rfl⟩ := Option.map_eq_some_iff.1 h
      exact ⟨r, sound_binNil hh hx hy hr ox oy, .c (.v _)⟩
  · rename_i a' b'
    split at h
    · rename_i ks hk
      obtain ⟨r, hr, rfl⟩ := Option.map_eq_some_iff.1 h
      unfold nilRes at hr
      split at hr
      · rename_i q hq
        obtain ⟨⟨xs, ys, rfl, rfl⟩, he, hg⟩ := sound_eqX hx hy hk hq
        have hgd : (eqGuard op t ox oy (.agg xs) (.agg ys)).run P w = .ok () w := by
          cases op <;> simp [eqGuard, show Sem.run P program w = .ok P w from rfl, hg]
        split at hr
        · obtain rfl := Option.some.inj hr
          exact ⟨.bool q, by rw [Sem.run_bind, hgd, Result.andThen_ok]; simp only [binOp, Sem.run_bind, he, Result.andThen_ok, Sem.run_pure], .c (.v _)⟩
        · obtain rfl := Option.some.inj hr
          exact ⟨.bool (!q), by rw [Sem.run_bind, hgd, Result.andThen_ok]; simp only [binOp, Sem.run_bind, he, Result.andThen_ok, Sem.run_pure], .c (.v _)⟩
        · simp at hr
      · simp at hr
    · simp at h
  · obtain ⟨r, hr, rfl⟩ := Option.map_eq_some_iff.1 h
    exact ⟨r, sound_binNil hh hx hy hr ox oy, .c (.v _)⟩

theorem sound_binIf {op : BinOp} {t : TypeId} {x : M} {a r : Value} {y : Operand} (hx : RepM w E ob x a) (hl : nilLit y = true) (hi : isIfcT P t = true) (h : nilRes op (nilIfc x) = some r) (ox : Operand) : (do eqGuard op t ox y a .nilIface; binOp op t a .nilIface : Sem Value).run P w = .ok r w := by
  unfold nilLit at hl
  split at hl
  · unfold isIfcT at hi
    split at hi
    · rename_i ms hu
      have key : ∀ (q : Bool), (eqGuard op t ox (.const .nilIface) a .nilIface).run P w = .ok () w → (∀ d : Nat, (Op.equalIn (d + 1) t a .nilIface).run P w = .ok q w) → nilRes op (some q) = some r → (a = .nilIface ∨ ∃ u v, a = .iface u v) → (do eqGuard op t ox (.const .nilIface) a .nilIface; binOp op t a .nilIface : Sem Value).run P w = .ok r w := fun q hg he hn ha => by
        have he' : (Op.equal t a .nilIface).run P w = .ok q w := he 9999
        rw [Sem.run_bind, hg, Result.andThen_ok]
        rcases ha with rfl | ⟨u, v, rfl⟩
        · cases op <;> simp only [nilRes] at hn <;> first
            | (simp at hn; done)
            | (obtain rfl := Option.some.inj hn; simp [binOp, he'])
        · cases op <;> simp only [nilRes] at hn <;> first
            | (simp at hn; done)
            | (obtain rfl := Option.some.inj hn; simp [binOp, he'])
      have hop : ∀ u v, (eqGuard op t ox (.const .nilIface) (.iface u v) .nilIface).run P w = .ok () w := fun u v => by cases op <;> simp [eqGuard]
      unfold nilIfc at h
      split at h
      · cases hx with
        | c hc =>
          cases hc
          exact key true (by cases op <;> simp [eqGuard]) (fun d => by simp [Op.equalIn, run_underlying hu]) h (.inl rfl)
      · cases hx with
        | c hc =>
          cases hc with
          | ifc1 t c y h1 => exact key false (hop _ _) (fun d => by simp [Op.equalIn, run_underlying hu]) h (.inr ⟨_, _, rfl⟩)
          | ifca t cs arr h1 h2 h3 => exact key false (hop _ _) (fun d => by simp [Op.equalIn, run_underlying hu]) h (.inr ⟨_, _, rfl⟩)
      · cases hx with
        | mi h1 => exact key false (hop _ _) (fun d => by simp [Op.equalIn, run_underlying hu]) h (.inr ⟨_, _, rfl⟩)
      · simp [nilRes] at h
    · simp at hi
  · simp at hl
theorem sound_un {op : UnOp} {x m : M} {a : Value} (hx : RepM w E ob x a) (h : unM op x = some m) : ∃ v, (Op.unary op a).run P w = .ok v w ∧ RepM w E ob m v := by
  unfold unM at h
  split at h
  · split at h
    · obtain rfl := Option.some.inj h
      cases hx with
      | c hc => cases hc; exact ⟨_, by simp [Op.unary], .c (.v _)⟩
    · simp at h
  · split at h
    · obtain rfl := Option.some.inj h
      cases hx with
      | c hc => cases hc; exact ⟨_, by simp [Op.unary, Op.intArith], .c (.v _)⟩
    · obtain rfl := Option.some.inj h
      cases hx with
      | c hc => cases hc; exact ⟨_, by simp [notI, Op.unary, Op.intBits], .c (.v _)⟩
    · simp at h
  · simp at h

end Go.Av

/- append. -/
set_option linter.unusedVariables false
set_option linter.unusedSimpArgs false
namespace Go.Av
open Go

variable {P : Program} {w : World} {E : Env} {ob : List Ob}

theorem zero_of_ok {e : TypeId} {z : Value} (h : (P.info? e).bind (·.zero) = some z) : ∃ i, P.info? e = some i ∧ i.zero = some z := by
  cases hi : P.info? e with
  | none => simp [hi] at h
  | some i => exact ⟨i, rfl, by simpa [hi] using h⟩

theorem row_of_list {ms : List M} {vs : List Value} (hl : ms.length ≤ vs.length) (h : ∀ (j : Nat) (m : M) (v : Value), ms[j]? = some m → vs[j]? = some v → one1 v = true ∧ RepM w E ob m v) : Row w E ob ms vs.toArray := by
  intro j m hm
  have hj := (List.getElem?_eq_some_iff.1 hm).1
  have hv : vs[j]? = some (vs[j]'(by omega)) := List.getElem?_eq_getElem (by omega)
  obtain ⟨h1, h2⟩ := h j m _ hm hv
  exact ⟨_, by simp, h1, h2⟩
theorem getElem?_range_map (n : Nat) (f : Nat → Value) (j : Nat) : ((List.range n).map f)[j]? = if j < n then some (f j) else none := by
  by_cases h : j < n
  · rw [if_pos h]; simp [h]
  · rw [if_neg h, List.getElem?_eq_none (by simp; omega)]

theorem sound_news (hh : HeapOK w E ob) {sz : Nat} {tx : TypeId} {x : M} {y : Value} {ns : List M} {n' : Nat} (hx : RepM w E ob x y) (ht : isSrcT P tx x = true) (h : newsM ob sz x = some (ns, n')) :
    ∃ news : List Value, Src P sz tx y n' news w ∧ ns.length = news.length ∧ Row w E ob ns news.toArray := by
  unfold newsM at h
  split at h
  · simp only [Option.some.injEq, Prod.mk.injEq] at h
    obtain ⟨rfl, rfl⟩ := h
    cases hx with
    | c hc =>
      cases hc
      have hk : ∃ e', P.underlying tx = some (.slice e') := by
        unfold isSrcT at ht
        split at ht <;> first | exact ⟨_, by assumption⟩ | simp_all
      obtain ⟨e', hk⟩ := hk
      exact ⟨[], Src.ofNil w hk 0, rfl, fun j m hm => by simp at hm⟩
  · rename_i s
    split at h
    · rename_i hs
      subst hs
      simp only [Option.some.injEq, Prod.mk.injEq] at h
      obtain ⟨rfl, rfl⟩ := h
      have hk : P.underlying tx = some .string := by
        unfold isSrcT at ht
        split at ht <;> simp_all
      cases hx with
      | c hc =>
        cases hc
        refine ⟨byteCells s, Src.ofString w hk s, by simp [up, byteCells, toList_data], row_of_list (by simp [up, byteCells, toList_data]) (fun j m v hm hv => ?_)⟩
        simp only [up, List.map_map, toList_data, List.getElem?_map, byteCells] at hm hv
        obtain ⟨b, hb, rfl⟩ := Option.map_eq_some_iff.1 hm
        rw [hb] at hv
        obtain rfl := Option.some.inj hv
        exact ⟨rfl, .c (.v _)⟩
    · simp at h
  · rename_i cs n full
    split at h
    · rename_i hl
      simp only [Option.some.injEq, Prod.mk.injEq] at h
      obtain ⟨rfl, rfl⟩ := h
      have hk : ∃ e', P.underlying tx = some (.slice e') := by
        unfold isSrcT at ht
        split at ht <;> first | exact ⟨_, by assumption⟩ | simp_all
      obtain ⟨e', hk⟩ := hk
      cases hx with
      | c hc =>
        cases hc with
        | nl full =>
          exact ⟨[], Src.ofNil w hk 0, rfl, fun j m hm => by simp [up] at hm⟩
        | sl cs n full a cap ys hf hn h1 h2 =>
          have hat : ∀ j, j < n * sz → ∃ c, cs[j]? = some c := fun j hj => ⟨_, List.getElem?_eq_getElem (show j < cs.length by omega)⟩
          refine ⟨(List.range (n * sz)).map ys, Src.ofSlice w hk a n cap _ (by simp) (fun j u hu => ?_) (fun u hu => ?_), by simp [up, hl], row_of_list (by simp [up, hl]) (fun j m v hm hv => ?_)⟩
          · rw [getElem?_range_map] at hu
            split at hu
            · rename_i hj
              obtain rfl := Option.some.inj hu
              obtain ⟨c, hc⟩ := hat j hj
              exact (h1 j c hc).2.2
            · simp at hu
          · simp only [List.mem_map, List.mem_range] at hu
            obtain ⟨j, hj, rfl⟩ := hu
            obtain ⟨c, hc⟩ := hat j hj
            exact (h1 j c hc).2.1
          · rw [getElem?_range_map] at hv
            split at hv
            · obtain rfl := Option.some.inj hv
              simp only [up, List.getElem?_map] at hm
              obtain ⟨c, hc, rfl⟩ := Option.map_eq_some_iff.1 hm
              exact ⟨(h1 j c hc).2.1, .c (h2 j c hc)⟩
            · simp at hv
    · simp at h
  · rename_i i g off n
    have hk : ∃ e', P.underlying tx = some (.slice e') := by
      unfold isSrcT at ht
      split at ht <;> first | exact ⟨_, by assumption⟩ | simp_all
    obtain ⟨e', hk⟩ := hk
    split at h
    · rename_i o hl
      cases hx with
      | ms hq =>
        obtain ⟨ho, hit, hg, r1, r2⟩ := live_ok hq hl
        cases hn : o.nil with
        | true =>
          rw [hn] at h
          simp only [if_true, Option.some.injEq, Prod.mk.injEq] at h
          obtain ⟨rfl, rfl⟩ := h
          obtain ⟨rfl, rfl, rfl⟩ := r1 hn
          exact ⟨[], Src.ofNil w hk 0, rfl, fun j m hm => by simp at hm⟩
        | false =>
          rw [hn] at h
          simp only [Bool.false_eq_true, if_false] at h
          split at h
          · rename_i hle
            simp only [Option.some.injEq, Prod.mk.injEq] at h
            obtain ⟨rfl, rfl⟩ := h
            obtain ⟨cap, rfl, hc1, hc2⟩ := r2 hn
            have hobj := hh.obj i o ho
            unfold ObOK at hobj
            rw [hit] at hobj
            obtain ⟨arr, lo, hi, hblk, hfz, hsz, hrow⟩ := hobj.2 hn
            have hlen := hrow.len
            have hat : ∀ j, j < n * sz → ∃ z, arr[off + j]? = some z ∧ one1 z = true := fun j hj => by
              obtain ⟨z, hz, h1z, _⟩ := hrow (off + j) _ (List.getElem?_eq_getElem (show off + j < o.cs.length by omega))
              exact ⟨z, hz, h1z⟩
            refine ⟨(List.range (n * sz)).map (fun j => arr.getD (off + j) undef), Src.ofSlice w hk _ n cap _ (by simp) (fun j u hu => ?_) (fun u hu => ?_), by simp; omega, row_of_list (by simp; omega) (fun j m v hm hv => ?_)⟩
            · rw [getElem?_range_map] at hu
              split at hu
              · rename_i hj
                obtain rfl := Option.some.inj hu
                obtain ⟨z, hz, _⟩ := hat j hj
                rw [add_obj, Array.getD_eq_getD_getElem?, hz]
                simp [World.cell?, hblk, hz]
              · simp at hu
            · simp only [List.mem_map, List.mem_range] at hu
              obtain ⟨j, hj, rfl⟩ := hu
              obtain ⟨z, hz, h1z⟩ := hat j hj
              rw [Array.getD_eq_getD_getElem?, hz]
              exact h1z
            · rw [getElem?_range_map] at hv
              rw [getElem?_take_drop] at hm
              split at hm
              · rename_i hj
                rw [if_pos hj] at hv
                obtain rfl := Option.some.inj hv
                obtain ⟨z, hz, h1z, hrz⟩ := hrow (off + j) m hm
                rw [Array.getD_eq_getD_getElem?, hz]
                exact ⟨h1z, hrz⟩
              · simp at hm
          · simp at h
    · simp at h
  · simp at h

theorem slice_of_live {i g off n : Nat} {y : Value} {o : Ob} (hq : SlOK E ob i g off n y) (hl : liveS ob i g = some o) (hh : HeapOK w E ob) (hn : o.nil = false) :
    ∃ cap arr lo hi, y = .slice (some ⟨E.blk i, off, none⟩) n cap ∧ n ≤ cap ∧ off + cap * o.sz ≤ E.asz i ∧ w.heap[E.blk i]? = some (.cells arr o.ty (lo, hi)) ∧ (∀ j, j < arr.size → ¬ (lo ≤ j ∧ j < hi)) ∧ arr.size = E.asz i ∧ Row w E ob o.cs arr := by
  obtain ⟨ho, hit, hg, r1, r2⟩ := live_ok hq hl
  obtain ⟨cap, rfl, hc1, hc2⟩ := r2 hn
  have hobj := hh.obj i o ho
  unfold ObOK at hobj
  rw [hit] at hobj
  obtain ⟨arr, lo, hi, hblk, hfz, hsz, hrow⟩ := hobj.2 hn
  exact ⟨cap, arr, lo, hi, rfl, hc1, hc2, hblk, hfz, hsz, hrow⟩

theorem row_append {ms ns : List M} {a b : List Value} (h1 : Row w E ob ms a.toArray) (h2 : Row w E ob ns b.toArray) (hl : ms.length = a.length) (c : Array Value) : Row w E ob (ms ++ ns) ((a ++ b).toArray ++ c) := by
  intro j m hm
  by_cases hj : j < ms.length
  · rw [List.getElem?_append_left hj] at hm
    obtain ⟨y, hy, q1, q2⟩ := h1 j m hm
    refine ⟨y, ?_, q1, q2⟩
    rw [Array.getElem?_append_left (by simp; omega)]
    simp only [List.getElem?_toArray] at hy ⊢
    rw [List.getElem?_append_left (by omega)]
    exact hy
  · rw [List.getElem?_append_right (by omega)] at hm
    obtain ⟨y, hy, q1, q2⟩ := h2 _ m hm
    simp only [List.getElem?_toArray] at hy
    have hlt := (List.getElem?_eq_some_iff.1 hy).1
    refine ⟨y, ?_, q1, q2⟩
    rw [Array.getElem?_append_left (by simp; omega)]
    simp only [List.getElem?_toArray]
    rw [List.getElem?_append_right (by omega), ← hl]
    exact hy

theorem of_ite {α : Type} {c : Prop} [Decidable c] {x : Option α} {y : α} (h : (if c then x else none) = some y) : c ∧ x = some y := by
  split at h
  · exact ⟨by assumption, h⟩
  · simp at h

theorem grows {t tx ty e : TypeId} {ti : TypeInfo} {z b : Value} {base : Option Addr} {n cap n' : Nat} {olds news : List Value} (hu : P.underlying t = some (.slice e)) (hti : P.info? e = some ti) (hz0 : ti.zero = some z)
    (hold : (Builtin.firstCells ti.size n (.slice base n cap)).run P w.drew = .ok olds.toArray w.drew) (hS : Src P ti.size tx b n' news w) (hg : cap < n + n') (hb : (n + n') * ti.bytes ≤ roomB) (hr : ((n + n' : Nat) : Int) ≤ 9223372036854775807) :
    ∃ (w' : World) (cap' : Nat) (rest : Array Value), (Builtin.append_ #[t, tx] ty #[.slice base n cap, b]).run P w = .ok (.slice (some ⟨w.heap.size, 0, none⟩) (n + n') cap') w' ∧ n + n' ≤ cap' ∧ rest.size = (cap' - (n + n')) * z.cells.size ∧
      w'.os = w.os ∧ w'.tape = w.tape ∧ w'.output = w.output ∧ w'.heap = w.heap.push (.cells ((olds ++ news).toArray ++ rest) e (0, 0)) := by
  refine ⟨_, _, _, run_append_grow_src w t tx ty e ti z hu hti hz0 base n cap olds hold b n' news hS hg hr (growslice_fits hg hb), ?_, by simp [Builtin.zeroCells], rfl, rfl, rfl, rfl⟩
  unfold grownCap Question.cut
  exact Nat.le_add_right _ _

theorem mul_split {a b c k : Nat} (h : a + b ≤ c) : a * k + b * k + (c - (a + b)) * k = c * k := by
  rw [← Nat.add_mul, ← Nat.add_mul]
  congr 1
  omega

theorem sound_append (hh : HeapOK w E ob) {t tx ty : TypeId} {s x m : M} {a b : Value} {ob' : List Ob} (hs : RepM w E ob s a) (hx : RepM w E ob x b) (hz : ∀ e, P.underlying t = some (.slice e) → ∃ i z, P.info? e = some i ∧ i.zero = some z ∧ z.cells.size = szT P e)
    (h : appendM P ob t tx s x = some (m, ob')) : ∃ v w' E', (Builtin.append_ #[t, tx] ty #[a, b]).run P w = .ok v w' ∧ RepM w' E' ob' m v ∧ Step w E ob w' E' ob' := by
  unfold appendM at h
  split at h
  · rename_i e hu
    obtain ⟨ti, z, hti, hz0, hzs⟩ := hz e hu
    have hsize : ti.size = szT P e := by simp [szT, Program.cellsOf, hti]
    have hbytes : ti.bytes = P.bytesOf e := by simp [Program.bytesOf, hti]
    split at h
    · simp at h
    · rename_i hsrc
      split at h
      · simp at h
      · rename_i ns n' hns
        obtain ⟨news, hS, hnl, hrow'⟩ := sound_news (P := P) (tx := tx) hh hx (by simpa using hsrc) hns
        have hS' : Src P ti.size tx b n' news w := by rw [hsize]; exact hS
        have hnl' : news.length = n' * szT P e := hS.newsLen
        have room : ∀ k, 0 < P.bytesOf e → k * P.bytesOf e ≤ roomB → (k : Int) ≤ 9223372036854775807 := by
          intro k h0 h1
          have h2 : k * 1 ≤ k * P.bytesOf e := Nat.mul_le_mul_left _ h0
          have h3 : roomB = 140737488355328 := rfl
          omega
        split at h
        · rename_i i g off n
          split at h
          · rename_i o hl
            obtain ⟨hoff, h⟩ := of_ite h
            obtain ⟨hty, h⟩ := of_ite h
            obtain ⟨hsz, h⟩ := of_ite h
            obtain ⟨hfull, h⟩ := of_ite h
            obtain ⟨hb0, h⟩ := of_ite h
            obtain ⟨hroom, h⟩ := of_ite h
            simp only [Option.some.injEq, Prod.mk.injEq] at h
            obtain ⟨rfl, rfl⟩ := h
            subst hoff
            cases hs with
            | ms hq =>
              obtain ⟨ho, hit, hg, r1, r2⟩ := live_ok hq hl
              subst hg
              have hlt : i < ob.length := (List.getElem?_eq_some_iff.1 ho).1
              cases hnil : o.nil with
              | true =>
                obtain ⟨rfl, rfl, _⟩ := r1 hnil
                have hcs : o.cs = [] := by
                  have := hh.obj i o ho
                  unfold ObOK at this
                  rw [hit] at this
                  exact this.1 hnil
                by_cases hn0 : n' = 0
                · subst hn0
                  have hnews : news = [] := List.eq_nil_of_length_eq_zero (by omega)
                  subst hnews
                  have hns0 : ns = [] := List.eq_nil_of_length_eq_zero (by simpa using hnl)
                  subst hns0
                  have hstep := step_bump hh ho hnil hit
                  refine ⟨_, w, E, run_append_nothing w t tx ty e ti hu hti none 0 0 (Nat.le_refl _) b hS', ?_, ?_⟩
                  · refine .ms ⟨rfl, { o with gen := o.gen + 1 }, ?_, hit, Nat.le_refl _, fun _ => ⟨fun _ => ⟨rfl, rfl, rfl⟩, fun hf => ?_⟩⟩
                    · rw [getElem?_set, if_pos rfl, if_pos hlt]
                      simp [hnil, hcs]
                    · simp [hnil] at hf
                  · have e1 : ({ o with nil := true && (0 == 0), gen := o.gen + 1, cs := o.cs ++ [] } : Ob) = { o with gen := o.gen + 1 } := by simp [hnil, hcs]
                    rw [e1]
                    exact hstep
                · obtain ⟨w', cap', rest, hrun, hcap, hrest, a1, a2, a3, a4⟩ := grows (w := w) (base := none) (n := 0) (cap := 0) (olds := []) hu hti hz0 (by simpa using run_firstCells_none w.drew ti.size 0 0 0) hS' (by omega) (by rw [hbytes]; exact hroom) (room _ hb0 hroom)
                  have e0 : (n' == 0) = false := by simpa using hn0
                  have hmove := step_move hh ho hit (o.cs ++ ns) (o.gen + 1) (by omega) (([] ++ news).toArray ++ rest) e hty.symm (by
                    rw [hcs]
                    exact row_append (a := []) (fun j m hm => by simp at hm) hrow' rfl rest) a1 a2 a3 a4
                  refine ⟨_, w', { E with blk := upd E.blk i w.heap.size, asz := upd E.asz i (([] ++ news).toArray ++ rest).size }, hrun, ?_, ?_⟩
                  · refine .ms ⟨rfl, { o with nil := false, gen := o.gen + 1, cs := o.cs ++ ns }, ?_, hit, Nat.le_refl _, fun _ => ⟨fun hf => by simp at hf, fun _ => ⟨cap', by simp only [upd_same], hcap, ?_⟩⟩⟩
                    · rw [getElem?_set, if_pos rfl, if_pos hlt]
                      simp [e0]
                    · simp only [upd_same, Array.size_append, hrest, hzs, hsz]
                      have := mul_split (a := 0) (b := n') (c := cap') (k := szT P e) hcap
                      simp [hnl']
                      simp at this
                      omega
                  · rw [e0, Bool.and_false]
                    exact hmove
              | false =>
                obtain ⟨cap, arr, lo, hi, rfl, hc1, hc2, hblk, hfz, hasz, hrow⟩ := slice_of_live hq hl hh hnil
                have hlen := hrow.len
                rw [Bool.false_and]
                by_cases hfit : n + n' ≤ cap
                · have hcapsz : (n + n') * szT P e ≤ cap * szT P e := Nat.mul_le_mul_right _ hfit
                  rw [Nat.add_mul] at hcapsz
                  rw [hsz] at hc2
                  obtain ⟨w', hr, a1, a2, a3, a4, a5, cur', hc, hcs', hcj⟩ := store_cells (P := P) (E.blk i) o.ty lo hi news 0 (0 + n * ti.size) arr w hblk hfz (by rw [hsize]; omega) hS.one
                  have hrun : (Builtin.append_ #[t, tx] ty #[.slice (some ⟨E.blk i, 0, none⟩) n cap, b]).run P w = .ok (.slice (some ⟨E.blk i, 0, none⟩) (n + n') cap) w' := by
                    rcases hS'.kind with ⟨e', hk⟩ | hk <;> simp [Builtin.append_, run_underlying hu, run_underlying hk, sizeOf, typeInfo, hti, hS'.len, hfit, hS'.cells, Addr.add_lit, -Nat.zero_add, hr]
                  have hset := step_set hh ho hnil hit (o.cs ++ ns) (o.gen + 1) (by omega) cur' o.ty lo hi rfl (by
                    intro j m hm
                    rw [hcj j]
                    by_cases hj : j < o.cs.length
                    · rw [List.getElem?_append_left hj] at hm
                      rw [if_neg (by rw [hsize]; omega)]
                      exact hrow j m hm
                    · rw [List.getElem?_append_right (by omega)] at hm
                      have hm2 := (List.getElem?_eq_some_iff.1 hm).1
                      rw [if_pos (by rw [hsize]; omega)]
                      obtain ⟨y, hy, q1, q2⟩ := hrow' _ m hm
                      refine ⟨y, ?_, q1, q2⟩
                      rw [hsize, show j - (0 + n * szT P e + 0) = j - o.cs.length by omega]
                      simpa using hy) (fun j hj => hfz j (by omega)) (by omega) a1 a2 a3 a4 a5 hc
                  refine ⟨_, w', E, hrun, ?_, ?_⟩
                  · refine .ms ⟨rfl, { o with nil := false, gen := o.gen + 1, cs := o.cs ++ ns }, ?_, hit, Nat.le_refl _, fun _ => ⟨fun hf => by simp at hf, fun _ => ⟨cap, rfl, hfit, by simp only [hsz]; omega⟩⟩⟩
                    rw [getElem?_set, if_pos rfl, if_pos hlt]
                  · have e1 : ({ o with nil := false, gen := o.gen + 1, cs := o.cs ++ ns } : Ob) = { o with cs := o.cs ++ ns, gen := o.gen + 1 } := by rw [← hnil]
                    rw [e1]
                    exact hset
                · have holds : (Builtin.firstCells ti.size n (.slice (some ⟨E.blk i, 0, none⟩) n cap)).run P w.drew = .ok ((arr.toList.take (n * szT P e))).toArray w.drew := by
                    refine run_firstCells_some w.drew ti.size n ⟨E.blk i, 0, none⟩ n cap _ (by simp [hsize]; omega) (fun j v hv => ?_)
                    rw [List.getElem?_take] at hv
                    split at hv
                    · rw [add_obj]
                      simp only [Nat.zero_add]
                      show w.cell? _ = some v
                      simpa [World.cell?, hblk] using hv
                    · simp at hv
                  obtain ⟨w', cap', rest, hrun, hcap, hrest, a1, a2, a3, a4⟩ := grows (w := w) hu hti hz0 holds hS' (by omega) (by rw [hbytes]; exact hroom) (room _ hb0 hroom)
                  have hmove := step_move hh ho hit (o.cs ++ ns) (o.gen + 1) (by omega) ((arr.toList.take (n * szT P e) ++ news).toArray ++ rest) e hty.symm (by
                    refine row_append ?_ hrow' (by simp; omega) rest
                    intro j m hm
                    obtain ⟨y, hy, q1, q2⟩ := hrow j m hm
                    have hj := (List.getElem?_eq_some_iff.1 hm).1
                    refine ⟨y, ?_, q1, q2⟩
                    simp only [List.getElem?_toArray]
                    rw [List.getElem?_take_of_lt (by omega), Array.getElem?_toList]
                    exact hy) a1 a2 a3 a4
                  refine ⟨_, w', _, hrun, ?_, hmove⟩
                  refine .ms ⟨rfl, { o with nil := false, gen := o.gen + 1, cs := o.cs ++ ns }, ?_, hit, Nat.le_refl _, fun _ => ⟨fun hf => by simp at hf, fun _ => ⟨cap', by simp only [upd_same], hcap, ?_⟩⟩⟩
                  · rw [getElem?_set, if_pos rfl, if_pos hlt]
                  · simp only [upd_same, Array.size_append, hrest, hzs, hsz]
                    have := mul_split (a := n) (b := n') (c := cap') (k := szT P e) hcap
                    simp [hnl']
                    rw [Nat.min_eq_left (by omega)]
                    omega
          · simp at h
        · cases hs with
          | c hc =>
            cases hc
            split at h
            · rename_i hn0
              subst hn0
              simp only [Option.some.injEq, Prod.mk.injEq] at h
              obtain ⟨rfl, rfl⟩ := h
              have hnews : news = [] := List.eq_nil_of_length_eq_zero (by omega)
              subst hnews
              exact ⟨_, w, E, run_append_nothing w t tx ty e ti hu hti none 0 0 (Nat.le_refl _) b hS', .c (.v _), .refl hh⟩
            · rename_i hn0
              obtain ⟨hb0, h⟩ := of_ite h
              obtain ⟨hroom, h⟩ := of_ite h
              simp only [Option.some.injEq, Prod.mk.injEq] at h
              obtain ⟨rfl, rfl⟩ := h
              obtain ⟨w', cap', rest, hrun, hcap, hrest, a1, a2, a3, a4⟩ := grows (w := w) (base := none) (n := 0) (cap := 0) (olds := []) hu hti hz0 (by simpa using run_firstCells_none w.drew ti.size 0 0 0) hS' (by omega) (by rw [hbytes]; simpa using hroom) (by simpa using room _ hb0 hroom)
              have hrn : Row w E ob ns (([] ++ news).toArray ++ rest) := row_append (a := []) (ms := []) (fun j m hm => by simp at hm) hrow' rfl rest
              have hnew := step_new hh e (szT P e) ns (([] ++ news).toArray ++ rest) hrn 0 0 (fun j _ => by omega) a1 a2 a3 a4
              refine ⟨_, w', { E with blk := upd E.blk ob.length w.heap.size, asz := upd E.asz ob.length (([] ++ news).toArray ++ rest).size }, hrun, ?_, hnew⟩
              refine .ms ⟨rfl, { ty := e, sz := szT P e, nil := false, gen := 0, cs := ns }, by unfold newOb; rw [getElem?_snoc, if_neg (by omega), if_pos rfl], rfl, Nat.le_refl _, fun _ => ⟨fun hf => by simp at hf, fun _ => ⟨cap', by simp only [upd_same, Nat.zero_add], by omega, ?_⟩⟩⟩
              simp only [upd_same, Array.size_append, hrest, hzs]
              have := mul_split (a := 0) (b := n') (c := cap') (k := szT P e) hcap
              simp [hnl']
              simp at this
              omega
        · rename_i cs n
          cases hs with
          | c hc =>
            cases hc with
            | nl =>
              split at h
              · rename_i hn0
                subst hn0
                simp only [Option.some.injEq, Prod.mk.injEq] at h
                obtain ⟨rfl, rfl⟩ := h
                have hnews : news = [] := List.eq_nil_of_length_eq_zero (by omega)
                subst hnews
                exact ⟨_, w, E, run_append_nothing w t tx ty e ti hu hti none 0 0 (Nat.le_refl _) b hS', .c (.nl true), .refl hh⟩
              · rename_i hn0
                obtain ⟨hcl, h⟩ := of_ite h
                obtain ⟨hb0, h⟩ := of_ite h
                obtain ⟨hroom, h⟩ := of_ite h
                simp only [Option.some.injEq, Prod.mk.injEq] at h
                obtain ⟨rfl, rfl⟩ := h
                obtain ⟨w', cap', rest, hrun, hcap, hrest, a1, a2, a3, a4⟩ := grows (w := w) (base := none) (n := 0) (cap := 0) (olds := []) hu hti hz0 (by simpa using run_firstCells_none w.drew ti.size 0 0 0) hS' (by omega) (by rw [hbytes]; exact hroom) (room _ hb0 hroom)
                have hrn : Row w E ob (up [] ++ ns) (([] ++ news).toArray ++ rest) := row_append (a := []) (ms := []) (fun j m hm => by simp at hm) hrow' rfl rest
                have hnew := step_new hh e (szT P e) (up [] ++ ns) (([] ++ news).toArray ++ rest) hrn 0 0 (fun j _ => by omega) a1 a2 a3 a4
                refine ⟨_, w', { E with blk := upd E.blk ob.length w.heap.size, asz := upd E.asz ob.length (([] ++ news).toArray ++ rest).size }, hrun, ?_, hnew⟩
                refine .ms ⟨rfl, { ty := e, sz := szT P e, nil := false, gen := 0, cs := up [] ++ ns }, by unfold newOb; rw [getElem?_snoc, if_neg (by omega), if_pos rfl], rfl, Nat.le_refl _, fun _ => ⟨fun hf => by simp at hf, fun _ => ⟨cap', by simp only [upd_same], by omega, ?_⟩⟩⟩
                simp only [upd_same, Array.size_append, hrest, hzs]
                have := mul_split (a := 0) (b := n') (c := cap') (k := szT P e) hcap
                simp [hnl']
                simp at this
                omega
            | sl _ _ _ ad cap ys hf hn h1 h2 =>
              obtain rfl := hf rfl
              split at h
              · rename_i hn0
                subst hn0
                simp only [Option.some.injEq, Prod.mk.injEq] at h
                obtain ⟨rfl, rfl⟩ := h
                have hnews : news = [] := List.eq_nil_of_length_eq_zero (by omega)
                subst hnews
                exact ⟨_, w, E, run_append_nothing w t tx ty e ti hu hti (some ad) cap cap (Nat.le_refl _) b hS', .c (.sl cs cap true ad cap ys hf hn h1 h2), .refl hh⟩
              · rename_i hn0
                obtain ⟨hcl, h⟩ := of_ite h
                obtain ⟨hb0, h⟩ := of_ite h
                obtain ⟨hroom, h⟩ := of_ite h
                simp only [Option.some.injEq, Prod.mk.injEq] at h
                obtain ⟨rfl, rfl⟩ := h
                have hat : ∀ j, j < cap * szT P e → ∃ c, cs[j]? = some c := fun j hj => ⟨_, List.getElem?_eq_getElem (show j < cs.length by omega)⟩
                have holds : (Builtin.firstCells ti.size cap (.slice (some ad) cap cap)).run P w.drew = .ok ((List.range (cap * szT P e)).map ys).toArray w.drew := by
                  refine run_firstCells_some w.drew ti.size cap ad cap cap _ (by simp [hsize]) (fun j v hv => ?_)
                  rw [getElem?_range_map] at hv
                  split at hv
                  · rename_i hj
                    obtain rfl := Option.some.inj hv
                    obtain ⟨c, hc⟩ := hat j hj
                    exact (h1 j c hc).2.2
                  · simp at hv
                obtain ⟨w', cap', rest, hrun, hcap, hrest, a1, a2, a3, a4⟩ := grows (w := w) hu hti hz0 holds hS' (by omega) (by rw [hbytes]; exact hroom) (room _ hb0 hroom)
                have hnew := step_new hh e (szT P e) (up cs ++ ns) (((List.range (cap * szT P e)).map ys ++ news).toArray ++ rest) (row_append (row_of_list (by simp [up]; omega) (fun j m v hm hv => by
                  rw [getElem?_range_map] at hv
                  split at hv
                  · obtain rfl := Option.some.inj hv
                    simp only [up, List.getElem?_map] at hm
                    obtain ⟨c, hc, rfl⟩ := Option.map_eq_some_iff.1 hm
                    exact ⟨(h1 j c hc).2.1, .c (h2 j c hc)⟩
                  · simp at hv)) hrow' (by simp [up]; omega) rest) 0 0 (fun j _ => by omega) a1 a2 a3 a4
                refine ⟨_, w', { E with blk := upd E.blk ob.length w.heap.size, asz := upd E.asz ob.length (((List.range (cap * szT P e)).map ys ++ news).toArray ++ rest).size }, hrun, ?_, hnew⟩
                refine .ms ⟨rfl, { ty := e, sz := szT P e, nil := false, gen := 0, cs := up cs ++ ns }, by unfold newOb; rw [getElem?_snoc, if_neg (by omega), if_pos rfl], rfl, Nat.le_refl _, fun _ => ⟨fun hf => by simp at hf, fun _ => ⟨cap', by simp only [upd_same], hcap, ?_⟩⟩⟩
                simp only [upd_same, Array.size_append, hrest, hzs]
                have := mul_split (a := cap) (b := n') (c := cap') (k := szT P e) hcap
                simp [hnl']
                omega
        · simp at h
  · simp at h

end Go.Av

/- What is made: variables, boxes, structs, arrays, slices. -/
set_option linter.unusedVariables false
set_option linter.unusedSimpArgs false
namespace Go.Av
open Go

variable {P : Program} {w : World} {E : Env} {ob : List Ob}

def Cells (w : World) (E : Env) (ob : List Ob) (ms : List M) (arr : Array Value) : Prop := arr.size = ms.length ∧ (∀ v ∈ arr.toList, v.oneCell' = true) ∧ Row w E ob ms arr

theorem cells_zero {t : TypeId} {zs : List M} (h : zeroT P t = some zs) : ∃ i z, P.info? t = some i ∧ i.zero = some z ∧ Cells w E ob zs z.cells := by
  unfold zeroT at h
  split at h
  · rename_i z hz
    obtain ⟨i, hi, hiz⟩ := zero_of_ok hz
    obtain ⟨m, hm, hc⟩ := Option.bind_eq_some_iff.1 h
    exact ⟨i, z, hi, hiz, rep_cells (rep_const hm) hc⟩
  · simp at h
theorem run_zero {t : TypeId} {i : TypeInfo} {z : Value} (hi : P.info? t = some i) (hz : i.zero = some z) (w : World) : (zeroValue t).run P w = .ok z w := by
  simp [zeroValue, typeInfo, hi, hz]

theorem rep_new (ty sz : Nat) (cs : List M) (arr : Array Value) (b : Nat) : PtOK { E with blk := upd E.blk ob.length b, asz := upd E.asz ob.length arr.size } (newOb ob ty sz cs) ob.length 0 0 (.pointer (some ⟨b, 0, none⟩)) :=
  ⟨rfl, _, by unfold newOb; rw [getElem?_snoc, if_neg (by omega), if_pos rfl], rfl, Nat.le_refl _, fun _ _ => by simp only [upd_same]⟩

theorem sound_alloc (hh : HeapOK w E ob) {e : TypeId} {m : M} {ob' : List Ob} (h : allocM P ob e = some (m, ob')) :
    ∃ v w' E', (Instr.alloc e true (.tuple #[])).run P w = .ok v w' ∧ RepM w' E' ob' m v ∧ Step w E ob w' E' ob' := by
  unfold allocM at h
  split at h
  · rename_i zs hz
    simp only [Option.some.injEq, Prod.mk.injEq] at h
    obtain ⟨rfl, rfl⟩ := h
    obtain ⟨i, z, hi, hiz, c1, c2, c3⟩ := cells_zero (w := w) (E := E) (ob := ob) hz
    refine ⟨_, { w with heap := w.heap.push (.cells z.cells e) }, _, by simp [Instr.alloc, run_zero hi hiz, newVar, newRow], .mp (rep_new e (szOb P e) zs z.cells w.heap.size), step_new hh e (szOb P e) zs z.cells c3 0 0 (fun j _ => by omega) rfl rfl rfl rfl⟩
  · simp at h

theorem sound_box (hh : HeapOK w E ob) {e : TypeId} {x m : M} {y : Value} {ob' : List Ob} (hx : RepM w E ob x y) (h : boxM P ob e x = some (m, ob')) :
    ∃ v w' E', (Instr.box e y).run P w = .ok v w' ∧ RepM w' E' ob' m v ∧ Step w E ob w' E' ob' := by
  unfold boxM at h
  split at h
  · rename_i ms hms
    simp only [Option.some.injEq, Prod.mk.injEq] at h
    obtain ⟨rfl, rfl⟩ := h
    obtain ⟨c1, c2, c3⟩ := rep_cells hx hms
    refine ⟨_, { w with heap := w.heap.push (.cells y.cells e) }, _, by simp [Instr.box, newVar, newRow], .mp (rep_new e (szBx P e) ms y.cells w.heap.size), step_new hh e (szBx P e) ms y.cells c3 0 0 (fun j _ => by omega) rfl rfl rfl rfl⟩
  · simp at h

theorem fold_set (vs : List Value) : ∀ (k off : Nat) (cur : Array Value), off + k + vs.length ≤ cur.size →
    ((vs.zipIdx k).foldl (fun cs (p : Value × Nat) => cs.setIfInBounds (off + p.2) p.1) cur).size = cur.size ∧
    ∀ j, ((vs.zipIdx k).foldl (fun cs (p : Value × Nat) => cs.setIfInBounds (off + p.2) p.1) cur)[j]? = if off + k ≤ j ∧ j < off + k + vs.length then vs[j - (off + k)]? else cur[j]? := by
  induction vs with
  | nil => intro k off cur h; exact ⟨rfl, fun j => by simp; intro h1 h2; omega⟩
  | cons v vs ih =>
    intro k off cur h
    simp only [List.zipIdx_cons, List.foldl_cons, List.length_cons] at h ⊢
    obtain ⟨h1, h2⟩ := ih (k + 1) off (cur.setIfInBounds (off + k) v) (by simp; omega)
    refine ⟨by rw [h1]; simp, fun j => ?_⟩
    rw [h2 j]
    by_cases e : j = off + k
    · subst e
      rw [if_neg (by omega), if_pos ⟨Nat.le_refl _, by omega⟩, Nat.sub_self, Array.getElem?_setIfInBounds, if_pos rfl, if_pos (by omega)]
      rfl
    · by_cases hin : off + (k + 1) ≤ j ∧ j < off + (k + 1) + vs.length
      · rw [if_pos hin, if_pos (by omega), show j - (off + k) = (j - (off + (k + 1))) + 1 by omega]
        rfl
      · rw [if_neg hin, if_neg (by omega), Array.getElem?_setIfInBounds, if_neg (by omega)]

theorem sound_fill {place : Nat → Option (Nat × Nat)} {parts : List (Nat × M)} {pv : List (Nat × Value)} {ms ms' : List M} {arr : Array Value}
    (hp : pv.length = parts.length) (hr : ∀ (k : Nat) i m, parts[k]? = some (i, m) → ∃ v, pv[k]? = some (i, v) ∧ RepM w E ob m v) (hc : Cells w E ob ms arr) (h : fillM place ms parts = some ms') :
    ∃ arr', Instr.fill place arr pv = some arr' ∧ Cells w E ob ms' arr' := by
  induction parts generalizing pv ms arr with
  | nil =>
    obtain rfl : pv = [] := List.eq_nil_of_length_eq_zero (by simpa using hp)
    obtain rfl := Option.some.inj h
    exact ⟨arr, rfl, hc⟩
  | cons p parts ih =>
    obtain ⟨i, m⟩ := p
    cases pv with
    | nil => simp at hp
    | cons q pv =>
      obtain ⟨v, hv, hrv⟩ := hr 0 i m rfl
      obtain rfl := Option.some.inj hv
      simp only [fillM] at h
      split at h
      · rename_i off size mc hplace hcells
        obtain ⟨hsz, h⟩ := of_ite h
        obtain ⟨hle, h⟩ := of_ite h
        obtain ⟨c1, c2, c3⟩ := rep_cells hrv hcells
        obtain ⟨d1, d2, d3⟩ := hc
        obtain ⟨f1, f2⟩ := fold_set v.cells.toList 0 off arr (by simp; omega)
        have e0 : v.cells.zipIdx.foldl (fun cs (p : Value × Nat) => cs.setIfInBounds (off + p.2) p.1) arr = (v.cells.toList.zipIdx 0).foldl (fun cs (p : Value × Nat) => cs.setIfInBounds (off + p.2) p.1) arr := by
          rw [← Array.foldl_toList, Array.toList_zipIdx]
        have hnew : Cells w E ob (lay ms off mc) ((v.cells.toList.zipIdx 0).foldl (fun cs (p : Value × Nat) => cs.setIfInBounds (off + p.2) p.1) arr) := by
          refine ⟨by rw [f1, length_lay _ _ _ hle, d1], fun u hu => ?_, fun j m' hm => ?_⟩
          · obtain ⟨j, hj, rfl⟩ := List.getElem_of_mem hu
            have hj2 := f2 j
            rw [← Array.getElem?_toList, List.getElem?_eq_getElem hj] at hj2
            split at hj2
            · exact c2 _ (List.mem_of_getElem? hj2.symm)
            · exact d2 _ (List.mem_of_getElem? (by rw [Array.getElem?_toList]; exact hj2.symm))
          · rw [getElem?_lay _ _ _ hle] at hm
            rw [f2 j]
            simp only [Nat.add_zero, Array.length_toList, c1]
            split at hm
            · rename_i hin
              rw [if_pos hin]
              obtain ⟨z, hz, q1, q2⟩ := c3 _ m' hm
              exact ⟨z, by rw [Array.getElem?_toList]; exact hz, q1, q2⟩
            · rename_i hin
              rw [if_neg hin]
              exact d3 j m' hm
        obtain ⟨arr', ha, hca⟩ := ih (by simpa using hp) (fun k i m hk => hr (k + 1) i m hk) hnew h
        refine ⟨arr', ?_, hca⟩
        simp only [Instr.fill, hplace]
        rw [if_neg (by simp [c1, hsz]; omega)]
        rw [← ha, ← e0]
      · simp at h

theorem cells_agg {ms : List M} {arr : Array Value} (h : Cells w E ob ms arr) : RepM w E ob (.agg ms) (.agg arr) := by
  obtain ⟨h1, h2, h3⟩ := h
  refine .agg _ _ h1 (fun j hj => h2 _ (by simp)) (fun j hj m hm => ?_)
  obtain ⟨y, hy, _, hr⟩ := h3 j m hm
  rw [Array.getElem?_eq_getElem hj] at hy
  obtain rfl := Option.some.inj hy
  exact hr

theorem run_places {fs : Array Field} (hok : ∀ (k : Nat) (f : Field), fs[k]? = some f → okT P f.type = true) (w : World) :
    (fs.mapM fun f => (do pure (f.offset, ← sizeOf f.type) : Sem (Nat × Nat))).run P w = .ok (fs.map fun f => (f.offset, szT P f.type)) w := by
  have key : ∀ (l : List Field), (∀ f ∈ l, okT P f.type = true) → (l.mapM fun f => (do pure (f.offset, ← sizeOf f.type) : Sem (Nat × Nat))).run P w = .ok (l.map fun f => (f.offset, szT P f.type)) w := by
    intro l
    induction l with
    | nil => intro _; rfl
    | cons f l ih =>
      intro hl
      obtain ⟨d, hd⟩ := under_of_ok (hl f (by simp))
      obtain ⟨ti, hti⟩ := info_of_under hd
      rw [List.mapM_cons]
      simp only [Sem.run_bind, run_size hti, Result.andThen_ok, Sem.run_pure, ih (fun g hg => hl g (by simp [hg])), List.map_cons]
  have h1 := key fs.toList (fun f hf => by
    obtain ⟨k, hk, rfl⟩ := List.getElem_of_mem hf
    exact hok k _ (by simp))
  rw [Array.mapM_eq_mapM_toList]
  simp only [Sem.run_map, h1, Result.andThen_ok]
  congr 1
  apply Array.ext'
  simp

theorem sound_build {t : TypeId} {parts : List (Nat × M)} {pv : Array (Nat × Value)} {m : M} (hok : ∀ (fs : Array Field) (k : Nat) (f : Field), P.underlying t = some (.struct fs) → fs[k]? = some f → okT P f.type = true) (hoka : ∀ n e, P.underlying t = some (.array n e) → okT P e = true)
    (hp : pv.size = parts.length) (hr : ∀ (k : Nat) i m, parts[k]? = some (i, m) → ∃ v, pv[k]? = some (i, v) ∧ RepM w E ob m v) (h : buildM P t parts = some m) :
    ∃ v, (Instr.build t pv).run P w = .ok v w ∧ RepM w E ob m v := by
  unfold buildM at h
  obtain ⟨hagg, h⟩ := of_ite h
  split at h
  · rename_i zs hz
    obtain ⟨ms, hf, rfl⟩ := Option.map_eq_some_iff.1 h
    obtain ⟨i, z, hi, hiz, hc⟩ := cells_zero (w := w) (E := E) (ob := ob) hz
    obtain ⟨arr', ha, hca⟩ := sound_fill (pv := pv.toList) (by simpa using hp) (fun k i m hk => by
      obtain ⟨v, hv, hrv⟩ := hr k i m hk
      exact ⟨v, by rw [Array.getElem?_toList]; exact hv, hrv⟩) hc hf
    refine ⟨.agg arr', ?_, cells_agg hca⟩
    unfold isAggT at hagg
    split at hagg
    · rename_i fs hu
      have hpl : placeM P t = fun k => (fs.map fun f => (f.offset, szT P f.type))[k]? := by
        funext k
        simp [placeM, hu]
      rw [hpl] at ha
      simp only [Instr.build, Sem.run_bind, run_zero hi hiz, Result.andThen_ok, run_underlying hu, run_places (fun k f hk => hok fs k f hu hk), ha]
      rfl
    · rename_i n e hu
      obtain ⟨d, hd⟩ := under_of_ok (hoka n e hu)
      obtain ⟨ti, hti⟩ := info_of_under hd
      have hpl : placeM P t = fun k => some (k * szT P e, szT P e) := by
        funext k
        simp [placeM, hu]
      rw [hpl] at ha
      simp only [Instr.build, Sem.run_bind, run_zero hi hiz, Result.andThen_ok, run_underlying hu, run_size hti, ha]
      rfl
    · simp at hagg
  · simp at h

end Go.Av

/- Slices that are made, cut and converted. -/
set_option linter.unusedVariables false
set_option linter.unusedSimpArgs false
namespace Go.Av
open Go

variable {P : Program} {w : World} {E : Env} {ob : List Ob}

theorem step_stable {w' : World} (hh : HeapOK w E ob) (o : Obj) (h1 : w'.os = w.os) (h2 : w'.tape = w.tape) (h3 : w'.output = w.output) (h4 : w'.heap = w.heap.push o) :
    Step w E ob w' { E with st := fun b => E.st b ∨ b = w.heap.size } ob := by
  have hold : ∀ b, b < w.heap.size → w'.heap[b]? = w.heap[b]? := fun b hb => by rw [h4, Array.getElem?_push, if_neg (by omega)]
  have hsz : w'.heap.size = w.heap.size + 1 := by rw [h4]; simp
  have hext : Ext w E ob w' { E with st := fun b => E.st b ∨ b = w.heap.size } ob :=
    ⟨fun b hb => ⟨.inl hb, hold b (hh.stb b hb)⟩, fun i o h => ⟨o, h, Nat.le_refl _, rfl, fun _ => rfl, fun _ => ⟨rfl, rfl, rfl, rfl⟩⟩⟩
  refine ⟨⟨fun i o ho => (hh.obj i o ho).keep hext rfl rfl (fun hn => hold _ (hh.own i o ho hn).2), hh.inj, fun b hb => ?_, fun i o ho hn => ?_, hh.gl.ext hext.st⟩, hext, ⟨h1, h2, h3, by omega, fun b hb _ => hold b hb, fun b hb => .inl hb, fun b hb => ?_, fun i o ho hn => .inl ⟨i, o, ho, hn, rfl⟩⟩⟩
  · rcases hb with hb | rfl
    · have := hh.stb b hb; omega
    · omega
  · obtain ⟨a, b⟩ := hh.own i o ho hn
    refine ⟨fun hs => ?_, show E.blk i < _ by omega⟩
    rcases hs with hs | hs
    · exact a hs
    · have hs' : E.blk i = w.heap.size := hs
      omega
  · rcases hb with hb | rfl
    · exact .inl hb
    · exact .inr (.inr (Nat.le_refl _))

theorem length_zeros (n : Nat) (zs : List M) : (zerosM n zs).length = n * zs.length := by
  simp [zerosM]
theorem getElem?_zeros (n : Nat) (zs : List M) (j : Nat) (h : j < n * zs.length) : (zerosM n zs)[j]? = zs[j % zs.length]? := by
  unfold zerosM
  induction n generalizing j with
  | zero => simp at h
  | succ n ih =>
    rw [List.replicate_succ, List.flatten_cons]
    by_cases hj : j < zs.length
    · rw [List.getElem?_append_left hj, Nat.mod_eq_of_lt hj]
    · rw [Nat.succ_mul] at h
      rw [List.getElem?_append_right (by omega), ih _ (by omega), Nat.mod_eq_sub_mod (a := j) (by omega)]

theorem cells_zeros {zs : List M} {z : Value} {k n : Nat} (hc : Cells w E ob zs z.cells) (hk : k ≤ n) (def_ : n * zs.length = 0 → True) : Row w E ob (zerosM k zs) ((Array.range (n * zs.length)).map (fun i => z.cells[i % z.cells.size]!)) := by
  intro j m hm
  obtain ⟨h1, h2, h3⟩ := hc
  have hj : j < k * zs.length := by rw [← length_zeros]; exact (List.getElem?_eq_some_iff.1 hm).1
  have hj2 : j < n * zs.length := Nat.lt_of_lt_of_le hj (Nat.mul_le_mul_right _ hk)
  rw [getElem?_zeros _ _ _ hj] at hm
  obtain ⟨y, hy, q1, q2⟩ := h3 _ m hm
  refine ⟨y, ?_, q1, q2⟩
  have hlt := (Array.getElem?_eq_some_iff.1 hy).1
  simp [hj2, h1]
  rw [getElem!_def, hy]

theorem run_zeros {t : TypeId} {i : TypeInfo} {z : Value} (hi : P.info? t = some i) (hz : i.zero = some z) (n : Nat) (w : World) :
    ∃ zero : Array Value, (if n = 0 then pure #[] else do pure (← zeroValue t).cells : Sem (Array Value)).run P w = .ok zero w ∧ (0 < n → zero = z.cells) := by
  by_cases hn : n = 0
  · exact ⟨#[], by simp [hn], fun h => by omega⟩
  · exact ⟨z.cells, by simp [hn, run_zero hi hz], fun _ => rfl⟩

theorem fillM_len (place : Nat → Option (Nat × Nat)) : ∀ (parts : List (Nat × M)) (cells ms : List M), fillM place cells parts = some ms → ms.length = cells.length := by
  intro parts
  induction parts with
  | nil => intro cells ms h; obtain rfl := Option.some.inj h; rfl
  | cons p r ih =>
    obtain ⟨i, m⟩ := p
    intro cells ms h
    simp only [fillM] at h
    split at h
    · obtain ⟨h1, h⟩ := of_ite h
      obtain ⟨h2, h⟩ := of_ite h
      rw [ih _ _ h, length_lay _ _ _ h2]
    · simp at h
theorem sound_buildSlice (hh : HeapOK w E ob) {t : TypeId} {len : Nat} {parts : List (Nat × M)} {pv : Array (Nat × Value)} {m : M} {ob' : List Ob}
    (hp : pv.size = parts.length) (hr : ∀ (k : Nat) i m, parts[k]? = some (i, m) → ∃ v, pv[k]? = some (i, v) ∧ RepM w E ob m v) (h : buildSliceM P ob t len parts = some (m, ob')) :
    ∃ v w' E', (Instr.buildSlice t len pv).run P w = .ok v w' ∧ RepM w' E' ob' m v ∧ Step w E ob w' E' ob' := by
  unfold buildSliceM at h
  split at h
  · rename_i e hu
    obtain ⟨hle, h⟩ := of_ite h
    split at h
    · rename_i zs hz
      obtain ⟨hzl, h⟩ := of_ite h
      split at h
      · rename_i ms hf
        have hml := fillM_len _ _ _ _ hf
        obtain ⟨i, z, hi, hiz, hc⟩ := cells_zero (w := w) (E := E) (ob := ob) hz
        have hcc := hc
        obtain ⟨c1, c2, c3⟩ := hcc
        obtain ⟨zero, hzr, hze⟩ := run_zeros (P := P) hi hiz (len * szT P e) w
        have hsame : (Array.range (len * szT P e)).map (fun i => zero[i % zero.size]!) = (Array.range (len * zs.length)).map (fun i => z.cells[i % z.cells.size]!) := by
          rw [hzl]
          by_cases h0 : 0 < len * szT P e
          · rw [hze h0]
          · have : len * szT P e = 0 := by omega
            rw [this]; simp
        have hcells : Cells w E ob (zerosM len zs) ((Array.range (len * szT P e)).map (fun i => zero[i % zero.size]!)) := by
          refine ⟨by simp [length_zeros, hzl], ?_, by rw [hsame]; exact cells_zeros hc (Nat.le_refl _) (fun _ => trivial)⟩
          rw [hsame]
          intro v hv
          simp only [Array.toList_map, Array.toList_range, List.mem_map, List.mem_range] at hv
          obtain ⟨j, hj, rfl⟩ := hv
          have hpos : 0 < zs.length := by
            rcases Nat.eq_zero_or_pos zs.length with h0 | h0
            · rw [h0] at hj; simp at hj
            · exact h0
          have hlt : j % z.cells.size < z.cells.size := Nat.mod_lt _ (by omega)
          rw [getElem!_def, Array.getElem?_eq_getElem hlt]
          exact c2 _ (by simp)
        obtain ⟨arr', ha, d1, d2, d3⟩ := sound_fill (pv := pv.toList) (by simpa using hp) (fun k i m hk => by
          obtain ⟨v, hv, hrv⟩ := hr k i m hk
          exact ⟨v, by rw [Array.getElem?_toList]; exact hv, hrv⟩) hcells hf
        have hrun : (Instr.buildSlice t len pv).run P w = .ok (.slice (some ⟨w.heap.size, 0, none⟩) len len) { w with heap := w.heap.push (.cells arr' e) } := by
          simp only [Instr.buildSlice, Sem.run_bind, run_underlying hu, Result.andThen_ok, run_size hi]
          rw [if_neg (by omega)]
          have hzr' := hzr
          split at hzr'
          · rename_i h0
            rw [if_pos h0]
            simp only [Sem.run_pure, Result.ok.injEq, and_true] at hzr'
            subst hzr'
            simp only [pure_bind, Sem.run_bind, Sem.run_pure, Result.andThen_ok]
            simp [h0] at ha
            simp [h0, ha, newRow]
          · rename_i h0
            rw [if_neg h0]
            simp only [Sem.run_bind, run_zero hi hiz, Result.andThen_ok, Sem.run_pure, Result.ok.injEq, and_true] at hzr'
            subst hzr'
            simp [run_zero hi hiz, ha, newRow]
        simp only [Option.some.injEq] at h
        cases hdn : downs ms with
        | some cs =>
          rw [hdn] at h
          simp only [rowM, Prod.mk.injEq] at h
          obtain ⟨rfl, rfl⟩ := h
          have hstep := step_stable (w' := { w with heap := w.heap.push (.cells arr' e) }) hh (.cells arr' e) rfl rfl rfl rfl
          refine ⟨.slice (some ⟨w.heap.size, 0, none⟩) len len, _, _, hrun, ?_, hstep⟩
          obtain rfl := up_downs hdn
          refine .c (.sl cs len true ⟨w.heap.size, 0, none⟩ len (fun j => arr'.getD j undef) (fun _ => rfl) (Nat.le_refl _) (fun j c hc => ?_) (fun j c hc => ?_))
          · have hm : (up cs)[j]? = some (.c c) := by simp [up, hc]
            obtain ⟨y, hy, q1, q2⟩ := d3 j _ hm
            refine ⟨.inr rfl, ?_, ?_⟩
            · simp [Array.getD_eq_getD_getElem?, hy]; exact q1
            · rw [add_obj]
              simp [World.cell?, Array.getD_eq_getD_getElem?, hy]
          · have hm : (up cs)[j]? = some (.c c) := by simp [up, hc]
            obtain ⟨y, hy, q1, q2⟩ := d3 j _ hm
            rw [Array.getD_eq_getD_getElem?, hy]
            have := q2.keep hstep.ext
            cases this with
            | c h => exact h
        | none =>
          rw [hdn] at h
          simp only [rowM, Prod.mk.injEq] at h
          obtain ⟨rfl, rfl⟩ := h
          have hstep := step_new (w' := { w with heap := w.heap.push (.cells arr' e) }) hh e (szT P e) ms arr' d3 0 0 (fun j _ => by omega) rfl rfl rfl rfl
          refine ⟨.slice (some ⟨w.heap.size, 0, none⟩) len len, _, _, hrun, ?_, hstep⟩
          refine .ms ⟨rfl, { ty := e, sz := szT P e, nil := false, gen := 0, cs := ms }, by unfold newOb; rw [getElem?_snoc, if_neg (by omega), if_pos rfl], rfl, Nat.le_refl _, fun _ => ⟨fun hf => by simp at hf, fun _ => ⟨len, by simp only [upd_same], by omega, ?_⟩⟩⟩
          have hz2 : (zerosM len zs).length = len * szT P e := by rw [length_zeros, hzl]
          simp only [upd_same]
          omega
      · simp at h
    · simp at h
  · simp at h

theorem sound_makeSlice (hh : HeapOK w E ob) {t : TypeId} {l c m : M} {a b : Value} {ob' : List Ob} (hl : RepM w E ob l a) (hc : RepM w E ob c b) (h : makeSliceM P ob t l c = some (m, ob')) :
    ∃ v w' E', (Instr.makeSlice t a b).run P w = .ok v w' ∧ RepM w' E' ob' m v ∧ Step w E ob w' E' ob' := by
  unfold makeSliceM at h
  split at h
  · rename_i e n k hu hn hk
    obtain ⟨kl, rfl⟩ := asI_rep hl hn
    obtain ⟨kc, rfl⟩ := asI_rep hc hk
    obtain ⟨h0, h⟩ := of_ite h
    obtain ⟨h1, h⟩ := of_ite h
    obtain ⟨h2, h⟩ := of_ite h
    obtain ⟨h3, h⟩ := of_ite h
    split at h
    · rename_i zs hz
      obtain ⟨hzl, h⟩ := of_ite h
      simp only [Option.some.injEq, Prod.mk.injEq] at h
      obtain ⟨rfl, rfl⟩ := h
      obtain ⟨i, z, hi, hiz, hcz⟩ := cells_zero (w := w) (E := E) (ob := ob) hz
      have hbytes : P.bytesOf e = i.bytes := by simp [Program.bytesOf, hi]
      rw [hbytes] at h2
      obtain ⟨zero, hzr, hze⟩ := run_zeros (P := P) hi hiz (k.toNat * szT P e) w
      have hsame : (Array.range (k.toNat * szT P e)).map (fun i => zero[i % zero.size]!) = (Array.range (k.toNat * zs.length)).map (fun i => z.cells[i % z.cells.size]!) := by
        rw [hzl]
        by_cases h0 : 0 < k.toNat * szT P e
        · rw [hze h0]
        · have : k.toNat * szT P e = 0 := by omega
          rw [this]; simp
      have w64 : ∀ q : Int, 0 ≤ q → q ≤ 281474976710656 → IntKind.i64.wrap q = q := fun q a b => IntWalk.i64_in _ (by omega)
      have hstep := step_new (w' := { w with heap := w.heap.push (.cells ((Array.range (k.toNat * szT P e)).map (fun i => zero[i % zero.size]!)) e) }) hh e (szT P e) (zerosM n.toNat zs) ((Array.range (k.toNat * szT P e)).map (fun i => zero[i % zero.size]!)) (by
        rw [hsame]; exact cells_zeros hcz (by omega) (fun _ => trivial)) 0 0 (fun j _ => by omega) rfl rfl rfl rfl
      refine ⟨.slice (some ⟨w.heap.size, 0, none⟩) n.toNat k.toNat, _, _, ?_, ?_, hstep⟩
      · have e1 : ¬ (k < 0) := by omega
        have e2 : ¬ (281474976710656 < (i.bytes : Int) * k) := by rw [Int.mul_comm]; omega
        have e3 : ¬ (n < 0) := by omega
        have e4 : ¬ (k < n) := by omega
        have ew1 := w64 n (by omega) (by omega)
        have ew2 := w64 k (by omega) (by omega)
        have etl : (if k.toNat * szT P e = 0 then pure #[] else do pure (← zeroValue e).cells : Sem (Array Value)).run P w = .ok zero w := hzr
        simp [Instr.makeSlice, run_underlying hu, asInt, asIntOf, typeInfo, hi, ew1, ew2, e1, e2, e3, e4, run_size hi, newRow]
        split at etl
        · rename_i hq
          rw [if_pos hq]
          simp only [Sem.run_pure, Result.ok.injEq, and_true] at etl
          subst etl
          simp [newRow]
        · rename_i hq
          rw [if_neg hq]
          simp only [Sem.run_bind, run_zero hi hiz, Result.andThen_ok, Sem.run_pure, Result.ok.injEq, and_true] at etl
          subst etl
          simp [run_zero hi hiz, newRow]
      · refine .ms ⟨rfl, { ty := e, sz := szT P e, nil := false, gen := 0, cs := zerosM n.toNat zs }, by unfold newOb; rw [getElem?_snoc, if_neg (by omega), if_pos rfl], rfl, Nat.le_refl _, fun _ => ⟨fun hf => by simp at hf, fun _ => ⟨k.toNat, by simp only [upd_same], by omega, ?_⟩⟩⟩
        simp [upd_same]
    · simp at h
  · simp at h

end Go.Av

/- Cuts and conversions. -/
set_option linter.unusedVariables false
set_option linter.unusedSimpArgs false
namespace Go.Av
open Go

variable {P : Program} {w : World} {E : Env} {ob : List Ob}

def RepO (w : World) (E : Env) (ob : List Ob) : Option M → Option Value → Prop
  | none, none => True
  | some m, some v => RepM w E ob m v
  | _, _ => False

theorem run_bound {m : Option M} {v : Option Value} {d i : Int} (hr : RepO w E ob m v) (h : boundM m d = some i) (hne : m ≠ none) : ∃ k, v = some (.int k i) := by
  cases m with
  | none => exact absurd rfl hne
  | some m =>
    cases v with
    | none => exact hr.elim
    | some v =>
      obtain ⟨k, rfl⟩ := asI_rep hr h
      exact ⟨k, rfl⟩

theorem run_sliceBound (k : IntKind) (i : Int) (y : Nat) (code : BoundsCode) (h0 : 0 ≤ i) (h1 : i ≤ y) : (Instr.sliceBound (.int k i) y code).run P w = .ok i.toNat w := by
  simp [Instr.sliceBound, asIntOf, h0, h1]

theorem run_bounds {isS : Bool} {len cap : Nat} {lo hi mx : Option M} {vl vh vm : Option Value} {l h : Int} (hl : RepO w E ob lo vl) (hh : RepO w E ob hi vh) (hm : RepO w E ob mx vm) (el : boundM lo 0 = some l) (eh : boundM hi len = some h)
    (h0 : 0 ≤ l) (h1 : l ≤ h) (em : ∀ d, ∃ m, boundM mx d = some m) (hmx : mx.isSome = true → hi.isSome = true) (h2 : ∀ m, boundM mx cap = some m → h ≤ m ∧ m ≤ cap) :
    ∃ m, boundM mx cap = some m ∧ (Instr.sliceBounds isS len cap vl vh vm).run P w = .ok (l.toNat, h.toNat, m.toNat) w := by
  obtain ⟨m, hm0⟩ := em cap
  obtain ⟨h3, h4⟩ := h2 m hm0
  refine ⟨m, hm0, ?_⟩
  have split3 : ∀ {m : Option M} {v : Option Value} {d i : Int}, RepO w E ob m v → boundM m d = some i → (m = none ∧ v = none ∧ i = d) ∨ (m.isSome = true ∧ ∃ k, v = some (.int k i)) := by
    intro m v d i hr hb
    cases m with
    | none =>
      cases v with
      | none => exact .inl ⟨rfl, rfl, (Option.some.inj hb).symm⟩
      | some _ => exact hr.elim
    | some q => exact .inr ⟨rfl, run_bound hr hb (by simp)⟩
  have hlo := fun c => fun k => run_sliceBound (P := P) (w := w) k l h.toNat c h0 (by omega)
  have hhi := fun c => fun k => run_sliceBound (P := P) (w := w) k h cap c (by omega) (by omega)
  have hhm := fun c => fun k => run_sliceBound (P := P) (w := w) k h m.toNat c (by omega) (by omega)
  have hmm := fun c => fun k => run_sliceBound (P := P) (w := w) k m cap c (by omega) (by omega)
  rcases split3 hm hm0 with ⟨rfl, rfl, rfl⟩ | ⟨hms, km, rfl⟩
  · rcases split3 hh eh with ⟨rfl, rfl, rfl⟩ | ⟨_, kh, rfl⟩
    · rcases split3 hl el with ⟨rfl, rfl, rfl⟩ | ⟨_, kl, rfl⟩
      · simp [Instr.sliceBounds]
      · simp at hlo
        simp [Instr.sliceBounds, hlo]
    · rcases split3 hl el with ⟨rfl, rfl, rfl⟩ | ⟨_, kl, rfl⟩
      · simp [Instr.sliceBounds, hhi]
      · simp [Instr.sliceBounds, hhi, hlo]
  · rcases split3 hh eh with ⟨rfl, rfl, rfl⟩ | ⟨_, kh, rfl⟩
    · simp [hms] at hmx
    · rcases split3 hl el with ⟨rfl, rfl, rfl⟩ | ⟨_, kl, rfl⟩
      · simp [Instr.sliceBounds, hhm, hmm]
      · simp [Instr.sliceBounds, hhm, hmm, hlo]

theorem boundM_any {mx : Option M} {d m : Int} (h : boundM mx d = some m) : ∀ d', ∃ m', boundM mx d' = some m' := by
  intro d'
  cases mx with
  | none => exact ⟨d', rfl⟩
  | some x => exact ⟨m, h⟩

theorem sound_slice (hhp : HeapOK w E ob) {t : TypeId} {x m : M} {y : Value} {lo hi mx : Option M} {vl vh vm : Option Value} (hx : RepM w E ob x y) (hl : RepO w E ob lo vl) (hh : RepO w E ob hi vh) (hm : RepO w E ob mx vm) (hmx : mx.isSome = true → hi.isSome = true)
    (hoks : ∀ e, P.underlying t = some (.slice e) → okT P e = true) (hoka : ∀ n e, P.underlying t = some (.array n e) → okT P e = true) (h : sliceM P ob t x lo hi mx = some m) :
    ∃ v, (Instr.sliceAt t y vl vh vm).run P w = .ok v w ∧ RepM w E ob m v := by
  unfold sliceM at h
  split at h
  · rename_i hu
    split at h
    · rename_i s
      split at h
      · rename_i l h' el eh
        obtain ⟨h0, h⟩ := of_ite h
        obtain ⟨h1, h⟩ := of_ite h
        obtain ⟨h2, h⟩ := of_ite h
        obtain rfl := Option.some.inj h
        cases vm with
        | some _ => exact hm.elim
        | none =>
          obtain ⟨m, hm1, hrun⟩ := run_bounds (P := P) (isS := false) (cap := s.size) (mx := none) hl hh hm el eh h0 h1 (fun d => ⟨d, rfl⟩) (by simp) (fun m hm => by obtain rfl := Option.some.inj hm; exact ⟨h2, Int.le_refl _⟩)
          cases hx with
          | c hc =>
            cases hc
            refine ⟨_, ?_, .c (.v _)⟩
            simp [Instr.sliceAt, run_underlying hu, Instr.slice, hrun]
      · simp at h
    · simp at h
  · rename_i e hu
    obtain ⟨d, hd⟩ := under_of_ok (hoks e hu)
    obtain ⟨ti, hti⟩ := info_of_under hd
    split at h
    · rename_i cs n full
      split at h
      · rename_i l h' m' el eh em
        obtain ⟨h0, h⟩ := of_ite h
        obtain ⟨h1, h⟩ := of_ite h
        obtain ⟨h2, h⟩ := of_ite h
        obtain ⟨h3, h⟩ := of_ite h
        obtain ⟨h4, h⟩ := of_ite h
        obtain rfl := Option.some.inj h
        cases hx with
        | c hc =>
          cases hc with
          | nl full =>
            obtain ⟨m, hm1, hrun⟩ := run_bounds (P := P) (isS := true) (len := 0) (cap := 0) hl hh hm el eh h0 h1 (boundM_any em) hmx (fun m hm => by
              cases mx with
              | none =>
                obtain rfl := Option.some.inj hm
                obtain rfl := Option.some.inj em
                exact ⟨h2, h3⟩
              | some q =>
                have : m = m' := Option.some.inj (hm.symm.trans em)
                subst this
                exact ⟨h2, h3⟩)
            have e1 : l = h' := by have : (0 : Int) = ((0 : Nat) : Int) := rfl; omega
            have e2 : l.toNat = 0 := by omega
            have e3 : h'.toNat = 0 := by omega
            have e5 : m.toNat = 0 := by
              cases mx with
              | none =>
                obtain rfl := Option.some.inj hm1
                rfl
              | some q =>
                have : m = m' := Option.some.inj (hm1.symm.trans em)
                omega
            rw [if_pos e1]
            refine ⟨.slice none 0 0, ?_, .c (.nl false)⟩
            simp [Instr.sliceAt, run_underlying hu, Instr.slice, hrun, run_size hti, e2, e3, e5]
          | sl _ _ _ ad cap ys hf hn c1 c2 =>
            obtain ⟨m, hm1, hrun⟩ := run_bounds (P := P) (isS := true) (cap := cap) hl hh hm el eh h0 h1 (boundM_any em) hmx (fun m hm => by
              cases mx with
              | none =>
                obtain rfl := Option.some.inj hm
                obtain rfl := Option.some.inj em
                omega
              | some q =>
                have : m = m' := Option.some.inj (hm.symm.trans em)
                omega)
            have hval : (Instr.sliceAt t (.slice (some ad) n cap) vl vh vm).run P w = .ok (.slice (if m.toNat = l.toNat then some ad else some (ad.add (l.toNat * szT P e))) (h'.toNat - l.toNat) (m.toNat - l.toNat)) w := by
              simp [Instr.sliceAt, run_underlying hu, Instr.slice, hrun, run_size hti]
            refine ⟨_, hval, ?_⟩
            by_cases e1 : l = h'
            · rw [if_pos e1]
              subst e1
              rw [Nat.sub_self]
              by_cases e2 : m.toNat = l.toNat
              · rw [if_pos e2]
                exact .c (.sl [] 0 false ad _ (fun _ => undef) (by simp) (Nat.zero_le _) (by simp) (by simp))
              · rw [if_neg e2]
                exact .c (.sl [] 0 false _ _ (fun _ => undef) (by simp) (Nat.zero_le _) (by simp) (by simp))
            · rw [if_neg e1]
              have hml : h' ≤ m := by
                cases mx with
                | none => obtain rfl := Option.some.inj hm1; omega
                | some q => have : m = m' := Option.some.inj (hm1.symm.trans em); omega
              have e4 : ¬ (m.toNat = l.toNat) := by omega
              rw [if_neg e4]
              have elen : h'.toNat - l.toNat = (h' - l).toNat := by omega
              rw [elen]
              refine .c (.sl _ _ _ (ad.add (l.toNat * szT P e)) (m.toNat - l.toNat) (fun j => ys (l.toNat * szT P e + j)) (fun hfull => ?_) (by omega) (fun j c hc => ?_) (fun j c hc => ?_))
              · cases mx with
                | none =>
                  obtain rfl := Option.some.inj hm1
                  simp at hfull
                  have := hf hfull.1
                  omega
                | some q =>
                  have e3 : m = m' := Option.some.inj (hm1.symm.trans em)
                  simp at hfull
                  omega
              · rw [getElem?_take_drop] at hc
                split at hc
                · obtain ⟨p, q, r⟩ := c1 _ c hc
                  exact ⟨by rw [add_block]; exact p, q, by rw [add_add]; exact r⟩
                · simp at hc
              · rw [getElem?_take_drop] at hc
                split at hc
                · exact c2 _ c hc
                · simp at hc
      · simp at h
    · split at h
      · rename_i l h' el eh
        obtain ⟨hl0, h⟩ := of_ite h
        obtain ⟨hh0, h⟩ := of_ite h
        subst hl0 hh0
        obtain rfl := Option.some.inj h
        cases vm with
        | some _ => exact hm.elim
        | none =>
          cases hx with
          | c hc =>
            cases hc
            obtain ⟨m, hm1, hrun⟩ := run_bounds (P := P) (isS := true) (len := 0) (cap := 0) (mx := none) hl hh hm el eh (Int.le_refl _) (Int.le_refl _) (fun d => ⟨d, rfl⟩) (by simp) (fun m hm => by obtain rfl := Option.some.inj hm; omega)
            obtain rfl := Option.some.inj hm1
            refine ⟨_, ?_, .c (.v _)⟩
            simp [Instr.sliceAt, run_underlying hu, Instr.slice, hrun, run_size hti]
      · simp at h
    · rename_i i g off n
      split at h
      · rename_i o l h' hlv el eh
        obtain ⟨h0, h⟩ := of_ite h
        obtain ⟨h1, h⟩ := of_ite h
        obtain ⟨h2, h⟩ := of_ite h
        obtain ⟨hsz, h⟩ := of_ite h
        cases vm with
        | some _ => exact hm.elim
        | none =>
          cases hx with
          | ms hq =>
            obtain ⟨ho, hit, hg, r1, r2⟩ := live_ok hq hlv
            cases hnil : o.nil with
            | true =>
              rw [hnil] at h
              obtain rfl := Option.some.inj h
              obtain ⟨rfl, rfl, rfl⟩ := r1 hnil
              obtain ⟨m, hm1, hrun⟩ := run_bounds (P := P) (isS := true) (len := 0) (cap := 0) (mx := none) hl hh hm el eh h0 h1 (fun d => ⟨d, rfl⟩) (by simp) (fun m hm => by obtain rfl := Option.some.inj hm; omega)
              obtain rfl := Option.some.inj hm1
              refine ⟨.slice none 0 0, ?_, .c (.v _)⟩
              have e1 : l.toNat = 0 := by omega
              have e2 : h'.toNat = 0 := by omega
              simp [Instr.sliceAt, run_underlying hu, Instr.slice, hrun, run_size hti, e1, e2]
            | false =>
              rw [hnil] at h
              simp only [Bool.false_eq_true, if_false] at h
              obtain rfl := Option.some.inj h
              obtain ⟨cap, rfl, q1, q2⟩ := r2 hnil
              obtain ⟨m, hm1, hrun⟩ := run_bounds (P := P) (isS := true) (cap := cap) (mx := none) hl hh hm el eh h0 h1 (fun d => ⟨d, rfl⟩) (by simp) (fun m hm => by obtain rfl := Option.some.inj hm; omega)
              obtain rfl := Option.some.inj hm1
              have hval : (Instr.sliceAt t (.slice (some ⟨E.blk i, off, none⟩) n cap) vl vh none).run P w = .ok (.slice (if cap = l.toNat then some ⟨E.blk i, off, none⟩ else some ⟨E.blk i, off + l.toNat * szT P e, none⟩) (h'.toNat - l.toNat) (cap - l.toNat)) w := by
                simp [Instr.sliceAt, run_underlying hu, Instr.slice, hrun, run_size hti, add_obj]
              refine ⟨_, hval, ?_⟩
              by_cases e1 : l = h'
              · rw [if_pos e1]
                subst e1
                rw [Nat.sub_self]
                by_cases e2 : cap = l.toNat
                · rw [if_pos e2]
                  exact .c (.sl [] 0 false _ _ (fun _ => undef) (by simp) (Nat.zero_le _) (by simp) (by simp))
                · rw [if_neg e2]
                  exact .c (.sl [] 0 false _ _ (fun _ => undef) (by simp) (Nat.zero_le _) (by simp) (by simp))
              · rw [if_neg e1, if_neg (by omega)]
                have elen : h'.toNat - l.toNat = (h' - l).toNat := by omega
                rw [elen]
                refine .ms ⟨rfl, o, ho, hit, by omega, fun _ => ⟨fun hf => by simp [hnil] at hf, fun _ => ⟨cap - l.toNat, rfl, by omega, ?_⟩⟩⟩
                have e5 : l.toNat * szT P e + (cap - l.toNat) * szT P e = cap * szT P e := by
                  rw [← Nat.add_mul]; congr 1; omega
                rw [hsz] at q2 ⊢
                omega
      · simp at h
    · simp at h
  · rename_i k e hu
    obtain ⟨d, hd⟩ := under_of_ok (hoka k e hu)
    obtain ⟨ti, hti⟩ := info_of_under hd
    split at h
    · rename_i i g off
      split at h
      · rename_i o l h' m' ho el eh em
        obtain ⟨h0, h⟩ := of_ite h
        obtain ⟨h1, h⟩ := of_ite h
        obtain ⟨h2, h⟩ := of_ite h
        obtain ⟨h3, h⟩ := of_ite h
        obtain ⟨hsz, h⟩ := of_ite h
        obtain ⟨hle, h⟩ := of_ite h
        obtain rfl := Option.some.inj h
        cases hx with
        | mp hp =>
          obtain ⟨hob, hnil, hit, hgen, rfl, arr, lo', hi', hblk, hfz, hasz, hrow⟩ := at_obj hhp hp ho
          obtain ⟨m, hm1, hrun⟩ := run_bounds (P := P) (isS := false) (cap := k) hl hh hm el eh h0 (by omega) (boundM_any em) hmx (fun m hm => by
            have : m = m' := Option.some.inj (hm.symm.trans em)
            omega)
          have e3 : m = m' := Option.some.inj (hm1.symm.trans em)
          subst e3
          have hlen := hrow.len
          have elen : h'.toNat - l.toNat = (h' - l).toNat := by omega
          refine ⟨.slice (some ⟨E.blk i, off + l.toNat * szT P e, none⟩) (h' - l).toNat (m.toNat - l.toNat), ?_, .ms ⟨rfl, o, hob, hit, by omega, fun _ => ⟨fun hf => by simp [hnil] at hf, fun _ => ⟨m.toNat - l.toNat, rfl, by omega, ?_⟩⟩⟩⟩
          · simp only [Instr.sliceAt, Sem.run_bind, run_underlying hu, Result.andThen_ok, Instr.sureAddr, Sem.run_pure, hrun, run_size hti]
            rw [if_neg (by omega), add_obj, elen]
          · have e5 : l.toNat * szT P e + (m.toNat - l.toNat) * szT P e = m.toNat * szT P e := by
              rw [← Nat.add_mul]; congr 1; omega
            have e6 : m.toNat * szT P e ≤ k * szT P e := Nat.mul_le_mul_right _ (by omega)
            rw [hsz]
            omega
      · simp at h
    · simp at h
  · simp at h

end Go.Av

/- Conversions; what a tuple holds. -/
set_option linter.unusedVariables false
set_option linter.unusedSimpArgs false
namespace Go.Av
open Go

variable {P : Program} {w : World} {E : Env} {ob : List Ob}

theorem bytes_nums {ns : List M} {bs : List UInt8} {vs : List Value} (h : bytesM ns = some bs) (hl : ns.length = vs.length) (hr : Row w E ob ns vs.toArray) : ∃ xs : List Int, vs = xs.map (Value.int .u8) ∧ strOfNums xs = ⟨bs.toArray⟩ := by
  induction ns generalizing bs vs with
  | nil =>
    obtain rfl := Option.some.inj h
    obtain rfl : vs = [] := List.eq_nil_of_length_eq_zero (by simpa using hl.symm)
    exact ⟨[], rfl, rfl⟩
  | cons m ns ih =>
    unfold bytesM at h
    split at h
    · simp at *
    · rename_i n r he
      simp only [List.cons.injEq] at he
      obtain ⟨rfl, rfl⟩ := he
      obtain ⟨bs', hbs, rfl⟩ := Option.map_eq_some_iff.1 h
      cases vs with
      | nil => simp at hl
      | cons v vs =>
        obtain ⟨y, hy, _, hry⟩ := hr 0 _ rfl
        simp at hy
        subst hy
        obtain ⟨xs, rfl, hx⟩ := ih hbs (by simpa using hl) (fun j m hm => by
          obtain ⟨y, hy, q⟩ := hr (j + 1) m (by simpa using hm)
          exact ⟨y, by simpa using hy, q⟩)
        cases hry with
        | c hc =>
          cases hc
          refine ⟨n :: xs, rfl, ?_⟩
          unfold strOfNums at hx ⊢
          simp only [ByteArray.mk.injEq] at hx ⊢
          simp only [List.map_cons]
          have : (xs.map fun n => UInt8.ofNat n.toNat) = bs' := by
            have := congrArg Array.toList hx
            simpa using this
          rw [this]
    · simp at h

theorem news_form (hh : HeapOK w E ob) {sz : Nat} {x : M} {y : Value} {r : List M × Nat} (hx : RepM w E ob x y) (h : newsM ob sz x = some r) : (∃ s, x = .c (.v (.string s))) ∨ ∃ b n c, y = .slice b n c := by
  unfold newsM at h
  split at h
  · cases hx with
    | c hc => cases hc; exact .inr ⟨_, _, _, rfl⟩
  · exact .inl ⟨_, rfl⟩
  · cases hx with
    | c hc => cases hc <;> exact .inr ⟨_, _, _, rfl⟩
  · split at h
    · rename_i o hl
      cases hx with
      | ms hq =>
        obtain ⟨ho, hit, hg, r1, r2⟩ := live_ok hq hl
        cases hn : o.nil with
        | true => obtain ⟨rfl, _, _⟩ := r1 hn; exact .inr ⟨_, _, _, rfl⟩
        | false => obtain ⟨cap, rfl, _⟩ := r2 hn; exact .inr ⟨_, _, _, rfl⟩
    · simp at h
  · simp at h

theorem lies_head {e : TypeId} {count : Nat} (hs : szT P e ≠ 0) (hc : 1 ≤ count) : liesAt P P.depth e count 0 e 1 = true := by
  have hd : P.depth = (2 * (P.types.size + Made.depth) + 1) + 1 := rfl
  rw [hd]
  simp only [liesAt, Bool.or_eq_true]
  left
  rw [hd]
  unfold szT at hs
  simp [rowAt, hs, hc, sameLayout]
theorem rowAt_count (fits : TypeId → Bool) (d : Nat) (e : TypeId) {count : Nat} (hc : 1 ≤ count) (h : rowAt P fits d e 1 0 1 = true) : rowAt P fits d e count 0 1 = true := by
  cases d with
  | zero => simp [rowAt] at h
  | succ d =>
    unfold rowAt at h ⊢
    simp only [Nat.zero_div, Nat.zero_mod, Nat.zero_add] at h ⊢
    have e1 : decide (1 ≤ count) = true := decide_eq_true hc
    have e2 : decide (0 < count) = true := decide_eq_true (by omega)
    rw [e1, e2]
    simpa using h
theorem lies_first {e u : TypeId} {count : Nat} (hs : szT P e ≠ 0) (hc : 1 ≤ count) (h : e = u ∨ headOf P e u = true) : liesAt P P.depth e count 0 u 1 = true := by
  rcases h with rfl | h
  · exact lies_head hs hc
  · have hd : P.depth = (2 * (P.types.size + Made.depth) + 1) + 1 := rfl
    have h2 := rowAt_count _ _ _ hc h
    rw [hd] at h2 ⊢
    simp only [liesAt, Bool.or_eq_true]
    exact .inl (by rw [hd]; exact h2)
theorem sound_conv (hh : HeapOK w E ob) {src dst : TypeId} {x m : M} {y : Value} {ob' : List Ob} (hx : RepM w E ob x y) (h : convM P ob src dst x = some (m, ob')) :
    ∃ v w' E', (convert src dst y).run P w = .ok v w' ∧ RepM w' E' ob' m v ∧ Step w E ob w' E' ob' := by
  unfold convM at h
  split at h
  · rename_i d k k' n hs hd
    simp only [Option.some.injEq, Prod.mk.injEq] at h
    obtain ⟨rfl, rfl⟩ := h
    cases hx with
    | c hc =>
      cases hc
      refine ⟨_, w, E, ?_, .c (.v _), .refl hh⟩
      simp [convert, run_underlying hs, run_underlying hd, Conv.intToInt]
  · rename_i d s hs hd
    simp only [Option.some.injEq, Prod.mk.injEq] at h
    obtain ⟨rfl, rfl⟩ := h
    cases hx with
    | c hc =>
      cases hc
      refine ⟨_, w, E, ?_, .c (.v _), .refl hh⟩
      simp [convert, run_underlying hs, run_underlying hd]
  · rename_i e s hs hd
    split at h
    · rename_i he
      obtain ⟨hsz, h⟩ := of_ite h
      obtain ⟨hle, h⟩ := of_ite h
      simp only [Option.some.injEq, Prod.mk.injEq] at h
      obtain ⟨rfl, rfl⟩ := h
      cases hx with
      | c hc =>
        cases hc
        obtain ⟨cap, hcap, hge⟩ : ∃ cap, cap = s.size + w.tape w.drawn (.appendCap s.size 0 e) % (2 ^ 63 - s.size) ∧ s.size ≤ cap := ⟨_, rfl, Nat.le_add_right _ _⟩
        let arr : Array Value := (s.data.map fun b => .int .u8 b.toNat) ++ Array.replicate (cap - s.size) (.int .u8 0)
        have harr : arr.size = cap := by simp only [arr, Array.size_append, Array.size_map, Array.size_replicate]; have : s.data.size = s.size := rfl; omega
        let w' : World := { w with heap := w.heap.push (.cells arr e (cap, cap + 1)), drawn := w.drawn + 1 }
        have hstep := step_new (w' := w') hh e 1 (up (s.toList.map fun b => .v (.int .u8 (b.toNat : Int)))) arr (fun j m hm => by
          simp only [up, List.map_map, List.getElem?_map, toList_data] at hm
          obtain ⟨b, hb, rfl⟩ := Option.map_eq_some_iff.1 hm
          refine ⟨.int .u8 b.toNat, ?_, rfl, .c (.v _)⟩
          have hlt : j < s.data.size := by simpa using (List.getElem?_eq_some_iff.1 hb).1
          simp only [arr]
          rw [Array.getElem?_append_left (by simpa using hlt), Array.getElem?_map]
          rw [Array.getElem?_toList] at hb
          rw [hb]
          rfl) cap (cap + 1) (fun j hj => by omega) rfl rfl rfl rfl
        refine ⟨.slice (some ⟨w.heap.size, 0, none⟩) s.size cap, w', _, ?_, ?_, hstep⟩
        · simp only [convert, Sem.run_bind, run_underlying hs, run_underlying hd, Result.andThen_ok, run_underlying he]
          have hshape : ({ w with heap := w.heap.push (.cells arr e), drawn := w.drawn + 1 } : World).shape? w.heap.size = some (e, cap) := by
            simp [World.shape?, harr]
          have hfreeze : ({ w with heap := w.heap.push (.cells arr e), drawn := w.drawn + 1 } : World).freeze ⟨w.heap.size, cap, none⟩ 1 = w' := by
            simp only [World.freeze, w']
            rw [if_neg (by decide)]
            congr 1
            apply Array.ext_getElem?
            intro j
            rw [Array.getElem?_modify]
            by_cases e : w.heap.size = j
            · subst e
              simp
            · rw [if_neg e]
              simp only [Array.getElem?_push]
              rw [if_neg (by omega), if_neg (by omega)]
          simp only [Conv.stringToBytes, Sem.run_bind, run_choose, Question.forced, Bool.false_eq_true, if_false, Result.andThen_ok, Question.cut, newRow, run_newObj, Sem.run_pure, markStringish, run_shape]
          rw [← hcap]
          show _ = _
          have e1 : (s.data.map (fun b => Value.int .u8 (b.toNat : Int)) ++ Array.replicate (cap - s.size) (Value.int .u8 0)) = arr := rfl
          rw [e1]
          simp only [hshape]
          simp only [Sem.run_bind, run_freeze, Result.andThen_ok, hfreeze, Sem.run_pure]
        · refine .ms ⟨rfl, _, by unfold newOb; rw [getElem?_snoc, if_neg (by omega), if_pos rfl], rfl, Nat.le_refl _, fun _ => ⟨fun hf => by simp at hf, fun _ => ⟨cap, by simp only [upd_same], hge, by simp only [upd_same, harr]; omega⟩⟩⟩
    · simp at h
  · rename_i x _ _ _ e hs hd hns0
    split at h
    · simp at h
    · rename_i hnostr
      split at h
      · rename_i ns n' he hns
        obtain ⟨bs, hbs, h⟩ := Option.map_eq_some_iff.1 h
        simp only [Prod.mk.injEq] at h
        obtain ⟨rfl, rfl⟩ := h
        have ht : isSrcT P src x = true := by
          unfold isSrcT
          rw [hs]
          cases x with
          | c q =>
            cases q with
            | v z => cases z <;> first | rfl | simp [isStrM] at hnostr
            | _ => rfl
          | _ => rfl
        obtain ⟨news, hS, hnl, hrow⟩ := sound_news (P := P) (tx := src) hh hx ht hns
        obtain ⟨xs, rfl, hstr⟩ := bytes_nums hbs hnl hrow
        have hy : ∃ b n c, y = .slice b n c := by
          rcases news_form hh hx hns with ⟨s, rfl⟩ | hy
          · simp [isStrM] at hnostr
          · exact hy
        obtain ⟨b, n, c, rfl⟩ := hy
        have hn : n = n' := by
          have := hS.len w
          simpa [Builtin.lenOf] using this
        subst hn
        have hcells := hS.cells
        refine ⟨.string ⟨bs.toArray⟩, w, E, ?_, .c (.v _), .refl hh⟩
        rw [run_convert_bytes_string w src dst e b n c hs he hd]
        cases b with
        | none =>
          have : xs = [] := by
            simp [Builtin.firstCells] at hcells
            exact hcells
          subst this
          simp [Conv.bytesToString, ← hstr, strOfNums]
          rfl
        | some a =>
          have hl : (loadCells a n).run P w = .ok (xs.map (Value.int .u8)).toArray w := by
            simpa [Builtin.firstCells] using hcells
          rw [run_bytesToString w a n c xs hl, foldl_push_bytes, ← hstr]
          simp [strOfNums, ByteArray.empty, ByteArray.emptyWithCapacity]
          rfl
      · simp at h
  · rename_i t i g off hs hd
    split at h
    · rename_i o ho
      obtain ⟨hok, h⟩ := of_ite h
      split at h
      · simp at h
      · rename_i hz
        obtain ⟨hlt, h⟩ := of_ite h
        simp only [Option.some.injEq, Prod.mk.injEq] at h
        obtain ⟨rfl, rfl⟩ := h
        obtain ⟨d, hd'⟩ := under_of_ok hok
        obtain ⟨ti, hti⟩ := info_of_under hd'
        have hcz : szT P t = ti.size := by simp [szT, Program.cellsOf, hti]
        cases hx with
        | mp hq =>
          obtain ⟨hob, hnil, hit, hgen, rfl, arr, lo, hi, hblk, hfz, hasz, hrow⟩ := at_obj hh hq ho
          have hlen := hrow.len
          exact ⟨_, w, E, Lib.run_to_unsafe (e := o.ty) (cells := arr.size) w _ hs hd hti (by omega) (by simp [World.shape?, hblk]) (by simp; omega), .mp hq, .refl hh⟩
    · simp at h
  · rename_i u i g off hs hd
    split at h
    · rename_i o ho
      obtain ⟨rfl, h⟩ := of_ite h
      obtain ⟨hty, h⟩ := of_ite h
      obtain ⟨hok, h⟩ := of_ite h
      split at h
      · simp at h
      · rename_i hz
        obtain ⟨hle, h⟩ := of_ite h
        simp only [Option.some.injEq, Prod.mk.injEq] at h
        obtain ⟨rfl, rfl⟩ := h
        obtain ⟨d, hd'⟩ := under_of_ok hok
        obtain ⟨ti, hti⟩ := info_of_under hd'
        cases hx with
        | mp hq =>
          obtain ⟨hob, hnil, hit, hgen, rfl, arr, lo, hi, hblk, hfz, hasz, hrow⟩ := at_obj hh hq ho
          have hlen := hrow.len
          refine ⟨_, w, E, Lib.run_from_unsafe (e := o.ty) (cells := arr.size) w _ hs hd hti (by simp [World.shape?, hblk]) (lies_first hz ?_ hty), .mp hq, .refl hh⟩
          unfold szT at hz hle
          exact (Nat.le_div_iff_mul_le (by omega)).2 (by omega)
    · simp at h
  · simp at h

theorem sound_extract {x m : M} {y : Value} {i : Nat} (hx : RepM w E ob x y) (h : extractM x i = some m) : ∃ v, (Instr.extract y i).run P w = .ok v w ∧ RepM w E ob m v := by
  unfold extractM at h
  split at h
  · cases hx with
    | tup ms arr hs hr =>
      have hlt : i < arr.size := by rw [hs]; exact (List.getElem?_eq_some_iff.1 h).1
      exact ⟨arr[i], by simp [Instr.extract, Array.getElem?_eq_getElem hlt], hr i hlt m h⟩
  · simp at h

end Go.Av

/- More operations: unsafe.SliceData, unsafe.String (the object dies), ranges over strings, copy, min and max. -/
set_option linter.unusedVariables false
set_option linter.unusedSimpArgs false
namespace Go.Av
open Go

variable {P : Program} {w : World} {E : Env} {ob : List Ob}

def deadOb (o : Ob) : Ob := { o with nil := true, gen := o.gen + 1, cs := [] }
theorem step_kill {w' : World} (hh : HeapOK w E ob) {i : Nat} {o : Ob} (ho : ob[i]? = some o) (hit : o.iter = none) (hni : o.nil = false)
    (h1 : w'.os = w.os) (h2 : w'.tape = w.tape) (h3 : w'.output = w.output) (h4 : w'.heap.size = w.heap.size) (h5 : ∀ b, b ≠ E.blk i → w'.heap[b]? = w.heap[b]?) : Step w E ob w' E (ob.set i (deadOb o)) := by
  have hlt : i < ob.length := (List.getElem?_eq_some_iff.1 ho).1
  have hext : Ext w E ob w' E (ob.set i (deadOb o)) := by
    refine ⟨fun b hb => ⟨hb, h5 b (fun e => (hh.own i o ho hni).1 (e ▸ hb))⟩, fun k q hq => ?_⟩
    by_cases e : i = k
    · subst e
      obtain rfl := Option.some.inj (ho.symm.trans hq)
      exact ⟨deadOb o, by rw [getElem?_set, if_pos rfl, if_pos hlt], Nat.le_succ _, rfl, fun _ => rfl, fun h => by simp [deadOb] at h⟩
    · exact ⟨q, by rw [getElem?_set, if_neg e]; exact hq, Nat.le_refl _, rfl, fun _ => rfl, fun _ => ⟨rfl, rfl, rfl, rfl⟩⟩
  have hback : ∀ (k : Nat) (q : Ob), (ob.set i (deadOb o))[k]? = some q → q.nil = false → ob[k]? = some q ∧ k ≠ i := by
    intro k q hq hn
    rw [getElem?_set] at hq
    split at hq
    · rename_i e
      subst e
      try rw [if_pos hlt] at hq
      obtain rfl := Option.some.inj hq
      simp [deadOb] at hn
    · rename_i e
      exact ⟨hq, Ne.symm e⟩
  refine ⟨⟨fun k q hq => ?_, fun a b oa ob_ ha hb na nb he => hh.inj a b oa ob_ (hback a oa ha na).1 (hback b ob_ hb nb).1 na nb he, fun b hb => by rw [h4]; exact hh.stb b hb, fun k q hq hn => by rw [h4]; exact hh.own k q (hback k q hq hn).1 hn, hh.gl.ext hext.st⟩, hext,
    ⟨h1, h2, h3, by omega, fun b hb hn => h5 b (fun e => hn ⟨i, o, ho, hni, e.symm⟩), fun b hb => hb, fun b hb => .inl hb, fun k q hq hn => .inl ⟨k, q, (hback k q hq hn).1, hn, rfl⟩⟩⟩
  rw [getElem?_set] at hq
  split at hq
  · rename_i e
    subst e
    try rw [if_pos hlt] at hq
    obtain rfl := Option.some.inj hq
    unfold ObOK
    split
    · rename_i s p hi0
      simp [deadOb, hit] at hi0
    · exact ⟨fun _ => rfl, fun hf => by simp [deadOb] at hf⟩
  · rename_i e
    refine (hh.obj k q hq).keep hext rfl rfl (fun hn => h5 _ (fun eb => e (hh.inj i k o q ho hq hni hn eb.symm)))

def usdM (ob : List Ob) : M → Option M
  | .c (.v (.slice none _ _)) => some (.c (.v (.pointer none)))
  | .ms i g off n => match liveS ob i g with
    | some o => if o.nil then some (.c (.v (.pointer none))) else (if n = 0 then none else some (.mp i g off))
    | none => none
  | _ => none
theorem sound_usd (hh : HeapOK w E ob) (ts : Array TypeId) (ty : TypeId) {x m : M} {y : Value} (hx : RepM w E ob x y) (h : usdM ob x = some m) : ∃ v, (Builtin.unsafeSliceData_ ts ty #[y]).run P w = .ok v w ∧ RepM w E ob m v := by
  unfold usdM at h
  split at h
  · obtain rfl := Option.some.inj h
    cases hx with
    | c hc => cases hc; exact ⟨_, Lib.run_unsafeSliceData_nil w ts ty _ _, .c (.v _)⟩
  · rename_i i g off n
    split at h
    · rename_i o hl
      cases hx with
      | ms hq =>
        obtain ⟨ho, hit, hg, r1, r2⟩ := live_ok hq hl
        cases hn : o.nil with
        | true =>
          obtain ⟨rfl, _, _⟩ := r1 hn
          rw [hn, if_pos rfl] at h
          obtain rfl := Option.some.inj h
          exact ⟨_, Lib.run_unsafeSliceData_nil w ts ty _ _, .c (.v _)⟩
        | false =>
          rw [hn, if_neg (by simp)] at h
          split at h
          · simp at h
          · rename_i hn0
            obtain rfl := Option.some.inj h
            obtain ⟨cap, rfl, c1, c2⟩ := r2 hn
            refine ⟨_, Lib.run_unsafeSliceData_row w ts ty _ n cap (by omega), .mp ⟨rfl, o, ho, hit, by omega, fun _ _ => rfl⟩⟩
    · simp at h
  · simp at h

def ustrM (P : Program) (ob : List Ob) (pt : TypeId) (x n : M) : Option (M × List Ob) :=
  match P.underlying pt, asI n with
  | some (.pointer e), some k =>
    match x with
    | .c (.v (.pointer none)) => if k = 0 then some (.c (.v (.string .empty)), ob) else none
    | .mp i g 0 => match obAt ob i g with
      | some o => if o.ty = e then (if szT P e = 1 then (if 0 < k then (if k ≤ o.cs.length then (if k ≤ 9223372036854775807 then
          (match bytesM (o.cs.take k.toNat) with
          | some bs => some (.c (.v (.string ⟨bs.toArray⟩)), ob.set i (deadOb o))
          | none => none) else none) else none) else none) else none) else none
      | none => none
    | _ => none
  | _, _ => none
theorem run_load_nums (w : World) : ∀ (xs : List Int) (a : Addr) (acc : ByteArray), (∀ j n, xs[j]? = some n → w.cell? (a.add j) = some (.int .u8 n)) → (loadBytes a acc xs.length).run P w = .ok ⟨acc.data ++ (xs.map fun n => UInt8.ofNat n.toNat).toArray⟩ w
  | [], a, acc, _ => by simp [loadBytes]
  | x :: l, a, acc, h => by
    have h0 : w.cell? a = some (.int .u8 x) := by
      have := h 0 x rfl
      simpa [Addr.add] using this
    have ih := run_load_nums w l (a.add 1) (acc.push (UInt8.ofNat x.toNat)) (fun j y hy => by
      have := h (j + 1) y (by simpa using hy)
      rw [add_add, Nat.add_comm]
      exact this)
    simp only [List.length_cons, loadBytes, Sem.run_bind, run_load, h0, Result.andThen]
    rw [show x.toNat.toUInt8 = UInt8.ofNat x.toNat from rfl, ih]
    congr 1
    apply ByteArray.ext
    simp [ByteArray.push]
theorem run_ustr (w : World) (pt it ty e : TypeId) (ik : IntKind) (hp : P.underlying pt = some (.pointer e)) (hc : P.cellsOf e = 1) (g cells : Nat) (hsh : w.shape? g = some (e, cells)) (xs : List Int) (h0 : xs ≠ []) (hn : xs.length ≤ cells) (h63 : xs.length ≤ 9223372036854775807)
    (hcell : ∀ j n, xs[j]? = some n → w.cell? ((⟨g, 0, none⟩ : Addr).add j) = some (.int .u8 n)) :
    (Builtin.unsafeString_ #[pt, it] ty #[.pointer (some ⟨g, 0, none⟩), .int ik xs.length]).run P w = .ok (.string (strOfNums xs)) (w.freeze ⟨g, 0, none⟩ xs.length) := by
  have hl : xs.length ≠ 0 := by simpa using h0
  have hlb := run_load_nums (P := P) w xs ⟨g, 0, none⟩ .empty hcell
  have hlies := Lib.liesAt_bytes (P := P) hc (cells / P.cellsOf e) xs.length (by rw [hc]; simpa using hn)
  have h63' : ¬ (9223372036854775807 : Int) < (xs.length : Int) := by omega
  have hdef : Builtin.unsafeString_ #[pt, it] ty #[.pointer (some ⟨g, 0, none⟩), .int ik xs.length] =
      (do
        let n ← asInt (.int ik xs.length)
        if n < 0 then runtimePanic (.error "unsafe.String: len out of range")
        if n > IntKind.i64.max then unsupported (.unsafePointer "String: a length above the largest int")
        if n = 0 then pure (.string .empty)
        else if ← variablesAt ⟨g, 0, none⟩ (← elemOf pt) n.toNat then do
          let s ← loadBytes ⟨g, 0, none⟩ .empty n.toNat
          freeze ⟨g, 0, none⟩ n.toNat
          pure (.string s)
        else unsupported (.unsafePointer "String: not so many bytes at ptr")) := rfl
  rw [hdef]
  have hmax : IntKind.i64.max = 9223372036854775807 := rfl
  have hneg : ¬ (xs.length : Int) < 0 := by omega
  simp [asInt, asIntOf, hmax, h63', hneg, hl, variablesAt, hsh, elemOf, run_underlying hp, hlies, hlb, strOfNums]
theorem sound_ustr (hh : HeapOK w E ob) (pt it ty : TypeId) {x n m : M} {y z : Value} {ob' : List Ob} (hx : RepM w E ob x y) (hn : RepM w E ob n z) (h : ustrM P ob pt x n = some (m, ob')) :
    ∃ v w' E', (Builtin.unsafeString_ #[pt, it] ty #[y, z]).run P w = .ok v w' ∧ RepM w' E' ob' m v ∧ Step w E ob w' E' ob' := by
  unfold ustrM at h
  split at h
  · rename_i e k hp hk
    obtain ⟨ik, rfl⟩ := asI_rep hn hk
    split at h
    · obtain ⟨rfl, h⟩ := of_ite h
      simp only [Option.some.injEq, Prod.mk.injEq] at h
      obtain ⟨rfl, rfl⟩ := h
      cases hx with
      | c hc =>
        cases hc
        refine ⟨_, w, E, ?_, .c (.v _), .refl hh⟩
        have hdef : Builtin.unsafeString_ #[pt, it] ty #[.pointer none, .int ik 0] =
            (do
              let n ← asInt (.int ik 0)
              if n < 0 then runtimePanic (.error "unsafe.String: len out of range")
              if n > IntKind.i64.max then unsupported (.unsafePointer "String: a length above the largest int")
              if n = 0 then pure (.string .empty)
              else runtimePanic (.error "unsafe.String: ptr is nil and len is not zero")) := rfl
        have hmax : IntKind.i64.max = 9223372036854775807 := rfl
        rw [hdef]
        simp [asInt, asIntOf, hmax]
    · rename_i i g
      split at h
      · rename_i o ho
        obtain ⟨hty, h⟩ := of_ite h
        obtain ⟨hsz, h⟩ := of_ite h
        obtain ⟨h0, h⟩ := of_ite h
        obtain ⟨hle, h⟩ := of_ite h
        obtain ⟨h63, h⟩ := of_ite h
        split at h
        · rename_i bs hbs
          simp only [Option.some.injEq, Prod.mk.injEq] at h
          obtain ⟨rfl, rfl⟩ := h
          cases hx with
          | mp hq =>
            obtain ⟨hob, hnil, hit, hgen, rfl, arr, lo, hi, hblk, hfz, hasz, hrow⟩ := at_obj hh hq ho
            have hlen := hrow.len
            obtain ⟨xs, hxs, hstr⟩ := bytes_nums (vs := arr.toList.take k.toNat) hbs (by simp; omega) (fun j q hq => by
              have hj := (List.getElem?_eq_some_iff.1 hq).1
              simp at hj
              rw [List.getElem?_take_of_lt (by omega)] at hq
              obtain ⟨v, hv, q1, q2⟩ := hrow j q hq
              refine ⟨v, ?_, q1, q2⟩
              simp only [List.getElem?_toArray]
              rw [List.getElem?_take_of_lt (by omega), Array.getElem?_toList]
              exact hv)
            have hxl : xs.length = k.toNat := by
              have := congrArg List.length hxs
              simp at this
              omega
            have hcell : ∀ j n, xs[j]? = some n → w.cell? ((⟨E.blk i, 0, none⟩ : Addr).add j) = some (.int .u8 n) := by
              intro j n hj
              have hjl := (List.getElem?_eq_some_iff.1 hj).1
              have : (arr.toList.take k.toNat)[j]? = some (.int .u8 n) := by rw [hxs]; simp [hj]
              rw [List.getElem?_take_of_lt (by omega), Array.getElem?_toList] at this
              rw [add_obj]
              simp [World.cell?, hblk, this]
            have hsh : w.shape? (E.blk i) = some (e, arr.size) := by simp [World.shape?, hblk, hty]
            have hrun := run_ustr (P := P) w pt it ty e ik hp hsz (E.blk i) arr.size hsh xs (by intro e; rw [e] at hxl; simp at hxl; omega) (by omega) (by omega) hcell
            have hkk : (xs.length : Int) = k := by omega
            rw [hkk, hstr] at hrun
            have hlt := (Array.getElem?_eq_some_iff.1 hblk).1
            refine ⟨_, _, E, hrun, .c (.v _), step_kill hh hob hit hnil ?_ ?_ ?_ ?_ ?_⟩
            · unfold World.freeze; split <;> rfl
            · unfold World.freeze; split <;> rfl
            · unfold World.freeze; split <;> rfl
            · unfold World.freeze; split <;> simp
            · intro b hb
              unfold World.freeze
              split
              · rfl
              · simp only [Array.getElem?_modify]
                rw [if_neg (Ne.symm hb)]
        · simp at h
      · simp at h
    · simp at h
  · simp at h

def oddOb (q : Odd) : Ob := { ty := 0, sz := 0, nil := false, gen := 0, cs := [], iter := some q }
def iterOb (s : ByteArray) (p : Nat) : Ob := { ty := 0, sz := 0, nil := false, gen := 0, cs := [], iter := some (.str s p) }
def rangeM (P : Program) (ob : List Ob) (t : TypeId) : M → Option (M × List Ob)
  | .c (.v (.string s)) => match P.underlying t with
    | some .string => some (.it ob.length, ob ++ [iterOb s 0])
    | _ => none
  | .c (.v (.map none)) => match P.underlying t with
    | some (.map _ _) => some (.it ob.length, ob ++ [oddOb (.mit none 0 [])])
    | _ => none
  | .mm i => match P.underlying t with
    | some (.map _ _) => (mapAt ob i).map fun es => (.it ob.length, ob ++ [oddOb (.mit (some i) es.length [])])
    | _ => none
  | _ => none
def nextM (ob : List Ob) : M → Option (M × List Ob)
  | .it i => match ob[i]? with
    | some o => match o.iter with
      | some (.str s p) => if p < s.size then some (.tup [.c (.v (.bool true)), .c (.v (.int .i64 p)), .c (.v (.int .i32 (Utf8.decode s p).1))], ob.set i { o with iter := some (.str s (p + (Utf8.decode s p).2)) })
          else some (.tup [.c (.v (.bool false))], ob)
      | _ => none
    | none => none
  | _ => none
theorem step_newOdd {w' : World} (hh : HeapOK w E ob) (q0 : Odd) (obj : Obj) (h1 : w'.os = w.os) (h2 : w'.tape = w.tape) (h3 : w'.output = w.output) (h4 : w'.heap = w.heap.push obj)
    (hq0 : ∀ E' ob', Ext w E ob w' E' ob' → E'.blk ob.length = w.heap.size → w'.heap[w.heap.size]? = some obj → OddOK w' E' ob' ob.length q0) :
    Step w E ob w' { E with blk := upd E.blk ob.length w.heap.size } (ob ++ [oddOb q0]) := by
  have hold : ∀ b, b < w.heap.size → w'.heap[b]? = w.heap[b]? := fun b hb => by rw [h4, Array.getElem?_push, if_neg (by omega)]
  have hnew : w'.heap[w.heap.size]? = some obj := by rw [h4]; simp
  have hsz : w'.heap.size = w.heap.size + 1 := by rw [h4]; simp
  have hext : Ext w E ob w' { E with blk := upd E.blk ob.length w.heap.size } (ob ++ [oddOb q0]) := by
    refine ⟨fun b hb => ⟨hb, hold b (hh.stb b hb)⟩, fun i o ho => ?_⟩
    have hlt : i < ob.length := (List.getElem?_eq_some_iff.1 ho).1
    exact ⟨o, by rw [getElem?_snoc, if_pos hlt]; exact ho, Nat.le_refl _, rfl, fun _ => upd_ne _ _ _ (by omega), fun _ => ⟨rfl, rfl, upd_ne _ _ _ (by omega), rfl⟩⟩
  refine ⟨⟨fun i o ho => ?_, fun i j oi oj hi hj ni nj he => ?_, fun b hb => by have := hh.stb b hb; omega, fun i o ho hn => ?_, hh.gl.ext hext.st⟩, hext, ?_⟩
  · rw [getElem?_snoc] at ho
    split at ho
    · rename_i hlt
      exact (hh.obj i o ho).keep hext (upd_ne _ _ _ (by omega)) rfl (fun hn => hold _ (hh.own i o ho hn).2)
    · split at ho
      · rename_i e
        subst e
        obtain rfl := Option.some.inj ho
        simp only [ObOK, oddOb]
        exact ⟨hq0 _ _ hext (upd_same _ _ _) hnew, trivial⟩
      · simp at ho
  · rw [getElem?_snoc] at hi hj
    simp only [upd] at he
    split at hi <;> split at hj
    · rename_i p q
      rw [if_neg (by omega), if_neg (by omega)] at he
      exact hh.inj i j oi oj hi hj ni nj he
    · split at hj
      · rename_i p q r
        rw [if_neg (by omega), if_pos r] at he
        have := (hh.own i oi hi ni).2
        omega
      · simp at hj
    · split at hi
      · rename_i p q r
        rw [if_pos r, if_neg (by omega)] at he
        have := (hh.own j oj hj nj).2
        omega
      · simp at hi
    · split at hi
      · split at hj
        · omega
        · simp at hj
      · simp at hi
  · rw [getElem?_snoc] at ho
    split at ho
    · rename_i p
      have := hh.own i o ho hn
      simp only [upd]
      rw [if_neg (by omega)]
      exact ⟨this.1, by omega⟩
    · split at ho
      · rename_i e
        simp only [upd]
        rw [if_pos e]
        exact ⟨fun hs => by have := hh.stb _ hs; omega, by omega⟩
      · simp at ho
  · refine ⟨h1, h2, h3, by omega, fun b hb _ => hold b hb, fun b hb => hb, fun b hb => .inl hb, fun i o ho hn => ?_⟩
    rw [getElem?_snoc] at ho
    simp only [upd]
    split at ho
    · rename_i p
      rw [if_neg (by omega)]
      exact .inl ⟨i, o, ho, hn, rfl⟩
    · split at ho
      · rename_i e
        rw [if_pos e]
        exact .inr (Nat.le_refl _)
      · simp at ho
theorem step_iter {w' : World} (hh : HeapOK w E ob) (s : ByteArray) (p : Nat) (h1 : w'.os = w.os) (h2 : w'.tape = w.tape) (h3 : w'.output = w.output) (h4 : w'.heap = w.heap.push (.stringIter s p)) :
    Step w E ob w' { E with blk := upd E.blk ob.length w.heap.size } (ob ++ [iterOb s p]) :=
  step_newOdd hh (.str s p) _ h1 h2 h3 h4 fun E' ob' _ hb hn => by simp only [OddOK]; rw [hb]; exact hn
theorem step_setOdd {w' : World} (hh : HeapOK w E ob) {i : Nat} {o : Ob} (ho : ob[i]? = some o) (hni : o.nil = false) (hit : o.iter.isSome = true) (q0 : Odd)
    (h1 : w'.os = w.os) (h2 : w'.tape = w.tape) (h3 : w'.output = w.output) (h4 : w'.heap.size = w.heap.size) (h5 : ∀ b, b ≠ E.blk i → w'.heap[b]? = w.heap[b]?) 
    (h6 : ∀ ob', Ext w E ob w' E ob' → OddOK w' E ob' i q0) : Step w E ob w' E (ob.set i { o with iter := some q0 }) := by
  have hlt : i < ob.length := (List.getElem?_eq_some_iff.1 ho).1
  have hext : Ext w E ob w' E (ob.set i { o with iter := some q0 }) := by
    refine ⟨fun b hb => ⟨hb, h5 b (fun e => (hh.own i o ho hni).1 (e ▸ hb))⟩, fun k q hq => ?_⟩
    by_cases e : i = k
    · subst e
      obtain rfl := Option.some.inj (ho.symm.trans hq)
      exact ⟨{ o with iter := some q0 }, by rw [getElem?_set, if_pos rfl, if_pos hlt], Nat.le_refl _, by simp [hit], fun _ => rfl, fun _ => ⟨rfl, rfl, rfl, rfl⟩⟩
    · exact ⟨q, by rw [getElem?_set, if_neg e]; exact hq, Nat.le_refl _, rfl, fun _ => rfl, fun _ => ⟨rfl, rfl, rfl, rfl⟩⟩
  have hback : ∀ (k : Nat) (q : Ob), (ob.set i { o with iter := some q0 })[k]? = some q → ∃ q0, ob[k]? = some q0 ∧ q0.nil = q.nil := by
    intro k q hq
    rw [getElem?_set] at hq
    split at hq
    · rename_i e
      subst e
      try rw [if_pos hlt] at hq
      obtain rfl := Option.some.inj hq
      exact ⟨o, ho, rfl⟩
    · exact ⟨q, hq, rfl⟩
  refine ⟨⟨fun k q hq => ?_, fun a b oa ob_ ha hb na nb he => ?_, fun b hb => by rw [h4]; exact hh.stb b hb, fun k q hq hn => ?_, hh.gl.ext hext.st⟩, hext, ⟨h1, h2, h3, by omega, fun b hb hn => h5 b (fun e => hn ⟨i, o, ho, hni, e.symm⟩), fun b hb => hb, fun b hb => .inl hb, fun k q hq hn => ?_⟩⟩
  · rw [getElem?_set] at hq
    split at hq
    · rename_i e
      subst e
      try rw [if_pos hlt] at hq
      obtain rfl := Option.some.inj hq
      simp only [ObOK]
      exact ⟨h6 _ hext, hni⟩
    · rename_i e
      exact (hh.obj k q hq).keep hext rfl rfl (fun hn => h5 _ (fun eb => e (hh.inj i k o q ho hq hni hn eb.symm)))
  · obtain ⟨qa, ha1, ha2⟩ := hback a oa ha
    obtain ⟨qb, hb1, hb2⟩ := hback b ob_ hb
    exact hh.inj a b qa qb ha1 hb1 (ha2.trans na) (hb2.trans nb) he
  · obtain ⟨q0, hq1, hq2⟩ := hback k q hq
    rw [h4]
    exact hh.own k q0 hq1 (hq2.trans hn)
  · obtain ⟨q0, hq1, hq2⟩ := hback k q hq
    exact .inl ⟨k, q0, hq1, hq2.trans hn, rfl⟩
theorem step_next {w' : World} (hh : HeapOK w E ob) {i : Nat} {o : Ob} (ho : ob[i]? = some o) (hni : o.nil = false) (hit : o.iter.isSome = true) (s : ByteArray) (p : Nat)
    (h1 : w'.os = w.os) (h2 : w'.tape = w.tape) (h3 : w'.output = w.output) (h4 : w'.heap.size = w.heap.size) (h5 : ∀ b, b ≠ E.blk i → w'.heap[b]? = w.heap[b]?) (h6 : w'.heap[E.blk i]? = some (.stringIter s p)) : Step w E ob w' E (ob.set i { o with iter := some (.str s p) }) :=
  step_setOdd hh ho hni hit (.str s p) h1 h2 h3 h4 h5 fun _ _ => h6
theorem sound_range (hh : HeapOK w E ob) {t : TypeId} {x m : M} {y : Value} {ob' : List Ob} (hx : RepM w E ob x y) (h : rangeM P ob t x = some (m, ob')) :
    ∃ v w' E', (Instr.range t y).run P w = .ok v w' ∧ RepM w' E' ob' m v ∧ Step w E ob w' E' ob' := by
  unfold rangeM at h
  split at h
  · rename_i s
    split at h
    · rename_i hu
      simp only [Option.some.injEq, Prod.mk.injEq] at h
      obtain ⟨rfl, rfl⟩ := h
      cases hx with
      | c hc =>
        cases hc
        refine ⟨_, _, _, run_range_string w t s hu, .it ⟨iterOb s 0, by rw [getElem?_snoc, if_neg (by omega), if_pos rfl], ⟨_, rfl⟩, ?_⟩, step_iter hh s 0 rfl rfl rfl rfl⟩
        simp [upd]
    · simp at h
  · split at h
    · rename_i ht
      simp only [Option.some.injEq, Prod.mk.injEq] at h
      obtain ⟨rfl, rfl⟩ := h
      cases hx with
      | c hc =>
        cases hc
        refine ⟨.pointer (some ⟨w.heap.size, 0, none⟩), w.alloc (.mapIter none 0 #[] 0), _, by simp [Instr.range, run_underlying ht, Result.andThen], .it ⟨oddOb (.mit none 0 []), by rw [getElem?_snoc, if_neg (by omega), if_pos rfl], ⟨_, rfl⟩, ?_⟩, step_newOdd hh (.mit none 0 []) (.mapIter none 0 #[] 0) rfl rfl rfl rfl (fun E' ob' _ hb hn => by simp only [OddOK]; rw [hb]; exact hn)⟩
        simp [upd]
    · simp at h
  · rename_i i
    split at h
    · rename_i ht
      obtain ⟨es, hes, he⟩ := Option.map_eq_some_iff.1 h
      simp only [Prod.mk.injEq] at he
      obtain ⟨rfl, rfl⟩ := he
      obtain ⟨o, arr, ho, hit, hni, rfl, hblk, hent⟩ := mapAt_rep hh hx hes
      have hil := (List.getElem?_eq_some_iff.1 ho).1
      refine ⟨.pointer (some ⟨w.heap.size, 0, none⟩), w.alloc (.mapIter (some (E.blk i)) es.length #[] es.length), _, by simp [Instr.range, run_underlying ht, MapKept.run_getObj_map hblk, Result.andThen], .it ⟨oddOb (.mit (some i) es.length []), by rw [getElem?_snoc, if_neg (by omega), if_pos rfl], ⟨_, rfl⟩, ?_⟩, step_newOdd hh (.mit (some i) es.length []) (.mapIter (some (E.blk i)) es.length #[] es.length) rfl rfl rfl rfl (fun E' ob' hext hb hn => ?_)⟩
      · simp [upd]
      · obtain ⟨om, a, _, b, c, _⟩ := hext.ob i o ho
        refine ⟨hil, ⟨om, a, by rw [b, hit]; rfl⟩, ?_⟩
        rw [hb, c (by rw [hit]; rfl)]
        exact hn
    · simp at h
  · simp at h
theorem sound_next (hh : HeapOK w E ob) {ty : TypeId} {x m : M} {y : Value} {ob' : List Ob} (hx : RepM w E ob x y) (h : nextM ob x = some (m, ob')) :
    ∃ v w' E', (Instr.next y true ty).run P w = .ok v w' ∧ RepM w' E' ob' m v ∧ Step w E ob w' E' ob' := by
  unfold nextM at h
  split at h
  · rename_i i
    split at h
    · rename_i o ho
      split at h
      · rename_i s p hit
        cases hx with
        | it hq =>
          obtain ⟨o', ho', _, rfl⟩ := hq
          obtain rfl := Option.some.inj (ho.symm.trans ho')
          have hob := hh.obj i o ho
          unfold ObOK at hob
          rw [hit] at hob
          obtain ⟨hk, hni⟩ := hob
          split at h
          · rename_i hp
            simp only [Option.some.injEq, Prod.mk.injEq] at h
            obtain ⟨rfl, rfl⟩ := h
            refine ⟨_, _, E, Lib.run_next_any_at w _ s p ty hk hp, ?_, step_next hh ho hni (by simp [hit]) s _ rfl rfl rfl (Lib.iterAt_size _ _ _ _) (fun b hb => Lib.iterAt_other w _ b s _ hb) (Lib.iterAt_heap w _ s p _ hk)⟩
            refine .tup _ _ rfl (fun j hj m hm => ?_)
            match j, hm with
            | 0, hm => obtain rfl := Option.some.inj hm; exact .c (.v _)
            | 1, hm => obtain rfl := Option.some.inj hm; exact .c (.v _)
            | 2, hm => obtain rfl := Option.some.inj hm; exact .c (.v _)
          · rename_i hp
            simp only [Option.some.injEq, Prod.mk.injEq] at h
            obtain ⟨rfl, rfl⟩ := h
            refine ⟨_, w, E, Lib.run_next_end_at w _ s p ty hk hp, ?_, .refl hh⟩
            refine .tup _ _ rfl (fun j hj m hm => ?_)
            match j, hm with
            | 0, hm => obtain rfl := Option.some.inj hm; exact .c (.v _)
      · simp at h
    · simp at h
  · simp at h

theorem sound_first (hh : HeapOK w E ob) {sz : Nat} {tx : TypeId} {x : M} {y : Value} {ns : List M} {n' : Nat} (hx : RepM w E ob x y) (ht : isSrcT P tx x = true) (h : newsM ob sz x = some (ns, n')) (k : Nat) (hk : k ≤ n') :
    ∃ vs : List Value, vs.length = k * sz ∧ (Builtin.firstCells sz k y).run P w = .ok vs.toArray w ∧ (∀ w' : World, (Builtin.lenOf y).run P w' = .ok n' w') ∧ (∀ u ∈ vs, u.oneCell' = true) ∧ Row w E ob (ns.take (k * sz)) vs.toArray := by
  have hlen := (sound_news hh hx ht h).choose_spec.1.len
  have fin : ∀ (x' : M) (y' : Value), RepM w E ob x' y' → isSrcT P tx x' = true → newsM ob sz x' = some (ns.take (k * sz), k) → Builtin.firstCells sz k y' = Builtin.firstCells sz k y →
      ∃ vs : List Value, vs.length = k * sz ∧ (Builtin.firstCells sz k y).run P w = .ok vs.toArray w ∧ (∀ w' : World, (Builtin.lenOf y).run P w' = .ok n' w') ∧ (∀ u ∈ vs, u.oneCell' = true) ∧ Row w E ob (ns.take (k * sz)) vs.toArray := by
    intro x' y' h1 h2 h3 h4
    obtain ⟨vs, q1, q2, q3⟩ := sound_news hh h1 h2 h3
    exact ⟨vs, q1.newsLen, by rw [← h4]; exact q1.cells, hlen, q1.one, q3⟩
  have hmul : k * sz ≤ n' * sz := Nat.mul_le_mul_right _ hk
  unfold newsM at h
  split at h
  · simp only [Option.some.injEq, Prod.mk.injEq] at h
    obtain ⟨rfl, rfl⟩ := h
    obtain rfl : k = 0 := by omega
    refine fin _ _ hx ht ?_ rfl
    simp [newsM]
  · rename_i s
    split at h
    · rename_i hs
      subst hs
      simp only [Option.some.injEq, Prod.mk.injEq] at h
      obtain ⟨rfl, rfl⟩ := h
      cases hx with
      | c hc =>
        cases hc
        have hsz : s.data.toList.length = s.size := by simp
        refine ⟨((s.data.toList.map fun b => Value.int .u8 (b.toNat : Int)).take k), by simp; omega, ?_, hlen, fun u hu => ?_, fun j m hm => ?_⟩
        · simp only [Builtin.firstCells, Sem.run_pure]
          congr 1
          apply Array.ext'
          simp [ByteArray.extract, ByteArray.copySlice]
        · have hu' := List.mem_of_mem_take hu
          obtain ⟨_, _, rfl⟩ := List.mem_map.1 hu'
          rfl
        · rw [Nat.mul_one] at hm
          have hj := (List.getElem?_eq_some_iff.1 hm).1
          simp at hj
          rw [List.getElem?_take_of_lt (by omega)] at hm
          simp only [up, List.map_map, toList_data, List.getElem?_map] at hm
          obtain ⟨b, hb, rfl⟩ := Option.map_eq_some_iff.1 hm
          refine ⟨.int .u8 (b.toNat : Int), ?_, rfl, .c (.v _)⟩
          simp only [List.getElem?_toArray]
          rw [List.getElem?_take_of_lt (by omega)]
          simp [hb]
    · simp at h
  · rename_i cs n full
    split at h
    · rename_i hl
      simp only [Option.some.injEq, Prod.mk.injEq] at h
      obtain ⟨rfl, rfl⟩ := h
      have ht' : ∀ cs' n' f', isSrcT P tx (.c (.sl cs' n' f')) = true := by
        intro cs' n' f'
        unfold isSrcT at ht ⊢
        split at ht <;> simp_all
      have hnw : newsM ob sz (.c (.sl (cs.take (k * sz)) k false)) = some ((up cs).take (k * sz), k) := by
        simp only [newsM]
        rw [if_pos (by simp; omega)]
        simp [up]
      cases hx with
      | c hc =>
        cases hc with
        | nl full =>
          obtain rfl : k = 0 := by omega
          refine fin (.c (.sl ([].take (0 * sz)) 0 false)) (.slice none 0 0) ?_ (ht' _ _ _) hnw rfl
          simp only [List.take_nil]
          exact .c (.nl false)
        | sl cs n full a cap ys hf hn h1 h2 =>
          refine fin (.c (.sl (cs.take (k * sz)) k false)) (.slice (some a) k cap) ?_ (ht' _ _ _) hnw rfl
          have htk : ∀ (j : Nat) c, (cs.take (k * sz))[j]? = some c → cs[j]? = some c := fun j c hj => by
            have := (List.getElem?_eq_some_iff.1 hj).1
            simp at this
            rwa [List.getElem?_take_of_lt (by omega)] at hj
          exact .c (.sl _ k false a cap ys (by simp) (by omega) (fun j c hj => h1 j c (htk j c hj)) (fun j c hj => h2 j c (htk j c hj)))
    · simp at h
  · rename_i i g off n
    have ht' : ∀ k', isSrcT P tx (.ms i g off k') = true := by
      intro k'
      unfold isSrcT at ht ⊢
      split at ht <;> simp_all
    split at h
    · rename_i o hl
      cases hx with
      | ms hq =>
        obtain ⟨ho, hit, hg, r1, r2⟩ := live_ok hq hl
        cases hn : o.nil with
        | true =>
          rw [hn] at h
          simp only [if_true, Option.some.injEq, Prod.mk.injEq] at h
          obtain ⟨rfl, rfl⟩ := h
          obtain rfl : k = 0 := by omega
          refine fin (.ms i g off n) y (.ms hq) (ht' _) ?_ rfl
          simp [newsM, hl, hn]
        | false =>
          rw [hn] at h
          simp only [Bool.false_eq_true, if_false] at h
          split at h
          · rename_i hle
            simp only [Option.some.injEq, Prod.mk.injEq] at h
            obtain ⟨rfl, rfl⟩ := h
            obtain ⟨cap, rfl, hc1, hc2⟩ := r2 hn
            refine fin (.ms i g off k) (.slice (some ⟨E.blk i, off, none⟩) k cap) (.ms ⟨rfl, o, ho, hit, by omega, fun _ => ⟨fun h => by simp [hn] at h, fun _ => ⟨cap, rfl, by omega, hc2⟩⟩⟩) (ht' _) ?_ rfl
            simp only [newsM, hl, hn, Bool.false_eq_true, if_false]
            rw [if_pos (by omega), List.take_take, Nat.min_eq_left hmul]
          · simp at h
    · simp at h
  · simp at h

theorem run_copy_gen {dT sT ty elem : TypeId} {sz b off dLen dCap sl : Nat} {y : Value} {cells : List Value} {w' : World} (hu : P.underlying dT = some (.slice elem)) (hsz : (sizeOf elem).run P w = .ok sz w) (hlen : ∀ w' : World, (Builtin.lenOf y).run P w' = .ok sl w')
    (hfc : (Builtin.firstCells sz (min sl dLen) y).run P w = .ok cells.toArray w) (hst : (storeCells ⟨b, off, none⟩ cells 0).run P w = .ok () w') :
    (Builtin.copy_ #[dT, sT] ty #[.slice (some ⟨b, off, none⟩) dLen dCap, y]).run P w = .ok (.int .i64 (min sl dLen : Nat)) w' := by
  simp only [Builtin.copy_, List.getElem?_toArray, List.getElem?_cons_zero, List.getElem?_cons_succ, run_underlying hu, Sem.run_bind, Result.andThen_ok, hlen, hsz, hst, Sem.run_pure, goInt]
  rw [show Nat.min sl dLen = min sl dLen from rfl, hfc]
  simp only [Result.andThen_ok, hst]
def copyM (P : Program) (ob : List Ob) (dt st : TypeId) (d x : M) : Option (M × List Ob) :=
  match P.underlying dt with
  | some (.slice e) =>
    if isSrcT P st x = false then none else
    match newsM ob (szT P e) x with
    | none => none
    | some (ns, n') =>
      match d with
      | .ms i g off n => match liveS ob i g with
        | some o => if o.nil then none else (if off + min n' n * szT P e ≤ o.cs.length then (if ns.length = n' * szT P e then
            some (.c (.v (.int .i64 (min n' n : Nat))), ob.set i { o with cs := lay o.cs off (ns.take (min n' n * szT P e)) }) else none) else none)
        | none => none
      | _ => none
  | _ => none
theorem sound_copy (hh : HeapOK w E ob) {dt st ty : TypeId} {d x m : M} {y z : Value} {ob' : List Ob} (hd : RepM w E ob d y) (hx : RepM w E ob x z) (hz : ∀ e, P.underlying dt = some (.slice e) → ∃ i, P.info? e = some i) (h : copyM P ob dt st d x = some (m, ob')) :
    ∃ v w' E', (Builtin.copy_ #[dt, st] ty #[y, z]).run P w = .ok v w' ∧ RepM w' E' ob' m v ∧ Step w E ob w' E' ob' := by
  unfold copyM at h
  split at h
  · rename_i e hu
    obtain ⟨ti, hti⟩ := hz e hu
    split at h
    · simp at h
    · rename_i ht
      split at h
      · simp at h
      · rename_i ns n' hns
        split at h
        · rename_i i g off n
          split at h
          · rename_i o hl
            split at h
            · simp at h
            · rename_i hnil
              obtain ⟨hle, h⟩ := of_ite h
              obtain ⟨hnl, h⟩ := of_ite h
              simp only [Option.some.injEq, Prod.mk.injEq] at h
              obtain ⟨rfl, rfl⟩ := h
              have hni : o.nil = false := by simpa using hnil
              cases hd with
              | ms hq =>
                obtain ⟨ho, hit, hg, _, _⟩ := live_ok hq hl
                obtain ⟨cap, arr, lo, hi, rfl, hc1, hc2, hblk, hfz, hasz, hrow⟩ := slice_of_live hq hl hh hni
                obtain ⟨vs, v1, v2, v3, v4, v5⟩ := sound_first (P := P) hh hx (by simpa using ht) hns (min n' n) (Nat.min_le_left _ _)
                have hlen := hrow.len
                obtain ⟨w', hr, a1, a2, a3, a4, a5, cur', hc, hcs, hcj⟩ := store_cells (P := P) (E.blk i) o.ty lo hi vs 0 off arr w hblk hfz (by omega) v4
                have htk : (ns.take (min n' n * szT P e)).length = vs.length := by
                  rw [List.length_take, v1, hnl]
                  exact Nat.min_eq_left (Nat.mul_le_mul_right _ (Nat.min_le_left _ _))
                refine ⟨_, w', E, run_copy_gen hu (run_size hti w) v3 v2 hr, .c (.v _), ?_⟩
                have hll : off + (ns.take (min n' n * szT P e)).length ≤ o.cs.length := by rw [htk, v1]; exact hle
                have := step_set hh ho hni hit (lay o.cs off (ns.take (min n' n * szT P e))) o.gen (Nat.le_refl _) cur' o.ty lo hi rfl (w' := w') ?_ (fun j hj => hfz j (by omega)) (by omega) a1 a2 a3 a4 a5 hc
                · exact this
                · intro j m hm
                  rw [getElem?_lay _ _ _ hll] at hm
                  rw [hcj j]
                  simp only [Nat.add_zero]
                  split at hm
                  · rename_i hin
                    rw [if_pos (by omega)]
                    obtain ⟨v, hv, h1v, hrv⟩ := v5 _ m hm
                    exact ⟨v, by simpa using hv, h1v, hrv⟩
                  · rename_i hin
                    rw [if_neg (by omega)]
                    exact hrow j m hm
          · simp at h
        · simp at h
  · simp at h
end Go.Av

/- Interfaces, function values, min, max, cap. -/
set_option linter.unusedVariables false
set_option linter.unusedSimpArgs false
namespace Go.Av
open Go
variable {P : Program} {w : World} {E : Env} {ob : List Ob}

def mkIfaceM (P : Program) (t : TypeId) (x : M) : Option M :=
  match P.underlying t with
  | some (.interface _) => none
  | some _ => match x with
    | .c c => some (.c (.ifc t false [c]))
    | .agg ms => match downs ms with
      | some cs => some (.c (.ifc t true cs))
      | none => none
    | .mp i g off => some (.mi t i g off)
    | _ => none
  | none => none
def unfaceM : M → Option (TypeId × M)
  | .c (.ifc t false [c]) => some (t, .c c)
  | .c (.ifc t true cs) => some (t, .agg (up cs))
  | .mi t i g off => some (t, .mp i g off)
  | _ => none
theorem sound_mkIface {t : TypeId} {x m : M} {y : Value} (hx : RepM w E ob x y) (h : mkIfaceM P t x = some m) : ∃ v, (Instr.makeInterface t y).run P w = .ok v w ∧ RepM w E ob m v := by
  unfold mkIfaceM at h
  split at h
  · simp at h
  · rename_i d hd hu
    refine ⟨.iface t y, ?_, ?_⟩
    · simp only [Instr.makeInterface, Sem.run_bind, run_underlying hu, Result.andThen_ok]
      cases d <;> first | rfl | exact absurd rfl (hd _)
    · split at h
      · obtain rfl := Option.some.inj h
        cases hx with
        | c hc => exact .c (.ifc1 _ _ _ hc)
      · split at h
        · rename_i cs hcs
          obtain rfl := Option.some.inj h
          have e := up_downs hcs
          subst e
          cases hx with
          | agg ms arr hs ho hr =>
            refine .c (.ifca t cs arr (by simpa [up] using hs) ho fun j hj c hc => ?_)
            have := hr j hj (.c c) (by simp [up, hc])
            cases this with
            | c q => exact q
        · simp at h
      · obtain rfl := Option.some.inj h
        cases hx with
        | mp hp => exact .mi hp
      · simp at h
  · simp at h
theorem sound_unface {x x' : M} {y : Value} {t : TypeId} (hx : RepM w E ob x y) (h : unfaceM x = some (t, x')) : ∃ v, y = .iface t v ∧ RepM w E ob x' v := by
  unfold unfaceM at h
  split at h
  · simp only [Option.some.injEq, Prod.mk.injEq] at h
    obtain ⟨rfl, rfl⟩ := h
    cases hx with
    | c hc =>
      cases hc with
      | ifc1 _ _ y hy => exact ⟨y, rfl, .c hy⟩
  · simp only [Option.some.injEq, Prod.mk.injEq] at h
    obtain ⟨rfl, rfl⟩ := h
    cases hx with
    | c hc =>
      cases hc with
      | ifca _ cs arr hs ho hr =>
        refine ⟨_, rfl, .agg _ arr (by simpa [up] using hs) ho fun j hj m hm => ?_⟩
        simp only [up, List.getElem?_map, Option.map_eq_some_iff] at hm
        obtain ⟨c, hc, rfl⟩ := hm
        exact .c (hr j hj c hc)
  · simp only [Option.some.injEq, Prod.mk.injEq] at h
    obtain ⟨rfl, rfl⟩ := h
    cases hx with
    | mi hp => exact ⟨_, rfl, .mp hp⟩
  · simp at h

def methT (P : Program) (t : TypeId) (name : String) : Option (FuncId × Bool) :=
  match P.info? t with
  | some i => match i.methods.find? (·.name == name) with
    | some m => match m.path.toList with
      | [] => m.func
      | _ => none
    | none => none
  | none => none
def methM (P : Program) (ob : List Ob) (t : TypeId) (x : M) (name : String) : Option (FuncId × M) :=
  match methT P t name with
  | some (f, b) => match P.underlying t with
    | some (.pointer e) => if b then some (f, x) else (if okT P e then (match loadM P ob e x with
      | some m => some (f, m)
      | none => none) else none)
    | some _ => if b then none else some (f, x)
    | none => none
  | none => none
theorem load_asAddr' {t : TypeId} {y z : Value} {w : World} (h : (Instr.loadAt t y).run P w = .ok z w) : ∃ a, y = .pointer (some a) ∧ (loadVar t a).run P w = .ok z w := by
  cases y with
  | pointer p =>
    cases p with
    | some a => exact ⟨a, rfl, h⟩
    | none => simp [Instr.loadAt, Instr.sureAddr, stuck, Sem.run] at h
  | _ => simp [Instr.loadAt, Instr.sureAddr, stuck, Sem.run] at h
theorem wrapNil (ts : Array TypeId) (t : TypeId) (a : Addr) (s n : ByteArray) : Builtin.ssaWrapNilChk_ ts t #[.pointer (some a), .string s, .string n] = pure (.pointer (some a)) := rfl
theorem sound_meth (hh : HeapOK w E ob) {t : TypeId} {x r : M} {y : Value} {name : String} {f : FuncId} {fuel : Nat} (hx : RepM w E ob x y) (h : methM P ob t x name = some (f, r)) :
    ∃ v, (method (fuel + 1) t y name).run P w = .ok (f, v) w ∧ RepM w E ob r v := by
  unfold methM at h
  split at h
  · rename_i f' b hm
    unfold methT at hm
    split at hm
    · rename_i ti hti
      split at hm
      · rename_i mt hmt
        split at hm
        · rename_i hp
          have hemp : mt.path = #[] := Array.toList_eq_nil_iff.1 hp
          split at h
          · rename_i e hu
            cases b with
            | true =>
              simp only [if_true, Option.some.injEq, Prod.mk.injEq] at h
              obtain ⟨rfl, rfl⟩ := h
              exact ⟨y, by simp [method, typeInfo, hti, hmt, hp, follow, hm, receiverAt, run_underlying hu, Place.get], hx⟩
            | false =>
              simp only [Bool.false_eq_true, if_false] at h
              obtain ⟨hok, h⟩ := of_ite h
              split at h
              · rename_i m hl
                simp only [Option.some.injEq, Prod.mk.injEq] at h
                obtain ⟨rfl, rfl⟩ := h
                obtain ⟨z, hz, hrz⟩ := sound_load hh hok hx hl
                obtain ⟨a, rfl, hla⟩ := load_asAddr' hz
                exact ⟨z, by simp [method, typeInfo, hti, hmt, hp, follow, hm, receiverAt, run_underlying hu, Place.get, hemp, strVal, wrapNil, asAddr, hla], hrz⟩
              · simp at h
          · rename_i d hd hu
            cases b with
            | true => simp at h
            | false =>
              simp only [Bool.false_eq_true, if_false, Option.some.injEq, Prod.mk.injEq] at h
              obtain ⟨rfl, rfl⟩ := h
              refine ⟨y, ?_, hx⟩
              cases d <;> first | exact absurd rfl (hd _) | simp [method, typeInfo, hti, hmt, hp, follow, hm, receiverAt, run_underlying hu, Place.get]
          · simp at h
        · simp at hm
      · simp at hm
    · simp at hm
  · simp at h

def assertM (P : Program) (t : TypeId) (ok : Bool) (x : M) : Option M :=
  match P.underlying t with
  | some (.interface _) => none
  | some _ => match unfaceM x with
    | some (u, v) => if u = t then some (if ok then .tup [v, .c (.v (.bool true))] else v) else (if ok then (match (P.info? t).bind (·.zero) with
      | some z => (constM z).map fun m => .tup [m, .c (.v (.bool false))]
      | none => none) else none)
    | none => match x with
      | .c (.v .nilIface) => if ok then (match (P.info? t).bind (·.zero) with
        | some z => (constM z).map fun m => .tup [m, .c (.v (.bool false))]
        | none => none) else none
      | _ => none
  | none => none
theorem tup2 {a : M} {y : Value} {b : Bool} (h : RepM w E ob a y) : RepM w E ob (.tup [a, .c (.v (.bool b))]) (.tuple #[y, .bool b]) := by
  refine .tup _ _ rfl fun j hj m hm => ?_
  match j, hm with
  | 0, hm => obtain rfl := Option.some.inj hm; exact h
  | 1, hm => obtain rfl := Option.some.inj hm; exact .c (.v _)
theorem sound_assert {t xt : TypeId} {ok : Bool} {x m : M} {y : Value} (hx : RepM w E ob x y) (h : assertM P t ok x = some m) : ∃ v, (Instr.typeAssert y xt t ok).run P w = .ok v w ∧ RepM w E ob m v := by
  unfold assertM at h
  split at h
  · simp at h
  · rename_i d hd hu
    split at h
    · rename_i u v' hun
      obtain ⟨v, rfl, hv⟩ := sound_unface hx hun
      split at h
      · rename_i e
        subst e
        obtain rfl := Option.some.inj h
        cases ok with
        | true => exact ⟨.tuple #[v, .bool true], by cases d <;> first | exact absurd rfl (hd _) | simp [Instr.typeAssert, run_underlying hu], tup2 hv⟩
        | false => exact ⟨v, by cases d <;> first | exact absurd rfl (hd _) | simp [Instr.typeAssert, run_underlying hu], hv⟩
      · rename_i hne
        obtain ⟨rfl, h2⟩ := of_ite h
        clear h
        split at h2
        · rename_i z hz
          obtain ⟨i, hi, hiz⟩ := zero_of_ok hz
          obtain ⟨m', hm', rfl⟩ := Option.map_eq_some_iff.1 h2
          exact ⟨.tuple #[z, .bool false], by cases d <;> first | exact absurd rfl (hd _) | simp [Instr.typeAssert, run_underlying hu, hne, run_zero hi hiz], tup2 (rep_const hm')⟩
        · simp at h2
    · split at h
      · obtain ⟨rfl, h2⟩ := of_ite h
        clear h
        split at h2
        · rename_i z hz
          obtain ⟨i, hi, hiz⟩ := zero_of_ok hz
          obtain ⟨m', hm', rfl⟩ := Option.map_eq_some_iff.1 h2
          cases hx with
          | c hc =>
            cases hc
            exact ⟨.tuple #[z, .bool false], by cases d <;> first | exact absurd rfl (hd _) | simp [Instr.typeAssert, run_underlying hu, run_zero hi hiz], tup2 (rep_const hm')⟩
        · simp at h2
      · simp at h
  · simp at h

def minmaxM (mx : Bool) : M → M → Option M
  | .c (.v (.int k a)), .c (.v (.int _ b)) => some (.c (.v (.int k (if mx then (if b > a then b else a) else (if b < a then b else a)))))
  | _, _ => none
theorem sound_min {x y m : M} {a b : Value} (ts : Array TypeId) (ty : TypeId) (hx : RepM w E ob x a) (hy : RepM w E ob y b) (h : minmaxM false x y = some m) : ∃ v, (Builtin.min_ ts ty #[a, b]).run P w = .ok v w ∧ RepM w E ob m v := by
  unfold minmaxM at h
  split at h
  · obtain rfl := Option.some.inj h
    cases hx with
    | c hc => cases hc; cases hy with
      | c hd => cases hd; exact ⟨_, by simp [Builtin.min_, Builtin.min2], .c (.v _)⟩
  · simp at h
theorem sound_max {x y m : M} {a b : Value} (ts : Array TypeId) (ty : TypeId) (hx : RepM w E ob x a) (hy : RepM w E ob y b) (h : minmaxM true x y = some m) : ∃ v, (Builtin.max_ ts ty #[a, b]).run P w = .ok v w ∧ RepM w E ob m v := by
  unfold minmaxM at h
  split at h
  · obtain rfl := Option.some.inj h
    cases hx with
    | c hc => cases hc; cases hy with
      | c hd => cases hd; exact ⟨_, by simp [Builtin.max_, Builtin.max2], .c (.v _)⟩
  · simp at h
def capM (P : Program) (ob : List Ob) (t : TypeId) (x : M) : Option M :=
  match P.underlying t with
  | some (.slice _) => match x with
    | .c (.v (.slice none 0 0)) => some (.c (.v (.int .i64 0)))
    | .ms i g off n => match liveS ob i g with
      | some o => if o.nil then some (.c (.v (.int .i64 0))) else none
      | none => none
    | _ => none
  | _ => none
theorem sound_cap (hh : HeapOK w E ob) {t ty : TypeId} {x m : M} {y : Value} (hx : RepM w E ob x y) (h : capM P ob t x = some m) : ∃ v, (Builtin.cap_ #[t] ty #[y]).run P w = .ok v w ∧ RepM w E ob m v := by
  unfold capM at h
  split at h
  · rename_i e hu
    split at h
    · obtain rfl := Option.some.inj h
      cases hx with
      | c hc => cases hc; exact ⟨_, by simp [Builtin.cap_, run_underlying hu, goInt], .c (.v _)⟩
    · split at h
      · rename_i o ho
        obtain ⟨hn, h⟩ := of_ite h
        obtain rfl := Option.some.inj h
        cases hx with
        | ms hs =>
          obtain ⟨_, o', ho', _, _, hr⟩ := hs
          unfold liveS at ho
          rw [ho'] at ho
          simp only at ho
          split at ho
          · rename_i hg
            split at ho
            · simp at ho
            · obtain rfl := Option.some.inj ho
              obtain ⟨rfl, _, _⟩ := (hr hg).1 hn
              exact ⟨_, by simp [Builtin.cap_, run_underlying hu, goInt], .c (.v _)⟩
          · simp at ho
      · simp at h
    · simp at h
  · simp at h
end Go.Av

/- Maps of texts to closed data: made, asked, changed. -/
set_option linter.unusedVariables false
set_option linter.unusedSimpArgs false
namespace Go.Av
open Go
variable {P : Program} {w : World} {E : Env} {ob : List Ob}

def zeroV (P : Program) (t : TypeId) : Option M := match (P.info? t).bind (·.zero) with
  | some z => constM z
  | none => none
theorem zeroV_rep {t : TypeId} {m : M} (h : zeroV P t = some m) : ∃ z, (∀ w : World, (zeroValue t).run P w = .ok z w) ∧ ∀ (w : World) (E : Env) (ob : List Ob), RepM w E ob m z := by
  unfold zeroV at h
  split at h
  · rename_i z hz
    obtain ⟨i, hi, hiz⟩ := zero_of_ok hz
    exact ⟨z, fun w => run_zero hi hiz w, fun w E ob => rep_const h⟩
  · simp at h
def isStrKey (P : Program) (t : TypeId) : Option TypeId :=
  match P.underlying t with
  | some (.map kt et) => match P.underlying kt with
    | some .string => some et
    | _ => none
  | _ => none
theorem strKey_of {t et : TypeId} (h : isStrKey P t = some et) : ∃ kt, P.underlying t = some (.map kt et) ∧ P.underlying kt = some .string := by
  unfold isStrKey at h
  split at h
  · rename_i kt et' h1
    split at h
    · rename_i h2
      obtain rfl := Option.some.inj h
      exact ⟨kt, h1, h2⟩
    · simp at h
  · simp at h
def lookRes (ok : Bool) (m : M) (b : Bool) : M := if ok then .tup [m, .c (.v (.bool b))] else m
def entAt (es : List Ent) (k : ByteArray) : Option M := match findE es k with
  | some j => (es[j]?).map fun e => eM e.2
  | none => none
def lookupM (P : Program) (ob : List Ob) (t : TypeId) (ok : Bool) (x ix : M) : Option M :=
  match isStrKey P t, ix with
  | some et, .c (.v (.string k)) => match x with
    | .c (.v (.map none)) => (zeroV P et).map fun z => lookRes ok z false
    | .mm i => match mapAt ob i with
      | some es => match entAt es k with
        | some m => some (lookRes ok m true)
        | none => (zeroV P et).map fun z => lookRes ok z false
      | none => none
    | _ => none
  | _, _ => none
theorem rep_lift {m : M} {y : Value} (h : RepM w E [] m y) : RepM w E ob m y := h.keep ⟨fun b hb => ⟨hb, rfl⟩, fun i o ho => by simp at ho⟩
theorem rep_look {ok : Bool} {m : M} {y : Value} {b : Bool} (h : RepM w E ob m y) : RepM w E ob (lookRes ok m b) (if ok then .tuple #[y, .bool b] else y) := by
  unfold lookRes
  cases ok with
  | false => exact h
  | true =>
    refine .tup _ _ rfl (fun j hj m' hm => ?_)
    match j, hm with
    | 0, hm => obtain rfl := Option.some.inj hm; exact h
    | 1, hm => obtain rfl := Option.some.inj hm; exact .c (.v _)
theorem sound_lookup (hh : HeapOK w E ob) {t : TypeId} {ok : Bool} {x ix m : M} {y z : Value} (hx : RepM w E ob x y) (hi : RepM w E ob ix z) (h : lookupM P ob t ok x ix = some m) :
    ∃ v, (Instr.lookup t y z ok).run P w = .ok v w ∧ RepM w E ob m v := by
  unfold lookupM at h
  split at h
  · rename_i et k hk
    obtain ⟨kt, ht, hkt⟩ := strKey_of hk
    cases hi with
    | c hc =>
      cases hc
      have hck := fun e => MapKept.run_checkKey (P := P) (w := w) (k := .string k) hkt (by simp [MapKept.IsKey]) e 9999
      split at h
      · cases hx with
        | c hc =>
          cases hc
          obtain ⟨zm, hz, rfl⟩ := Option.map_eq_some_iff.1 h
          obtain ⟨v, hv, hr⟩ := zeroV_rep hz
          have hf : Instr.findNow .string (.string k) ([] : List MapEntry) 0 = some none := rfl
          refine ⟨_, ?_, rep_look (hr w E ob)⟩
          simp [Instr.lookup, run_underlying ht, hck, MapKept.run_findKey hkt hf, hv, Result.andThen]
      · rename_i i
        split at h
        · rename_i es hes
          obtain ⟨o, arr, _, _, _, rfl, hblk, hent⟩ := mapAt_rep hh hx hes
          have hfn := findNow_ent (l := arr.toList) k (fun j e he => by
            obtain ⟨x, h1, h2, _⟩ := hent.2 j e he
            exact ⟨x, by simpa using h1, h2⟩) (by simpa using hent.1) 0
          unfold entAt at h
          cases hfe : findE es k with
          | none =>
            rw [hfe] at h hfn
            simp only at h hfn
            obtain ⟨zm, hz, rfl⟩ := Option.map_eq_some_iff.1 h
            obtain ⟨v, hv, hr⟩ := zeroV_rep hz
            refine ⟨_, ?_, rep_look (hr w E ob)⟩
            simp [Instr.lookup, run_underlying ht, MapKept.run_getObj_map hblk, hck, MapKept.run_findKey hkt hfn, hv, Result.andThen]
          | some j =>
            rw [hfe] at h hfn
            simp only at h hfn
            obtain ⟨x, hx1, hx2⟩ := hfn
            obtain ⟨e, he, _⟩ := findE_some hfe
            rw [he] at h
            simp only [Option.map_some, Option.some.injEq] at h
            subst h
            obtain ⟨x', h1, h2, h3, h4⟩ := hent.2 j e he
            have : x = x' := by
              have : arr.toList[j]? = some x' := by simpa using h1
              rw [this] at hx1
              exact (Option.some.inj hx1).symm
            subst this
            refine ⟨_, ?_, rep_look (rep_lift h4)⟩
            simp [Instr.lookup, run_underlying ht, MapKept.run_getObj_map hblk, hck, MapKept.run_findKey hkt hx2, Result.andThen]
        · simp at h
      · simp at h
  · simp at h
def closeV : M → Option (Bool × List C)
  | .c c => some (false, [c])
  | .agg ms => (downs ms).map fun cs => (true, cs)
  | _ => none
theorem closeV_rep {m : M} {y : Value} {e : Bool × List C} (hx : RepM w E ob m y) (h : closeV m = some e) : RepM w E [] (eM e) y := by
  unfold closeV at h
  split at h
  · obtain rfl := Option.some.inj h
    cases hx with
    | c hc => exact .c hc
  · rename_i ms
    obtain ⟨cs, hd, rfl⟩ := Option.map_eq_some_iff.1 h
    have hms := up_downs hd
    subst hms
    cases hx with
    | agg _ arr hs ho hh =>
      refine .agg _ arr (by rw [hs]; simp [up]) ho (fun j hj m hm => ?_)
      have hm' : (up cs)[j]? = some m := hm
      have := hh j hj m hm'
      have hc : ∃ c, m = .c c := by
        simp only [List.getElem?_map, Option.map_eq_some_iff] at hm
        obtain ⟨c, _, rfl⟩ := hm
        exact ⟨c, rfl⟩
      obtain ⟨c, rfl⟩ := hc
      cases this with
      | c hc => exact .c hc
  · simp at h
def putE (es : List Ent) (k : ByteArray) (e : Bool × List C) : List Ent := match findE es k with
  | some j => es.set j (k, e)
  | none => es ++ [(k, e)]
def mapUpdateM (P : Program) (ob : List Ob) (t : TypeId) (x k v : M) : Option (List Ob) :=
  match isStrKey P t, k with
  | some _, .c (.v (.string kk)) => match x with
    | .mm i => match ob[i]? with
      | some o => match mapAt ob i with
        | some es => match closeV v with
          | some e => some (ob.set i { o with iter := some (.map (putE es kk e)) })
          | none => none
        | none => none
      | none => none
    | _ => none
  | _, _ => none
theorem ent_set {es : List Ent} {arr : Array MapEntry} {j : Nat} {k : ByteArray} {e : Bool × List C} {y : Value} (h : EntOK w E es arr) (hj : j < es.length) (hy : RepM w E [] (eM e) y) :
    EntOK w E (es.set j (k, e)) (arr.modify j fun x => { x with key := .string k, val := y }) := by
  refine ⟨by simp [h.1], fun i e' he => ?_⟩
  rw [getElem?_set] at he
  split at he
  · rename_i hij
    subst hij
    try rw [if_pos hj] at he
    obtain rfl := Option.some.inj he
    obtain ⟨x, h1, h2, h3, h4⟩ := h.2 j _ (List.getElem?_eq_getElem hj)
    exact ⟨{ x with key := .string k, val := y }, by simp [Array.getElem?_modify, h1], rfl, h3, hy⟩
  · rename_i hij
    obtain ⟨x, h1, h2⟩ := h.2 i _ he
    exact ⟨x, by simp [Array.getElem?_modify, hij, h1], h2⟩
theorem ent_push {es : List Ent} {arr : Array MapEntry} {k : ByteArray} {e : Bool × List C} {y : Value} (h : EntOK w E es arr) (hy : RepM w E [] (eM e) y) :
    EntOK w E (es ++ [(k, e)]) (arr.push { key := .string k, val := y, born := es.length }) := by
  refine ⟨by simp [h.1], fun i e' he => ?_⟩
  rw [getElem?_snoc] at he
  split at he
  · rename_i hlt
    obtain ⟨x, h1, h2⟩ := h.2 i _ he
    exact ⟨x, by rw [Array.getElem?_push, if_neg (by rw [h.1]; omega)]; exact h1, h2⟩
  · split at he
    · rename_i hi
      obtain rfl := Option.some.inj he
      exact ⟨_, by rw [Array.getElem?_push, if_pos (by rw [h.1]; exact hi)], rfl, hi.symm, hy⟩
    · simp at he
theorem ent_keep {w' : World} {E' : Env} {es : List Ent} {arr : Array MapEntry} (hk : ∀ b, E.st b → E'.st b ∧ w'.heap[b]? = w.heap[b]?) (h : EntOK w E es arr) : EntOK w' E' es arr :=
  ⟨h.1, fun j e he => by
    obtain ⟨x, a, b, c, d⟩ := h.2 j e he
    exact ⟨x, a, b, c, d.keep ⟨hk, fun i o ho => by simp at ho⟩⟩⟩
theorem sound_mapUpdate (hh : HeapOK w E ob) {t : TypeId} {x k v : M} {y z u : Value} {ob' : List Ob} (hx : RepM w E ob x y) (hk : RepM w E ob k z) (hv : RepM w E ob v u) (h : mapUpdateM P ob t x k v = some ob') :
    ∃ w', (Instr.mapUpdate t y z u).run P w = .ok () w' ∧ Step w E ob w' E ob' := by
  unfold mapUpdateM at h
  split at h
  · rename_i et kk hs
    obtain ⟨kt, ht, hkt⟩ := strKey_of hs
    cases hk with
    | c hc =>
      cases hc
      have hck := fun e => MapKept.run_checkKey (P := P) (w := w) (k := .string kk) hkt (by simp [MapKept.IsKey]) e 9999
      split at h
      · rename_i i
        split at h
        · rename_i o ho
          split at h
          · rename_i es hes
            split at h
            · rename_i e he
              obtain rfl := Option.some.inj h
              obtain ⟨o', arr, ho', hit, hni, rfl, hblk, hent⟩ := mapAt_rep hh hx hes
              obtain rfl := Option.some.inj (ho.symm.trans ho')
              have hrep := closeV_rep hv he
              have hfn := findNow_ent (l := arr.toList) kk (fun j e he => by
                obtain ⟨x, h1, h2, _⟩ := hent.2 j e he
                exact ⟨x, by simpa using h1, h2⟩) (by simpa using hent.1) 0
              have fin : ∀ (es' : List Ent) (arr' : Array MapEntry), EntOK w E es' arr' →
                  (Instr.mapUpdate t (.map (some (E.blk i))) (.string kk) u).run P w = .ok () { w with heap := w.heap.setIfInBounds (E.blk i) (.map arr' es'.length) } →
                  ∃ w', (Instr.mapUpdate t (.map (some (E.blk i))) (.string kk) u).run P w = .ok () w' ∧ Step w E ob w' E (ob.set i { o with iter := some (.map es') }) := fun es' arr' h1 h2 => by
                obtain ⟨q1, q2⟩ := MapKept.heap_set (o' := .map arr' es'.length) hblk
                refine ⟨_, h2, step_setOdd hh ho hni (by rw [hit]; rfl) (.map es') rfl rfl rfl (by simp) (fun b hb => q2 b hb) (fun ob' hext => ?_)⟩
                obtain ⟨k1, k2⟩ := ent_keep hext.st h1
                exact ⟨arr', q1, k1, k2⟩
              unfold putE
              cases hfe : findE es kk with
              | none =>
                rw [hfe] at hfn
                simp only at hfn ⊢
                refine fin _ _ (ent_push hent hrep) ?_
                simp [Instr.mapUpdate, run_underlying ht, MapKept.run_getObj_map hblk, hck, MapKept.run_findKey hkt hfn, MapKept.run_setObj_map _ hblk, Result.andThen]
              | some j =>
                rw [hfe] at hfn
                simp only at hfn ⊢
                obtain ⟨x, hx1, hx2⟩ := hfn
                obtain ⟨e', he', hek⟩ := findE_some hfe
                have hjl := (List.getElem?_eq_some_iff.1 he').1
                obtain ⟨x', h1, h2, h3, h4⟩ := hent.2 j e' he'
                refine fin _ _ (ent_set hent hjl hrep) ?_
                rw [Nat.zero_add] at hx2
                have hks := MapKept.run_keyThatStays (P := P) (w := w) (d := .string) (k := .string kk) (by simp [MapKept.IsKey])
                simp [Instr.mapUpdate, run_underlying ht, MapKept.run_getObj_map hblk, hck, MapKept.run_findKey hkt hx2, h1, h2, hek, hks, MapKept.run_setObj_map _ hblk, Result.andThen]
            · simp at h
          · simp at h
        · simp at h
      · simp at h
  · simp at h
def makeMapM (ob : List Ob) : M × List Ob := (.mm ob.length, ob ++ [oddOb (.map [])])
theorem sound_makeMap (hh : HeapOK w E ob) (t : TypeId) : ∃ v w' E', (Instr.makeMap t none).run P w = .ok v w' ∧ RepM w' E' (makeMapM ob).2 (makeMapM ob).1 v ∧ Step w E ob w' E' (makeMapM ob).2 := by
  refine ⟨.map (some w.heap.size), w.alloc (.map #[] 0), _, by simp [Instr.makeMap], .mm ⟨oddOb (.map []), by unfold makeMapM; rw [getElem?_snoc, if_neg (by omega), if_pos rfl], ⟨_, rfl⟩, ?_⟩, step_newOdd hh (.map []) (.map #[] 0) rfl rfl rfl rfl (fun E' ob' _ hb hn => ⟨#[], by rw [hb]; exact hn, rfl, fun j e he => by simp at he⟩)⟩
  simp [upd]
def nextQ (ob : List Ob) (x : M) : Option (Nat × Ob × Option (Nat × List Ent × List Nat)) :=
  match x with
  | .it i => match ob[i]? with
    | some o => match o.iter with
      | some (.mit none _ _) => some (i, o, none)
      | some (.mit (some m) n seen) => match mapAt ob m with
        | some es => if n = es.length then some (i, o, some (m, es, seen)) else none
        | none => none
      | _ => none
    | none => none
  | _ => none
def NextP (ob : List Ob) (x : M) (k : M → List Ob → Prop) : Prop :=
  match nextQ ob x with
  | some (_, _, none) => k (.tup [.c (.v (.bool false))]) ob
  | some (i, o, some (m, es, seen)) => (∀ (j : Nat) (e : Ent), es[j]? = some e → j ∉ seen → k (.tup [.c (.v (.bool true)), .c (.v (.string e.1)), eM e.2]) (ob.set i { o with iter := some (.mit (some m) es.length (seen ++ [j])) })) ∧
      ((∀ j, j < es.length → j ∈ seen) → k (.tup [.c (.v (.bool false))]) ob)
  | none => False
theorem rep_over : RepM w E ob (.tup [.c (.v (.bool false))]) (.tuple #[.bool false]) := by
  refine .tup _ _ rfl (fun j hj m hm => ?_)
  match j, hm with
  | 0, hm => obtain rfl := Option.some.inj hm; exact .c (.v _)
theorem sound_nextMap (hh : HeapOK w E ob) {ty : TypeId} {x : M} {y : Value} {k : M → List Ob → Prop} (hx : RepM w E ob x y) (h : NextP ob x k) :
    ∃ v w' m ob', (Instr.next y false ty).run P w = .ok v w' ∧ RepM w' E ob' m v ∧ Step w E ob w' E ob' ∧ k m ob' := by
  unfold NextP at h
  split at h
  · rename_i i o hq
    unfold nextQ at hq
    split at hq
    · rename_i i'
      split at hq
      · rename_i o' ho
        split at hq
        · rename_i n' seen' hit
          simp only [Option.some.injEq, Prod.mk.injEq] at hq
          obtain ⟨rfl, rfl, _⟩ := hq
          cases hx with
          | it hr =>
            obtain ⟨o2, ho2, _, rfl⟩ := hr
            obtain rfl := Option.some.inj (ho.symm.trans ho2)
            have hob := hh.obj _ _ ho
            unfold ObOK at hob
            rw [hit] at hob
            have hb : w.heap[E.blk i']? = some (.mapIter none 0 #[] 0) := hob.1
            exact ⟨_, w, _, ob, by simp [Instr.next, getObj, Sem.run, hb, Result.andThen], rep_over, .refl hh, h⟩
        · split at hq
          · split at hq <;> simp at hq
          · simp at hq
        · simp at hq
      · simp at hq
    · simp at hq
  · rename_i i o m es seen hq
    unfold nextQ at hq
    split at hq
    · rename_i i'
      split at hq
      · rename_i o' ho
        split at hq
        · simp at hq
        · rename_i m' n seen' hit
          split at hq
          · rename_i es' hes
            split at hq
            · rename_i hn
              simp only [Option.some.injEq, Prod.mk.injEq] at hq
              obtain ⟨rfl, rfl, rfl, rfl, rfl⟩ := hq
              subst hn
              cases hx with
              | it hr =>
                obtain ⟨o2, ho2, _, rfl⟩ := hr
                obtain rfl := Option.some.inj (ho.symm.trans ho2)
                have hob := hh.obj _ _ ho
                unfold ObOK at hob
                rw [hit] at hob
                obtain ⟨⟨hmi, ⟨om, hom, homi⟩, hblk⟩, hni⟩ := hob
                obtain ⟨o3, arr, _, _, _, _, hmb, hent⟩ := mapAt_rep hh (.mm ⟨om, hom, Option.isSome_iff_exists.1 homi, rfl⟩ : RepM w E ob (.mm m') (.map (some (E.blk m')))) hes
                have hborn : ∀ x ∈ arr.toList, ∃ j e, es'[j]? = some e ∧ x.born = j ∧ x.key = .string e.1 ∧ RepM w E [] (eM e.2) x.val := fun x hx => by
                  obtain ⟨j, hj⟩ := List.getElem?_of_mem hx
                  have hjl : j < es'.length := by
                    have := (List.getElem?_eq_some_iff.1 hj).1
                    simp at this
                    rw [hent.1] at this
                    exact this
                  obtain ⟨x', h1, h2, h3, h4⟩ := hent.2 j _ (List.getElem?_eq_getElem hjl)
                  have : x' = x := by
                    have h5 : arr.toList[j]? = some x' := by simpa using h1
                    rw [h5] at hj
                    exact Option.some.inj hj
                  subst this
                  exact ⟨j, _, List.getElem?_eq_getElem hjl, h3, h2, h4⟩
                rcases run_next_at (P := P) w ty (E.blk i') (E.blk m') es'.length es'.length seen'.toArray arr es'.length hblk hmb (fun x hx => by
                  obtain ⟨j, e, h1, h2, _⟩ := hborn x hx
                  rw [h2]
                  exact (List.getElem?_eq_some_iff.1 h1).1) (Nat.le_refl _) with ⟨hz, hrun⟩ | ⟨x, hxl, w1, hw1, hrun⟩
                · refine ⟨_, w, _, ob, hrun, rep_over, .refl hh, h.2 (fun j hj => ?_)⟩
                  obtain ⟨x, h1, h2, h3, h4⟩ := hent.2 j _ (List.getElem?_eq_getElem hj)
                  have he : leftOf arr seen'.toArray = #[] := Array.eq_empty_of_size_eq_zero hz
                  unfold leftOf at he
                  rw [Array.filter_eq_empty_iff] at he
                  have := he x (Array.mem_of_getElem? h1)
                  simpa [h3] using this
                · unfold leftOf at hxl
                  simp only [Array.toList_filter, List.mem_filter] at hxl
                  obtain ⟨hxm, hxs⟩ := hxl
                  obtain ⟨j, e, h1, h2, h3, h4⟩ := hborn x hxm
                  have hjs : j ∉ seen' := by
                    rw [h2] at hxs
                    simpa using hxs
                  have hw1h : w1.heap = w.heap := by rcases hw1 with rfl | rfl <;> rfl
                  have hsame : w1.os = w.os ∧ w1.tape = w.tape ∧ w1.output = w.output := by rcases hw1 with rfl | rfl <;> exact ⟨rfl, rfl, rfl⟩
                  have hbi : w1.heap[E.blk i']? = some (.mapIter (some (E.blk m')) es'.length seen'.toArray es'.length) := by rw [hw1h]; exact hblk
                  obtain ⟨q1, q2⟩ := MapKept.heap_set (o' := .mapIter (some (E.blk m')) es'.length (seen'.toArray.push x.born) es'.length) hbi
                  have hst : Step w E ob (ChangeMaps.setBlock w1 (E.blk i') (.mapIter (some (E.blk m')) es'.length (seen'.toArray.push x.born) es'.length)) E (ob.set i' { o' with iter := some (.mit (some m') es'.length (seen' ++ [j])) }) := by
                    refine step_setOdd hh ho hni (by rw [hit]; rfl) (.mit (some m') es'.length (seen' ++ [j])) hsame.1 hsame.2.1 hsame.2.2 (by simp [ChangeMaps.setBlock, hw1h]) (fun b hb => by rw [← hw1h]; exact q2 b hb) (fun ob' hext => ?_)
                    obtain ⟨om', a, _, b, c, _⟩ := hext.ob m' om hom
                    refine ⟨hmi, ⟨om', a, by rw [b]; exact homi⟩, ?_⟩
                    have : (seen' ++ [j]).toArray = seen'.toArray.push x.born := by rw [h2]; simp
                    rw [this]
                    exact q1
                  refine ⟨_, _, _, _, hrun, ?_, hst, h.1 j e h1 hjs⟩
                  refine .tup _ _ rfl (fun a ha q hq => ?_)
                  match a, hq with
                  | 0, hq => obtain rfl := Option.some.inj hq; exact .c (.v _)
                  | 1, hq =>
                    obtain rfl := Option.some.inj hq
                    show RepM _ _ _ _ x.key
                    rw [h3]; exact .c (.v _)
                  | 2, hq => obtain rfl := Option.some.inj hq; exact rep_lift (h4.keep ⟨hst.ext.st, fun i o ho => by simp at ho⟩)
            · simp at hq
          · simp at hq
        · simp at hq
      · simp at hq
    · simp at hq
  · exact h.elim
def entryM (ob : List Ob) (x : M) : Option M :=
  match nextQ ob x with
  | some (_, _, some (_, es, seen)) => match seen.getLast? with
    | some j => (es[j]?).map fun e => .tup [.c (.v (.string e.1)), eM e.2]
    | none => none
  | _ => none
theorem ent_born {es : List Ent} {arr : Array MapEntry} (h : EntOK w E es arr) : arr.toList.map (·.born) = List.range es.length := by
  apply List.ext_getElem?
  intro j
  rw [List.getElem?_map]
  by_cases hj : j < es.length
  · obtain ⟨x, h1, _, h3, _⟩ := h.2 j _ (List.getElem?_eq_getElem hj)
    have h5 : arr.toList[j]? = some x := by simpa using h1
    rw [h5, List.getElem?_range hj]
    simp [h3]
  · rw [List.getElem?_eq_none (by simp [h.1]; omega), List.getElem?_eq_none (by simp; omega)]
    rfl
theorem sound_entry (hh : HeapOK w E ob) {x m : M} {y : Value} (hx : RepM w E ob x y) (h : entryM ob x = some m) : ∃ v, (Instr.entry y).run P w = .ok v w ∧ RepM w E ob m v := by
  unfold entryM at h
  split at h
  · rename_i i o m' es seen hq
    split at h
    · rename_i j hj
      obtain ⟨e, he, rfl⟩ := Option.map_eq_some_iff.1 h
      unfold nextQ at hq
      split at hq
      · rename_i i'
        split at hq
        · rename_i o' ho
          split at hq
          · simp at hq
          · rename_i m'' n seen' hit
            split at hq
            · rename_i es' hes
              split at hq
              · rename_i hn
                simp only [Option.some.injEq, Prod.mk.injEq] at hq
                obtain ⟨rfl, rfl, rfl, rfl, rfl⟩ := hq
                subst hn
                cases hx with
                | it hr =>
                  obtain ⟨o2, ho2, _, rfl⟩ := hr
                  obtain rfl := Option.some.inj (ho.symm.trans ho2)
                  have hob := hh.obj _ _ ho
                  unfold ObOK at hob
                  rw [hit] at hob
                  obtain ⟨⟨hmi, ⟨om, hom, homi⟩, hblk⟩, hni⟩ := hob
                  obtain ⟨o3, arr, _, _, _, _, hmb, hent⟩ := mapAt_rep hh (.mm ⟨om, hom, Option.isSome_iff_exists.1 homi, rfl⟩ : RepM w E ob (.mm m'') (.map (some (E.blk m'')))) hes
                  obtain ⟨x, h1, h2, h3, h4⟩ := hent.2 j e he
                  have hsp : seen'.toArray = (seen'.dropLast.toArray).push x.born := by
                    have hne : seen' ≠ [] := fun e => by rw [e] at hj; simp at hj
                    have hl : seen'.getLast hne = j := by rw [List.getLast?_eq_some_getLast hne] at hj; exact Option.some.inj hj
                    have := List.dropLast_concat_getLast hne
                    rw [hl] at this
                    have t2 : (seen'.dropLast ++ [j]).toArray = seen'.dropLast.toArray.push j := by simp
                    rw [h3, ← t2, this]
                  rw [hsp] at hblk
                  refine ⟨_, run_entry_at (P := P) w (E.blk i') (E.blk m'') es'.length seen'.dropLast.toArray arr es'.length x hblk hmb (List.mem_of_getElem? (by simpa using h1 : arr.toList[j]? = some x)) (by rw [ent_born hent]; exact List.nodup_range), ?_⟩
                  refine .tup _ _ rfl (fun a ha q hq => ?_)
                  match a, hq with
                  | 0, hq =>
                    obtain rfl := Option.some.inj hq
                    show RepM _ _ _ _ x.key
                    rw [h2]; exact .c (.v _)
                  | 1, hq => obtain rfl := Option.some.inj hq; exact rep_lift h4
              · simp at hq
            · simp at hq
          · simp at hq
        · simp at hq
      · simp at hq
    · simp at h
  · simp at h
end Go.Av
