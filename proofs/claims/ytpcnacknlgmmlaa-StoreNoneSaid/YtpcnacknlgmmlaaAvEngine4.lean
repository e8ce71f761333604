/- 7 texts of the program logic over abstract values, joined: each is proved without any condition beyond its own words. -/
import Derived.Test.YtpcnacknlgmmlaaAvEngine3
import Derived.Laws.AppendOwn
/- Contracts that speak of no object hold beside any; functions carried out on closed data, by computation. -/
set_option linter.unusedVariables false
set_option linter.unusedSimpArgs false
namespace Go.Av
open Go
variable {P : Program} {X : Ctx}

/-- What is closed is handed in, and comes back: whatever objects there are, they stay as they are. -/
theorem Den.frame {f : FuncId} {args : List M} {m : M} (ha : ltBs 0 args = true) (hm : ltB 0 m = true) (h : Den P f args [] fun r _ => r = m) : DenV P f args m := by
  intro ob w E vals h1 h2 h3
  have h0 : HeapOK w E [] := ⟨fun i o hi => by simp at hi, fun i j a b hi => by simp at hi, h3.stb, fun i o hi => by simp at hi⟩
  refine (h w E vals h1 (fun j m hj => rep_lower (ob := []) (ext := ob) (h2 j m hj) (lt_of_ltBs ha j m hj)) h0).mono ?_
  rintro v w' ⟨r, ob', E', rfl, hr, hs⟩
  have hno : ∀ b, ¬ owns E [] b := fun b ⟨i, o, hi, _⟩ => by simp at hi
  have hblk : ∀ b, b < w.heap.size → w'.heap[b]? = w.heap[b]? := fun b hb => hs.base.block b hb (hno b)
  have hstof : ∀ b, E'.st b → E.st b ∨ w.heap.size ≤ b := fun b hb => by
    rcases hs.base.st_of b hb with h | h | h
    · exact .inl h
    · exact absurd h (hno b)
    · exact .inr h
  have hext : Ext w E ob w' { E' with blk := E.blk, asz := E.asz } ob := ⟨fun b hb => hs.ext.st b hb, fun i o hi => ⟨o, hi, Nat.le_refl _, rfl, fun _ => rfl, fun _ => ⟨rfl, rfl, rfl, rfl⟩⟩⟩
  refine ⟨r, ob, { E' with blk := E.blk, asz := E.asz }, ⟨rfl, rfl⟩, ?_, ⟨⟨fun i o hi => ?_, fun i j a b hi hj => h3.inj i j a b hi hj, fun b hb => hs.heap.stb b hb, fun i o hi hn => ?_⟩, hext, ⟨hs.base.os, hs.base.tape, hs.base.output, hs.base.size, fun b hb _ => hblk b hb, hs.base.st, fun b hb => ?_, fun i o hi hn => .inl ⟨i, o, hi, hn, rfl⟩⟩⟩⟩
  · have hr0 : RepM w' E' [] r v := rep_lower (ob := []) (ext := ob') hr (lt_of_ltB hm)
    exact hr0.keep (E := E') (E' := { E' with blk := E.blk, asz := E.asz }) (ob' := ob) ⟨fun b hb => ⟨hb, rfl⟩, fun i o (hi : ([] : List Ob)[i]? = some o) => by simp at hi⟩
  · exact (h3.obj i o hi).keep hext rfl rfl (fun hn => hblk _ (h3.own i o hi hn).2)
  · have := h3.own i o hi hn
    refine ⟨fun hst => ?_, by have := hs.base.size; simp only; omega⟩
    rcases hstof _ hst with h | h
    · exact this.1 h
    · simp only at h; omega
  · rcases hstof b hb with h | h
    · exact .inl h
    · exact .inr (.inr h)

/-! ### carried out -/
inductive Ex where
  | n
  | x (id : Nat)
  | r
def Ex.to : Ex → Exit
  | .n => .normal
  | .x id => .exit id
  | .r => .ret
def putD (fr : List (Nat × M)) (d : Option Nat) (m : M) : List (Nat × M) :=
  match d with
  | some t => (t, m) :: fr.filter fun p => !(p.1 == t)
  | none => fr
def runOps (P : Program) (N : Nat) (call : FuncId → List M → List Ob → Option (M × List Ob)) (ops : Array Oper) : List Oper → St → Option St
  | [], s => some s
  | o :: rest, s =>
    if dstOK N o then
      match guardV ops s.fr o with
      | none => none
      | some false => runOps P N call ops rest ⟨putD s.fr o.dst (.tup []), s.ob⟩
      | some true => match callOf P s.ob s.fr o.op with
        | some (f, args) => match call f args s.ob with
          | some (m, ob') => runOps P N call ops rest ⟨putD s.fr o.dst m, ob'⟩
          | none => none
        | none => match evOp P s.fr s.ob o.op o.type with
          | some (m, ob') => runOps P N call ops rest ⟨putD s.fr o.dst m, ob'⟩
          | none => none
    else none
def pureOp : Op → Bool
  | .move _ | .assign _ | .pick _ _ _ | .load _ _ | .nilCheck _ | .binOp _ _ _ _ _ | .unOp _ _ _ | .fieldAddr _ _ _ | .field _ _ _ | .indexAddr _ _ _ | .index _ _ _ | .extract _ _ | .build _ _ | .buildSlice _ _ _ | .slice _ _ _ _ _ | .makeInterface _ _ | .typeAssert _ _ _ _ => true
  | .call c => match c.callee with
    | .builtin .len | .builtin .min | .builtin .max | .builtin .cap => true
    | _ => false
  | _ => false
def runDraw (P : Program) (N : Nat) (call : FuncId → List M → List Ob → Option (M × List Ob)) (ops : Array Oper) (cuts : List Nat) : Nat → List Oper → List (Nat × M) → List Ob → Option (List (Nat × M) × List Ob)
  | _, [], fr, ob => some (fr, ob)
  | k, o :: rest, fr, ob =>
    if dstOK N o then
      match guardV ops fr o with
      | none => none
      | some false => runDraw P N call ops cuts (k + 1) rest (putD fr o.dst (.tup [])) ob
      | some true => match callOf P ob fr o.op with
        | some (f, args) => if mayB cuts k then (match call f args ob with
            | some (m, ob') => runDraw P N call ops cuts (k + 1) rest (putD fr o.dst m) ob'
            | none => none) else if ltBs 0 args then (match call f args [] with
            | some (m, _) => if ltB 0 m then runDraw P N call ops cuts (k + 1) rest (putD fr o.dst m) ob else none
            | none => none) else none
        | none => match evOp P fr ob o.op o.type with
          | some (m, ob') => if mayB cuts k then runDraw P N call ops cuts (k + 1) rest (putD fr o.dst m) ob' else if pureOp o.op then runDraw P N call ops cuts (k + 1) rest (putD fr o.dst m) ob else none
          | none => none
    else none
mutual
def runC (P : Program) (N : Nat) : Nat → Code → St → Option (Ex × St)
  | 0, _, _ => none
  | n + 1, c, s => match c with
    | .seq x y => match runC P N n x s with
      | some (.n, s') => runC P N n y s'
      | r => r
    | .cond c x y => match asB (opM s.fr c) with
      | some true => runC P N n x s
      | some false => runC P N n y s
      | none => none
    | .block id c => match runC P N n c s with
      | some (.x id', s') => if id' = id then some (.n, s') else some (.x id', s')
      | r => r
    | .skip => some (.n, s)
    | .label _ => some (.n, s)
    | .exit id => some (.x id, s)
    | .ret => some (.r, s)
    | .scope c => runC P N n c s
    | .loop c => match runC P N n c s with
      | some (.n, s') => runC P N n (.loop c) s'
      | r => r
    | .region _ ⟨l⟩ false => match runOps P N (runF P n) l.toArray l s with
      | some s' => some (.n, s')
      | none => none
    | .region _ ⟨l⟩ true => if P.follows .mixedOrders then (if drawOK l (cutsFrom 0 l) then (match runDraw P N (runF P n) l.toArray (cutsFrom 0 l) 0 l s.fr s.ob with
      | some (fr, ob) => some (.n, ⟨fr, ob⟩)
      | none => none) else none) else none
    | _ => none
def runF (P : Program) : Nat → FuncId → List M → List Ob → Option (M × List Ob)
  | 0, _, _, _ => none
  | n + 1, f, args, ob => match P.funcs[f]? with
    | some fn => if fn.name == "runtime.NumGoroutine" then none else match fn.body with
      | some c => if args.length ≤ fn.ntmps then (match runC P fn.ntmps n c ⟨slots 0 args, ob⟩ with
        | some (.n, s) => (resOf P s.ob s.fr fn.results.toList).map fun m => (m, s.ob)
        | some (.r, s) => (resOf P s.ob s.fr fn.results.toList).map fun m => (m, s.ob)
        | _ => none) else none
      | none => none
    | none => none
end

/-- Frames that tell the same. -/
def SameF (a b : List (Nat × M)) : Prop := ∀ t, get a t = get b t
theorem SameF.symm {a b : List (Nat × M)} (h : SameF a b) : SameF b a := fun t => (h t).symm
theorem Awp.same {c : Code} {Q : Exit → St → Prop} {fr fr' : List (Nat × M)} {ob : List Ob} (h : Awp P X c Q ⟨fr', ob⟩) (hs : SameF fr fr') : Awp P X c Q ⟨fr, ob⟩ := h.weak ⟨fun t m hg => by simp only at hg ⊢; rw [hs t]; exact hg, rfl⟩

abbrev CallOK (P : Program) (call : FuncId → List M → List Ob → Option (M × List Ob)) : Prop := ∀ f args ob m ob', call f args ob = some (m, ob') → Den P f args ob fun r ob2 => r = m ∧ ob2 = ob'

end Go.Av

/- Numbers: what wraps, and bits, by words. -/
set_option linter.unusedVariables false
set_option linter.unusedSimpArgs false
namespace Go.Av
open Go

/-! ### words of 32 bits -/
def w32 (x : BitVec 32) : C := .v (.int .u32 (x.toNat : Int))
def w64 (x : BitVec 64) : C := .v (.int .u64 (x.toNat : Int))
end Go.Av
namespace Go.Av
@[simp] theorem bytesM_cons (n : Int) (cs : List C) : bytesM (up (.v (.int .u8 n) :: cs)) = (bytesM (up cs)).map (UInt8.ofNat n.toNat :: ·) := rfl
end Go.Av
namespace Go.Av
open Go
/-- A word, as a whole number; under a name, so that it stays whole. -/
def wI (x : BitVec 32) : Int := (x.toNat : Int)
def wC (x : BitVec 32) : C := .v (.int .u32 (wI x))
end Go.Av
namespace Go.Av
open Go
variable {P : Program}
/-- Is it this function's call? -/
theorem Den.at_ {f : FuncId} {args : List M} {ob : List Ob} {K : M → List Ob → Prop} (h : Den P f args ob K) : Den P f args ob K := h
theorem drawn_at {f : FuncId} {args : List M} {ob : List Ob} {A : M → List Ob → Prop} (h : ∃ m ob2, Den P f args ob (fun r ob' => r = m ∧ ob' = ob2) ∧ A m ob2) : ∃ m ob2, Den P f args ob (fun r ob' => r = m ∧ ob' = ob2) ∧ A m ob2 := h
end Go.Av
namespace Go.Av
@[simp] theorem lay_up1 (cs : List C) (off : Nat) (a : C) : lay (up cs) off (up [a]) = up (cs.set off a) := by simp [up, lay_one, List.map_set]
@[simp] theorem lay_up2 (cs : List C) (off : Nat) (a b : C) (r : List C) : lay (up cs) off (up (a :: b :: r)) = up (cs.take off ++ ((a :: b :: r) ++ cs.drop (off + (a :: b :: r).length))) := by
  show lay (up cs) off (M.c a :: M.c b :: up r) = _
  rw [lay_two]
  simp [up]
end Go.Av

/- Contracts of the library that are proved over the world, as contracts over states. -/
set_option linter.unusedVariables false
set_option linter.unusedSimpArgs false
namespace Go.Av
open Go Go.RowKit
variable {P : Program}

/-- What answers with a plain datum and leaves all that lay there as it was. -/
theorem Den.of_below {f : FuncId} {args : List M} {x : Value} (hok : okF P f = true) (ha : ltBs 0 args = true)
    (h : ∀ (w : World) (E : Env) (vals : Array Value), vals.size = args.length → (∀ (j : Nat) m, args[j]? = some m → RepM w E [] m (vals.getD j undef)) → (∀ b, E.st b → b < w.heap.size) →
      Calls P f vals w fun e w' => e = .returned x ∧ Below w.heap.size w w') : DenV P f args (.c (.v x)) := by
  refine Den.frame ha rfl ?_
  intro w E vals h1 h2 h3
  refine .inl ⟨hok, (h w E vals h1 h2 h3.stb).mono ?_⟩
  rintro e w' ⟨rfl, hb⟩
  refine ⟨x, rfl, .c (.v x), [], E, rfl, .c (.v x), ⟨⟨fun i o hi => by simp at hi, fun i j a b hi => by simp at hi, fun b hb' => Nat.lt_of_lt_of_le (h3.stb b hb') hb.size, fun i o hi => by simp at hi⟩, ⟨fun b hb' => ⟨hb', hb.block b (h3.stb b hb')⟩, fun i o hi => by simp at hi⟩, ⟨hb.os, hb.tape, hb.output, hb.size, fun b hb' _ => hb.block b hb', fun _ h => h, fun _ h => .inl h, fun i o hi => by simp at hi⟩⟩⟩
/-- A scalar argument. -/
theorem arg_v {w : World} {E : Env} {ob : List Ob} {x y : Value} (h : RepM w E ob (.c (.v x)) y) : y = x := by
  cases h with
  | c h => cases h; rfl
end Go.Av

/- A slice's object is given up, with what came after it. -/
set_option linter.unusedVariables false
set_option linter.unusedSimpArgs false
namespace Go.Av
open Go Go.RowKit
variable {P : Program} {X : Ctx}
end Go.Av

/- A contract over the world whose answer is a row of its own, as a contract over states. -/
set_option linter.unusedVariables false
set_option linter.unusedSimpArgs false
namespace Go.Av
open Go Go.RowKit
variable {P : Program}
end Go.Av

/- Contracts hold beside objects of which they do not speak. -/
set_option linter.unusedVariables false
set_option linter.unusedSimpArgs false
namespace Go.Av
open Go
variable {P : Program} {X : Ctx}
end Go.Av

/- A region that draws its order, where changes of objects need not stand in order with all else: what the objects are is told of each set of operations that may have been carried out. -/
set_option linter.unusedVariables false
set_option linter.unusedSimpArgs false
namespace Go.Av
open Go
variable {P : Program} {X : Ctx}

/-- A new variable, into a place that was kept for it. -/
def MatS (P : Program) (ob ob2 : List Ob) (op : Op) (m : M) : Prop :=
  ∃ e zs idx, op = .alloc e ∧ zeroT P e = some zs ∧ ob[idx]? = some { ty := e, sz := szOb P e, nil := true, gen := 0, cs := [] } ∧ m = .mp idx 1 0 ∧ ob2 = ob.set idx { ty := e, sz := szOb P e, nil := false, gen := 1, cs := zs }
def StepS (P : Program) (N : Nat) (ops : Array Oper) (ob ob2 : List Ob) (fr : List (Nat × M)) (o : Oper) (m : M) : Prop :=
  dstOK N o = true ∧ ((guardV ops fr o = some false ∧ m = .tup [] ∧ ob2 = ob) ∨ (guardV ops fr o = some true ∧
    ((∃ f args, callOf P ob fr o.op = some (f, args) ∧ Den P f args ob fun r ob' => r = m ∧ ob' = ob2) ∨ (callOf P ob fr o.op = none ∧ (evOp P fr ob o.op o.type = some (m, ob2) ∨ MatS P ob ob2 o.op m)))))
end Go.Av
namespace Go.Av
open Go
variable {P : Program} {X : Ctx}
end Go.Av
namespace Go.Av
open Go
variable {P : Program} {X : Ctx}
theorem step_give3 {w w' : World} {E E' : Env} {ob om ext : List Ob} (hle : ob.length ≤ om.length) (hs : Step w E ob w' E' (om ++ ext)) (h0 : ∀ (i : Nat) (o : Ob) (j : Nat) (m : M), om[i]? = some o → o.iter = none → o.cs[j]? = some m → Lt om.length m) :
    Step w E ob w' { E' with st := fun b => E'.st b ∨ ∃ (i : Nat) (o : Ob), ext[i]? = some o ∧ o.nil = false ∧ b = E'.blk (om.length + i) } om := by
  obtain ⟨hh, hx, hb⟩ := hs
  have hinc : ∀ (i : Nat) (q : Ob), om[i]? = some q → (om ++ ext)[i]? = some q := fun i q hq => by
    rw [List.getElem?_append_left (List.getElem?_eq_some_iff.1 hq).1]; exact hq
  have hnew : ∀ (i : Nat) (q : Ob), ext[i]? = some q → (om ++ ext)[om.length + i]? = some q := fun i q hq => by
    rw [List.getElem?_append_right (by omega)]; simpa using hq
  have hne : ∀ (i k : Nat) (q o : Ob), om[i]? = some q → q.nil = false → ext[k]? = some o → o.nil = false → E'.blk i ≠ E'.blk (om.length + k) := fun i k q o hq hqn ho hon he => by
    have h1 := hh.inj i (om.length + k) q o (hinc i q hq) (hnew k o ho) hqn hon he
    have h2 := (List.getElem?_eq_some_iff.1 hq).1
    omega
  have hext : Ext w' E' (om ++ ext) w' { E' with st := fun b => E'.st b ∨ ∃ (i : Nat) (o : Ob), ext[i]? = some o ∧ o.nil = false ∧ b = E'.blk (om.length + i) } (om ++ ext) :=
    ⟨fun b hb => ⟨.inl hb, rfl⟩, fun i q hq => ⟨q, hq, Nat.le_refl _, rfl, fun _ => rfl, fun _ => ⟨rfl, rfl, rfl, rfl⟩⟩⟩
  refine ⟨⟨fun i q hq => ?_, fun i j oi oj hi hj ni nj he => hh.inj i j oi oj (hinc i oi hi) (hinc j oj hj) ni nj he, fun b hb => ?_, fun i q hq hn => ?_⟩, ⟨fun b hb => ⟨.inl (hx.st b hb).1, (hx.st b hb).2⟩, fun i q hq => ?_⟩, ⟨hb.os, hb.tape, hb.output, hb.size, hb.block, fun b h => .inl (hb.st b h), fun b h => ?_, fun i q hq hn => hb.own i q (hinc i q hq) hn⟩⟩
  · have h1 := hh.obj i q (hinc i q hq)
    unfold ObOK at h1 ⊢
    split
    · rename_i q0 hit
      rw [hit] at h1
      exact ⟨(h1.1.keep hext rfl rfl).less (List.getElem?_eq_some_iff.1 hq).1, h1.2⟩
    · rename_i hit
      rw [hit] at h1
      refine ⟨h1.1, fun hn => ?_⟩
      obtain ⟨arr, lo, hi, e1, e2, e3, e4⟩ := h1.2 hn
      refine ⟨arr, lo, hi, e1, e2, e3, fun j m hm => ?_⟩
      obtain ⟨y, hy, q1, q2⟩ := e4 j m hm
      exact ⟨y, hy, q1, rep_lower (q2.keep hext) (h0 i q j m hq hit hm)⟩
  · rcases hb with hb | ⟨i, o, ho, hn, rfl⟩
    · exact hh.stb b hb
    · exact (hh.own _ o (hnew i o ho) hn).2
  · obtain ⟨a, b⟩ := hh.own i q (hinc i q hq) hn
    refine ⟨fun hs => ?_, b⟩
    rcases hs with hs | ⟨k, o, ho, hon, he⟩
    · exact a hs
    · exact hne i k q o hq hn ho hon he
  · obtain ⟨q', hq', r⟩ := hx.ob i q hq
    have hlt := (List.getElem?_eq_some_iff.1 hq).1
    have : om[i]? = some q' := by rw [← hq', List.getElem?_append_left (by omega)]
    exact ⟨q', this, r⟩
  · rcases h with h | ⟨i, o, ho, hn, rfl⟩
    · exact hb.st_of b h
    · rcases hb.own _ o (hnew i o ho) hn with h | hge
      · exact .inr (.inl h)
      · exact .inr (.inr hge)

/-- The same, of a contract. -/
theorem Den.forget {f : FuncId} {args : List M} {ob ob2 : List Ob} {m : M} (hle : ob.length ≤ ob2.length) (hm : ltB ob2.length m = true) (hom : ob2.all (fun q => q.cs.all (ltB ob2.length)) = true) (h : Den P f args ob fun r ob' => r = m ∧ ∃ e, ob' = ob2 ++ e) : Den P f args ob fun r ob' => r = m ∧ ob' = ob2 := by
  intro w E vals h1 h2 h3
  refine (h w E vals h1 h2 h3).mono ?_
  rintro v w' ⟨r, ob', E', ⟨rfl, e, rfl⟩, hr, hs⟩
  have hst := step_give3 hle hs fun i q j m hi hit hj => lt_of_ltB (List.all_eq_true.1 (List.all_eq_true.1 hom q (List.mem_of_getElem? hi)) m (List.mem_of_getElem? hj))
  refine ⟨_, _, _, ⟨rfl, rfl⟩, rep_lower (ext := e) (hr.keep ?_) (lt_of_ltB hm), hst⟩
  exact ⟨fun b hb => ⟨.inl hb, rfl⟩, fun i q hq => ⟨q, hq, Nat.le_refl _, rfl, fun _ => rfl, fun _ => ⟨rfl, rfl, rfl, rfl⟩⟩⟩
end Go.Av
namespace Go.Av
open Go
variable {P : Program} {X : Ctx}
end Go.Av
