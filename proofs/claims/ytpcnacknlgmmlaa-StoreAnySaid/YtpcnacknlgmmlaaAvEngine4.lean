/- 10 texts of the program logic over abstract values, joined: each is proved without any condition beyond its own words. -/
import Derived.Test.YtpcnacknlgmmlaaAvEngine3
import Derived.Laws.AppendOwn
import GoSem.Op.String
/- Contracts that speak of no object hold beside any; functions carried out on closed data, by computation. -/
set_option linter.unusedVariables false
set_option linter.unusedSimpArgs false
namespace Go.Av
open Go
variable {P : Program} {X : Ctx}

/-- What is closed is handed in, and comes back: whatever objects there are, they stay as they are. -/
theorem Den.frame {f : FuncId} {args : List M} {m : M} (ha : ltBs 0 args = true) (hm : ltB 0 m = true) (h : Den P f args [] fun r _ => r = m) : DenV P f args m := by
  intro ob w E vals h1 h2 h3
  have h0 : HeapOK w E [] := ⟨fun i o hi => by simp at hi, fun i j a b hi => by simp at hi, h3.stb, fun i o hi => by simp at hi⟩
  refine (h w E vals h1 (fun j m hj => rep_lower (ob := []) (ext := ob) (h2 j m hj) (lt_of_ltBs ha j m hj)) h0).mono ?_
  rintro v w' ⟨r, ob', E', rfl, hr, hs⟩
  have hno : ∀ b, ¬ owns E [] b := fun b ⟨i, o, hi, _⟩ => by simp at hi
  have hblk : ∀ b, b < w.heap.size → w'.heap[b]? = w.heap[b]? := fun b hb => hs.base.block b hb (hno b)
  have hstof : ∀ b, E'.st b → E.st b ∨ w.heap.size ≤ b := fun b hb => by
    rcases hs.base.st_of b hb with h | h | h
    · exact .inl h
    · exact absurd h (hno b)
    · exact .inr h
  have hext : Ext w E ob w' { E' with blk := E.blk, asz := E.asz } ob := ⟨fun b hb => hs.ext.st b hb, fun i o hi => ⟨o, hi, Nat.le_refl _, rfl, fun _ => rfl, fun _ => ⟨rfl, rfl, rfl, rfl⟩⟩⟩
  refine ⟨r, ob, { E' with blk := E.blk, asz := E.asz }, ⟨rfl, rfl⟩, ?_, ⟨⟨fun i o hi => ?_, fun i j a b hi hj => h3.inj i j a b hi hj, fun b hb => hs.heap.stb b hb, fun i o hi hn => ?_⟩, hext, ⟨hs.base.os, hs.base.tape, hs.base.output, hs.base.size, fun b hb _ => hblk b hb, hs.base.st, fun b hb => ?_, fun i o hi hn => .inl ⟨i, o, hi, hn, rfl⟩⟩⟩⟩
  · have hr0 : RepM w' E' [] r v := rep_lower (ob := []) (ext := ob') hr (lt_of_ltB hm)
    exact hr0.keep (E := E') (E' := { E' with blk := E.blk, asz := E.asz }) (ob' := ob) ⟨fun b hb => ⟨hb, rfl⟩, fun i o (hi : ([] : List Ob)[i]? = some o) => by simp at hi⟩
  · exact (h3.obj i o hi).keep hext rfl rfl (fun hn => hblk _ (h3.own i o hi hn).2)
  · have := h3.own i o hi hn
    refine ⟨fun hst => ?_, by have := hs.base.size; simp only; omega⟩
    rcases hstof _ hst with h | h
    · exact this.1 h
    · simp only at h; omega
  · rcases hstof b hb with h | h
    · exact .inl h
    · exact .inr (.inr h)

/-! ### carried out -/
inductive Ex where
  | n
  | x (id : Nat)
  | r
def Ex.to : Ex → Exit
  | .n => .normal
  | .x id => .exit id
  | .r => .ret
def putD (fr : List (Nat × M)) (d : Option Nat) (m : M) : List (Nat × M) :=
  match d with
  | some t => (t, m) :: fr.filter fun p => !(p.1 == t)
  | none => fr
def runOps (P : Program) (N : Nat) (call : FuncId → List M → List Ob → Option (M × List Ob)) (ops : Array Oper) : List Oper → St → Option St
  | [], s => some s
  | o :: rest, s =>
    if dstOK N o then
      match guardV ops s.fr o with
      | none => none
      | some false => runOps P N call ops rest ⟨putD s.fr o.dst (.tup []), s.ob⟩
      | some true => match callOf P s.ob s.fr o.op with
        | some (f, args) => match call f args s.ob with
          | some (m, ob') => runOps P N call ops rest ⟨putD s.fr o.dst m, ob'⟩
          | none => none
        | none => match evOp P s.fr s.ob o.op o.type with
          | some (m, ob') => runOps P N call ops rest ⟨putD s.fr o.dst m, ob'⟩
          | none => none
    else none
def pureOp : Op → Bool
  | .move _ | .assign _ | .pick _ _ _ | .load _ _ | .nilCheck _ | .binOp _ _ _ _ _ | .unOp _ _ _ | .fieldAddr _ _ _ | .field _ _ _ | .indexAddr _ _ _ | .index _ _ _ | .extract _ _ | .build _ _ | .buildSlice _ _ _ | .slice _ _ _ _ _ | .makeInterface _ _ | .typeAssert _ _ _ _ => true
  | .call c => match c.callee with
    | .builtin .len | .builtin .min | .builtin .max | .builtin .cap => true
    | _ => false
  | _ => false
def runDraw (P : Program) (N : Nat) (call : FuncId → List M → List Ob → Option (M × List Ob)) (ops : Array Oper) (cuts : List Nat) : Nat → List Oper → List (Nat × M) → List Ob → Option (List (Nat × M) × List Ob)
  | _, [], fr, ob => some (fr, ob)
  | k, o :: rest, fr, ob =>
    if dstOK N o then
      match guardV ops fr o with
      | none => none
      | some false => runDraw P N call ops cuts (k + 1) rest (putD fr o.dst (.tup [])) ob
      | some true => match callOf P ob fr o.op with
        | some (f, args) => if mayB cuts k then (match call f args ob with
            | some (m, ob') => runDraw P N call ops cuts (k + 1) rest (putD fr o.dst m) ob'
            | none => none) else if ltBs 0 args then (match call f args [] with
            | some (m, _) => if ltB 0 m then runDraw P N call ops cuts (k + 1) rest (putD fr o.dst m) ob else none
            | none => none) else none
        | none => match evOp P fr ob o.op o.type with
          | some (m, ob') => if mayB cuts k then runDraw P N call ops cuts (k + 1) rest (putD fr o.dst m) ob' else if pureOp o.op then runDraw P N call ops cuts (k + 1) rest (putD fr o.dst m) ob else none
          | none => none
    else none
mutual
def runC (P : Program) (N : Nat) : Nat → Code → St → Option (Ex × St)
  | 0, _, _ => none
  | n + 1, c, s => match c with
    | .seq x y => match runC P N n x s with
      | some (.n, s') => runC P N n y s'
      | r => r
    | .cond c x y => match asB (opM s.fr c) with
      | some true => runC P N n x s
      | some false => runC P N n y s
      | none => none
    | .block id c => match runC P N n c s with
      | some (.x id', s') => if id' = id then some (.n, s') else some (.x id', s')
      | r => r
    | .skip => some (.n, s)
    | .label _ => some (.n, s)
    | .exit id => some (.x id, s)
    | .ret => some (.r, s)
    | .scope c => runC P N n c s
    | .loop c => match runC P N n c s with
      | some (.n, s') => runC P N n (.loop c) s'
      | r => r
    | .region _ ⟨l⟩ false => match runOps P N (runF P n) l.toArray l s with
      | some s' => some (.n, s')
      | none => none
    | .region _ ⟨l⟩ true => if P.follows .mixedOrders then (if drawOK l (cutsFrom 0 l) then (match runDraw P N (runF P n) l.toArray (cutsFrom 0 l) 0 l s.fr s.ob with
      | some (fr, ob) => some (.n, ⟨fr, ob⟩)
      | none => none) else none) else none
    | _ => none
def runF (P : Program) : Nat → FuncId → List M → List Ob → Option (M × List Ob)
  | 0, _, _, _ => none
  | n + 1, f, args, ob => match P.funcs[f]? with
    | some fn => if fn.name == "runtime.NumGoroutine" then none else match fn.body with
      | some c => if args.length ≤ fn.ntmps then (match runC P fn.ntmps n c ⟨slots 0 args, ob⟩ with
        | some (.n, s) => (resOf P s.ob s.fr fn.results.toList).map fun m => (m, s.ob)
        | some (.r, s) => (resOf P s.ob s.fr fn.results.toList).map fun m => (m, s.ob)
        | _ => none) else none
      | none => none
    | none => none
end

/-- Frames that tell the same. -/
def SameF (a b : List (Nat × M)) : Prop := ∀ t, get a t = get b t
theorem SameF.symm {a b : List (Nat × M)} (h : SameF a b) : SameF b a := fun t => (h t).symm
theorem Awp.same {c : Code} {Q : Exit → St → Prop} {fr fr' : List (Nat × M)} {ob : List Ob} (h : Awp P X c Q ⟨fr', ob⟩) (hs : SameF fr fr') : Awp P X c Q ⟨fr, ob⟩ := h.weak ⟨fun t m hg => by simp only at hg ⊢; rw [hs t]; exact hg, rfl⟩

abbrev CallOK (P : Program) (call : FuncId → List M → List Ob → Option (M × List Ob)) : Prop := ∀ f args ob m ob', call f args ob = some (m, ob') → Den P f args ob fun r ob2 => r = m ∧ ob2 = ob'

end Go.Av

/- Numbers: what wraps, and bits, by words. -/
set_option linter.unusedVariables false
set_option linter.unusedSimpArgs false
namespace Go.Av
open Go

theorem wrapU64 (x : Int) (h : 0 ≤ x ∧ x < 18446744073709551616) : IntKind.u64.wrap x = x := by simp [IntKind.wrap, IntKind.signed, IntKind.bits]; omega
/-! ### words of 32 bits -/
def w32 (x : BitVec 32) : C := .v (.int .u32 (x.toNat : Int))
def w64 (x : BitVec 64) : C := .v (.int .u64 (x.toNat : Int))
end Go.Av
namespace Go.Av
@[simp] theorem bytesM_cons (n : Int) (cs : List C) : bytesM (up (.v (.int .u8 n) :: cs)) = (bytesM (up cs)).map (UInt8.ofNat n.toNat :: ·) := rfl
end Go.Av
namespace Go.Av
open Go
/-- A word, as a whole number; under a name, so that it stays whole. -/
def wI (x : BitVec 32) : Int := (x.toNat : Int)
def wC (x : BitVec 32) : C := .v (.int .u32 (wI x))
end Go.Av
namespace Go.Av
open Go
variable {P : Program}
/-- Is it this function's call? -/
theorem Den.at_ {f : FuncId} {args : List M} {ob : List Ob} {K : M → List Ob → Prop} (h : Den P f args ob K) : Den P f args ob K := h
theorem drawn_at {f : FuncId} {args : List M} {ob : List Ob} {A : M → List Ob → Prop} (h : ∃ m ob2, Den P f args ob (fun r ob' => r = m ∧ ob' = ob2) ∧ A m ob2) : ∃ m ob2, Den P f args ob (fun r ob' => r = m ∧ ob' = ob2) ∧ A m ob2 := h
end Go.Av
namespace Go.Av
@[simp] theorem lay_up1 (cs : List C) (off : Nat) (a : C) : lay (up cs) off (up [a]) = up (cs.set off a) := by simp [up, lay_one, List.map_set]
@[simp] theorem lay_up2 (cs : List C) (off : Nat) (a b : C) (r : List C) : lay (up cs) off (up (a :: b :: r)) = up (cs.take off ++ ((a :: b :: r) ++ cs.drop (off + (a :: b :: r).length))) := by
  show lay (up cs) off (M.c a :: M.c b :: up r) = _
  rw [lay_two]
  simp [up]
end Go.Av

/- Contracts of the library that are proved over the world, as contracts over states. -/
set_option linter.unusedVariables false
set_option linter.unusedSimpArgs false
namespace Go.Av
open Go Go.RowKit
variable {P : Program}

/-- What answers with a plain datum and leaves all that lay there as it was. -/
theorem Den.of_below {f : FuncId} {args : List M} {x : Value} (hok : okF P f = true) (ha : ltBs 0 args = true)
    (h : ∀ (w : World) (E : Env) (vals : Array Value), vals.size = args.length → (∀ (j : Nat) m, args[j]? = some m → RepM w E [] m (vals.getD j undef)) → (∀ b, E.st b → b < w.heap.size) →
      Calls P f vals w fun e w' => e = .returned x ∧ Below w.heap.size w w') : DenV P f args (.c (.v x)) := by
  refine Den.frame ha rfl ?_
  intro w E vals h1 h2 h3
  refine .inl ⟨hok, (h w E vals h1 h2 h3.stb).mono ?_⟩
  rintro e w' ⟨rfl, hb⟩
  refine ⟨x, rfl, .c (.v x), [], E, rfl, .c (.v x), ⟨⟨fun i o hi => by simp at hi, fun i j a b hi => by simp at hi, fun b hb' => Nat.lt_of_lt_of_le (h3.stb b hb') hb.size, fun i o hi => by simp at hi⟩, ⟨fun b hb' => ⟨hb', hb.block b (h3.stb b hb')⟩, fun i o hi => by simp at hi⟩, ⟨hb.os, hb.tape, hb.output, hb.size, fun b hb' _ => hb.block b hb', fun _ h => h, fun _ h => .inl h, fun i o hi => by simp at hi⟩⟩⟩
/-- A scalar argument. -/
theorem arg_v {w : World} {E : Env} {ob : List Ob} {x y : Value} (h : RepM w E ob (.c (.v x)) y) : y = x := by
  cases h with
  | c h => cases h; rfl
end Go.Av

/- A slice's object is given up, with what came after it. -/
set_option linter.unusedVariables false
set_option linter.unusedSimpArgs false
namespace Go.Av
open Go Go.RowKit
variable {P : Program} {X : Ctx}
/-- One of the own objects, a slice's, is given up with all that came after it: from now on it is a datum that nobody writes. -/
theorem awp_frz2 {c : Code} {Q : Exit → St → Prop} {fr : List (Nat × M)} {S : List Ob} (t : Nat) (ob mid suf : List Ob) (o : Ob) (cs : List C) (n : Nat) (hX : X.ob = ob ∧ HeapOK X.w X.E X.ob) (hS : S = ob ++ (mid ++ o :: suf))
    (hg : get fr t = some (.ms (ob.length + mid.length) o.gen 0 n)) (hcs : o.cs = up cs) (hfr : fr.all (fun p => p.1 == t || ltB (ob.length + mid.length) p.2) = true) (hmid : mid.all (fun q => q.cs.all (ltB (ob.length + mid.length))) = true)
    (h : Awp P X c Q ⟨put fr t (.c (.sl cs n false)), ob ++ mid⟩) : Awp P X c Q ⟨fr, S⟩ := fun a w hr => by
  obtain ⟨E, h1, h2, h3, h4⟩ := hr
  simp only at h1 h4
  subst hS
  obtain ⟨hXo, hXh⟩ := hX
  rw [← List.append_assoc] at h1 h4
  rw [hXo] at hXh
  have hlt : ∀ (i : Nat) (q : Ob) (j : Nat) (m : M), (ob ++ mid)[i]? = some q → q.iter = none → q.cs[j]? = some m → Lt (ob ++ mid).length m := by
    intro i q j m hi hit hj
    by_cases hlt : i < ob.length
    · rw [List.getElem?_append_left hlt] at hi
      exact lt_mono (by simp) (cells_lt hXh i q j m hi hj hit)
    · rw [List.getElem?_append_right (by omega)] at hi
      have hq := List.all_eq_true.1 hmid q (List.mem_of_getElem? hi)
      have hm := List.all_eq_true.1 hq m (List.mem_of_getElem? hj)
      have := lt_of_ltB hm
      rwa [List.length_append]
  have h4' : Step X.w X.E ob w E ((ob ++ mid) ++ o :: suf) := by rw [← hXo]; rw [← hXo] at h4; exact h4
  have hst := step_give2 h4' hlt
  refine h a w ⟨_, fun u m hu => ?_, h2, h3, by rw [hXo]; exact hst⟩
  simp only [get_put] at hu
  split at hu
  · rename_i e
    subst e
    obtain rfl := Option.some.inj hu
    obtain ⟨p, q⟩ := h1 _ _ hg
    refine ⟨p, ?_⟩
    refine rep_frozen (k := 0) (o := o) (g := o.gen) h4.heap rfl rfl hcs (by simpa using q) false (by simp) (fun hn => ?_)
    have hob := h4.heap.obj (ob ++ mid).length o (by rw [List.getElem?_append_right (by omega)]; simp)
    unfold ObOK at hob
    split at hob
    · rw [hob.2] at hn; simp at hn
    · have := hob.1 hn
      rw [hcs] at this
      simpa [up] using this
  · rename_i hne
    obtain ⟨p, q⟩ := h1 u m hu
    refine ⟨p, ?_⟩
    have hb := List.all_eq_true.1 hfr (u, m) (get_mem hu)
    have hb : ltB (ob.length + mid.length) m = true := by
      simp only [Bool.or_eq_true, beq_iff_eq] at hb
      rcases hb with hb | hb
      · exact absurd hb.symm hne
      · exact hb
    refine rep_lower (ext := o :: suf) (q.keep ?_) (by rw [List.length_append]; exact lt_of_ltB hb)
    exact ⟨fun b hb => ⟨.inl hb, rfl⟩, fun i q hq => ⟨q, hq, Nat.le_refl _, rfl, fun _ => rfl, fun _ => ⟨rfl, rfl, rfl, rfl⟩⟩⟩

end Go.Av

/- A contract over the world whose answer is a row of its own, as a contract over states. -/
set_option linter.unusedVariables false
set_option linter.unusedSimpArgs false
namespace Go.Av
open Go Go.RowKit
variable {P : Program}
end Go.Av

/- Contracts hold beside objects of which they do not speak. -/
set_option linter.unusedVariables false
set_option linter.unusedSimpArgs false
namespace Go.Av
open Go
variable {P : Program} {X : Ctx}
end Go.Av

/- A region that draws its order, where changes of objects need not stand in order with all else: what the objects are is told of each set of operations that may have been carried out. -/
set_option linter.unusedVariables false
set_option linter.unusedSimpArgs false
namespace Go.Av
open Go
variable {P : Program} {X : Ctx}

/-- A new variable, into a place that was kept for it. -/
def MatS (P : Program) (ob ob2 : List Ob) (op : Op) (m : M) : Prop :=
  ∃ e zs idx, op = .alloc e ∧ zeroT P e = some zs ∧ ob[idx]? = some { ty := e, sz := szOb P e, nil := true, gen := 0, cs := [] } ∧ m = .mp idx 1 0 ∧ ob2 = ob.set idx { ty := e, sz := szOb P e, nil := false, gen := 1, cs := zs }
def StepS (P : Program) (N : Nat) (ops : Array Oper) (ob ob2 : List Ob) (fr : List (Nat × M)) (o : Oper) (m : M) : Prop :=
  dstOK N o = true ∧ ((guardV ops fr o = some false ∧ m = .tup [] ∧ ob2 = ob) ∨ (guardV ops fr o = some true ∧
    ((∃ f args, callOf P ob fr o.op = some (f, args) ∧ Den P f args ob fun r ob' => r = m ∧ ob' = ob2) ∨ (callOf P ob fr o.op = none ∧ (evOp P fr ob o.op o.type = some (m, ob2) ∨ MatS P ob ob2 o.op m)))))
theorem sound_mat {w : World} {E : Env} {ob ob2 : List Ob} {s : Act} (hh : HeapOK w E ob) {o : Oper} {m : M} (h : MatS P ob ob2 o.op m) :
    ∃ v w' E', (execOp s.eval o).run P w = .ok (.value v) w' ∧ RepM w' E' ob2 m v ∧ Step w E ob w' E' ob2 := by
  obtain ⟨dst, op, ty, pos, after, guard⟩ := o
  obtain ⟨e, zs, idx, rfl, hz, hi, rfl, rfl⟩ := h
  obtain ⟨i, z, hi2, hiz, c1, c2, c3⟩ := cells_zero (w := w) (E := E) (ob := ob) hz
  have hlt := (List.getElem?_eq_some_iff.1 hi).1
  refine ⟨.pointer (some ⟨w.heap.size, 0, none⟩), { w with heap := w.heap.push (.cells z.cells e) }, _, ?_, ?_, step_move hh hi rfl zs 1 (by simp) z.cells e rfl c3 rfl rfl rfl rfl⟩
  · simp [execOp, Instr.alloc, run_zero hi2 hiz, newVar, newRow]
  · exact .mp ⟨rfl, _, by rw [getElem?_set, if_pos rfl, if_pos hlt], rfl, Nat.le_refl _, fun _ _ => by simp only [upd_same]⟩
theorem stepS_one {N : Nat} (hN : X.N = N) {ops : Array Oper} {ob ob2 : List Ob} {fr0 fr : List (Nat × M)} {o : Oper} {m : M} {K : Act → World → Prop} {Q : Exit → Act → World → Prop} {a : Act} {w : World}
    (hdst : dstOK N o = true) (hstep : (guardV ops fr0 o = some false ∧ m = .tup [] ∧ ob2 = ob) ∨ (guardV ops fr0 o = some true ∧
    ((∃ f args, callOf P ob fr0 o.op = some (f, args) ∧ Den P f args ob fun r ob' => r = m ∧ ob' = ob2) ∨ (callOf P ob fr0 o.op = none ∧ (evOp P fr0 ob o.op o.type = some (m, ob2) ∨ MatS P ob ob2 o.op m)))))
    (hreads : ∀ t ∈ readsOf o ops, get fr0 t = get fr t) (hrel : Rel X ⟨fr, ob⟩ a w) (hnext : ∀ a' w', Rel X ⟨putO fr o.dst m, ob2⟩ a' w' → K a' w') : wpList P ops (Exit.then K Q) [o] a w := by
  subst hN
  have hg := guardV_congr (ops := ops) hreads
  have hr2 : ∀ t ∈ o.op.operands.toList.flatMap tmpO, get fr0 t = get fr t := fun t ht => hreads t (by unfold readsOf; simp only [List.mem_append]; exact .inl ht)
  obtain ⟨E, h1, h2, h3, h4⟩ := hrel
  have hd : ∀ t, o.dst = some t → t < X.N := fun t ht => by
    unfold dstOK at hdst; rw [ht] at hdst; simpa using hdst
  rw [hg] at hstep
  have hfin : ∀ a' w', Rel X ⟨putO fr o.dst m, ob2⟩ a' w' → wpList P ops (Exit.then K Q) [] a' w' := fun a' w' hr => hnext a' w' hr
  rcases hstep with ⟨hgf, rfl, rfl⟩ | ⟨hgt, hs⟩
  · have hw := wanted_of h1 h2 hgf
    unfold wpList
    rw [hw]
    simp only [Bool.false_eq_true, if_false]
    exact hfin _ _ (rel_put h1 h2 h3 h4 (.refl h4.heap) hd (.tup [] #[] rfl (fun j hj => by simp at hj)))
  · have hw := wanted_of h1 h2 hgt
    unfold wpList
    rw [hw]
    simp only [if_true]
    refine .inl ?_
    rw [callOf_congr hr2] at hs
    rcases hs with ⟨f, args, hc, hden⟩ | ⟨hc, hev⟩
    · obtain ⟨vals, p1, p2, hrun⟩ := callOf_run (w := w) h1 h4.heap hc
      have := hden w E vals p1 p2 h4.heap
      unfold Oper.wp
      rcases this with ⟨hok, this⟩ | ⟨v, w', hv, r, ob', E', ⟨rfl, rfl⟩, hrv, hst⟩
      · rw [hrun, run_callFunc hok, Oper.upon_enter]
        refine this.mono ?_
        rintro e w' ⟨v, rfl, r, ob', E', ⟨rfl, rfl⟩, hrv, hst⟩
        exact hfin _ _ (rel_put h1 h2 h3 h4 hst hd hrv)
      · rw [hrun, hv, Oper.upon_value]
        exact hfin _ _ (rel_put h1 h2 h3 h4 hst hd hrv)
    · rcases hev with hev | hmat
      · rw [evOp_congr hr2] at hev
        obtain ⟨v, w', E', hrun, hrv, hst⟩ := sound_op h1 h4.heap hev
        unfold Oper.wp
        rcases hrun with hrun | ⟨hrun, rfl⟩
        · rw [hrun, Oper.upon_value]
          exact hfin _ _ (rel_put h1 h2 h3 h4 hst hd hrv)
        · rw [hrun, Oper.upon_skip]
          exact hfin _ _ (rel_put h1 h2 h3 h4 hst hd hrv)
      · obtain ⟨v, w', E', hrun, hrv, hst⟩ := sound_mat (s := a) h4.heap hmat
        unfold Oper.wp
        rw [hrun, Oper.upon_value]
        exact hfin _ _ (rel_put h1 h2 h3 h4 hst hd hrv)
theorem any_ofS {l : List Oper} {ms : List M} {fr : List (Nat × M)} {obs : (Nat → Bool) → List Ob} {Q : Exit → Act → World → Prop} (hord : ordOK l = true) (hobs : ∀ p q : Nat → Bool, (∀ j, j < l.length → p j = q j) → obs p = obs q)
    (ht : ∀ (i : Nat) o (p : Nat → Bool), l[i]? = some o → p i = false → (∀ e ∈ clOf l l.length i, p e = true) → (∀ (j : Nat) oj, l[j]? = some oj → p j = true → i ∉ clOf l l.length j) → ∃ m, ms[i]? = some m ∧ StepS P X.N l.toArray (obs p) (obs fun j => p j || j == i) (frP (fun j => decide (j < i)) 0 l ms fr) o m)
    (hQ : ∀ a w, Rel X ⟨frP (fun _ => true) 0 l ms fr, obs (fun _ => true)⟩ a w → Q .normal a w) :
    ∀ (fuel : Nat) (listed : Array Bool) (a : Act) (w : World), listed.size = l.length → Closed l (fun j => listed.getD j false) → (listed.toList.filter (!·)).length ≤ fuel → Rel X ⟨frP (fun j => listed.getD j false) 0 l ms fr, obs (fun j => listed.getD j false)⟩ a w → wpAny P .any l.toArray Q fuel listed a w := by
  have done : ∀ (listed : Array Bool) (a : Act) (w : World), listed.size = l.length → Closed l (fun j => listed.getD j false) → Region.ready .any l.toArray listed = [] → Rel X ⟨frP (fun j => listed.getD j false) 0 l ms fr, obs (fun j => listed.getD j false)⟩ a w → Q .normal a w := by
    intro listed a w hsz hcl hr hrel
    have all : ∀ i, i < l.length → listed.getD i false = true := by
      intro i
      induction i using Nat.strongRecOn with
      | _ i ih =>
        intro hi
        by_cases hl : listed.getD i false = true
        · exact hl
        · exfalso
          have hmem : i ∈ Region.ready .any l.toArray listed := by
            rw [mem_ready]
            refine ⟨?_, l[i], by simp [hi], fun e he hb => ?_⟩
            · have h1 : i < listed.size := by omega
              simp only [Array.getD_eq_getD_getElem?, Array.getElem?_eq_getElem h1, Option.getD_some] at hl ⊢
              simpa using hl
            · have he' : e.on ∈ aftersOf l[i] := by
                unfold aftersOf
                simp only [List.mem_map, List.mem_filter]
                exact ⟨e, ⟨by simpa using he, hb⟩, rfl⟩
              have hlt := ord_afters hord (i := i) (o := l[i]) (by simp [hi]) _ he'
              exact ih _ hlt (by omega)
          rw [hr] at hmem
          simp at hmem
    rw [hobs _ (fun _ => true) (fun j hj => all j hj)] at hrel
    refine hQ a w (hrel.weak ⟨fun t m hg => ?_, rfl⟩)
    simp only at hg ⊢
    rw [← hg]
    exact frP_congr _ _ t l 0 ms fr fr rfl (fun j o hj _ => by
      have := all j (List.getElem?_eq_some_iff.1 hj).1
      simpa using this)
  intro fuel
  induction fuel with
  | zero =>
    intro listed a w hsz hcl hcnt hrel
    have hr : Region.ready .any l.toArray listed = [] := by
      rw [List.eq_nil_iff_forall_not_mem]
      intro i hi
      rw [mem_ready] at hi
      obtain ⟨h1, o, ho, _⟩ := hi
      have hlt : i < listed.size := by
        have := (Array.getElem?_eq_some_iff.1 ho).1
        simp at this
        omega
      have : false ∈ listed.toList.filter (!·) := by
        rw [List.mem_filter]
        simp only [Array.getD_eq_getD_getElem?, Array.getElem?_eq_getElem hlt, Option.getD_some] at h1
        exact ⟨by rw [← h1]; simp, rfl⟩
      have := List.length_pos_of_mem this
      omega
    exact ⟨hr, done listed a w hsz hcl hr hrel⟩
  | succ fuel ih =>
    intro listed a w hsz hcl hcnt hrel
    refine ⟨fun hr => done listed a w hsz hcl hr hrel, fun i hi => ?_⟩
    rw [mem_ready] at hi
    obtain ⟨h1, o, ho, hafter⟩ := hi
    have ho' : l[i]? = some o := by simpa using ho
    have hil : i < l.length := (List.getElem?_eq_some_iff.1 ho').1
    have hlt : i < listed.size := by omega
    have hni : listed.getD i false = false := by
      simp only [Array.getD_eq_getD_getElem?, Array.getElem?_eq_getElem hlt, Option.getD_some] at h1 ⊢
      exact h1
    have hafters : ∀ e ∈ aftersOf o, listed.getD e false = true := by
      intro e he
      unfold aftersOf at he
      simp only [List.mem_map, List.mem_filter] at he
      obtain ⟨x, ⟨hx, hb⟩, rfl⟩ := he
      exact hafter x (by simpa using hx) hb
    have hcli : ∀ j ∈ clOf l l.length i, listed.getD j false = true := cl_listed hcl l.length i o ho' hafters
    have hclj : ∀ (j : Nat) oj, l[j]? = some oj → listed.getD j false = true → i ∉ clOf l l.length j := by
      intro j oj hj hlj hmem
      have := cl_listed hcl l.length j oj hj (hcl j oj hj hlj) i hmem
      rw [hni] at this
      simp at this
    -- the frame as the text has it, for what this operation reads
    obtain ⟨m, hm, hdst, hstep⟩ := ht i o (fun j => listed.getD j false) ho' hni hcli hclj
    have hreads : ∀ t ∈ readsOf o l.toArray, get (frP (fun j => decide (j < i)) 0 l ms fr) t = get (frP (fun j => listed.getD j false) 0 l ms fr) t := by
      intro t hmem
      refine frP_congr _ _ t l 0 ms fr fr rfl (fun j oj hj hd => ?_)
      simp only [Nat.zero_add]
      by_cases hji : j = i
      · subst hji
        rw [hni]; simp
      · obtain ⟨p1, p2⟩ := ord_at hord ho' hj hji hd (by simp [hmem])
        by_cases hlt2 : j < i
        · rw [hcli j (p1 hlt2)]; simp [hlt2]
        · have : i < j := by omega
          have hn : listed.getD j false = false := by
            cases hb : listed.getD j false with
            | false => rfl
            | true => exact absurd (p2 this) (hclj j oj hj hb)
          rw [hn]; simp [hlt2]
    have haft : obs (fun j => (listed.setIfInBounds i true).getD j false) = obs (fun j => listed.getD j false || j == i) := hobs _ _ fun c _ => by
      simp only [Array.getD_eq_getD_getElem?, Array.getElem?_setIfInBounds]
      by_cases e : i = c
      · subst e; simp [hlt]
      · have e' : (c == i) = false := by simp; omega
        simp [e, e']
    -- what it leaves
    have hnext : ∀ (a' : Act) (w' : World), Rel X ⟨putO (frP (fun j => listed.getD j false) 0 l ms fr) o.dst m, obs (fun j => listed.getD j false || j == i)⟩ a' w' → wpAny P .any l.toArray Q fuel (listed.setIfInBounds i true) a' w' := by
      intro a' w' hrel'
      have hget : ∀ j, (listed.setIfInBounds i true).getD j false = if i = j then true else listed.getD j false := by
        intro j
        simp only [Array.getD_eq_getD_getElem?, Array.getElem?_setIfInBounds]
        by_cases e : i = j
        · subst e; simp [hlt]
        · simp [e]
      refine ih _ a' w' (by simpa using hsz) (fun j oj hj hlj e he => ?_) ?_ (hrel'.weak ⟨fun t q hg => ?_, haft⟩)
      · simp only at hlj ⊢
        rw [hget] at hlj ⊢
        by_cases e1 : i = e
        · rw [if_pos e1]
        · rw [if_neg e1]
          by_cases e2 : i = j
          · subst e2
            obtain rfl := Option.some.inj (ho'.symm.trans hj)
            exact hafters e he
          · rw [if_neg e2] at hlj
            exact hcl j oj hj hlj e he
      · have h2 : listed.toList[i]? = some false := by
          rw [Array.getElem?_toList, Array.getElem?_eq_getElem hlt]
          simp only [Array.getD_eq_getD_getElem?, Array.getElem?_eq_getElem hlt, Option.getD_some] at hni
          rw [hni]
        have := cnt_set listed.toList i h2
        rw [Array.toList_setIfInBounds]
        omega
      · simp only at hg ⊢
        rw [← hg, get_putO]
        by_cases hd : o.dst = some t
        · rw [if_pos hd]
          refine (frP_last _ t l 0 ms fr i o m ho' hm hd (by rw [hget]; simp) (fun j oj hij hj hlj hdj => ?_)).symm
          rw [hget, if_neg (by omega)] at hlj
          simp only [Nat.zero_add] at hlj
          obtain ⟨_, p2⟩ := ord_at hord ho' hj (by omega) hdj (by simp [hd])
          exact hclj j oj hj hlj (p2 hij)
        · rw [if_neg hd]
          refine (frP_congr _ _ t l 0 ms fr fr rfl (fun j oj hj hdj => ?_)).symm
          rw [hget]
          by_cases e : i = 0 + j
          · have : i = j := by omega
            subst this
            obtain rfl := Option.some.inj (ho'.symm.trans hj)
            exact absurd hdj hd
          · rw [if_neg e]
    -- the operation itself, as a walk of one
    have one : wpList P l.toArray (Exit.then (wpAny P .any l.toArray Q fuel (listed.setIfInBounds i true)) Q) [o] a w :=
      stepS_one rfl hdst hstep hreads hrel (fun a' w' hr => hnext a' w' hr)
    unfold wpOp
    rw [ho]
    simp only
    unfold wpList at one
    split
    · rename_i hw
      rw [if_pos hw] at one
      exact (upon_then _ _ _ _ _).1 one
    · rename_i hw
      rw [if_neg hw] at one
      exact one


/-- A region that draws its order: what the objects are, told of each set of operations that have been carried out. -/
theorem awp_drawS {id : Nat} {l : List Oper} {Q : Exit → St → Prop} {s : St} (N : Nat) (hN : X.N = N) (ts : List Nat) (hm : P.follows .mixedOrders = true) (hord : ordOK l = true) (ms : List M) (obs : (Nat → Bool) → List Ob) (h0 : obs (fun _ => false) = s.ob)
    (hobs : ∀ p q : Nat → Bool, (∀ j, j < l.length → p j = q j) → obs p = obs q)
    (ht : ∀ (i : Nat) o (p : Nat → Bool), l[i]? = some o → p i = false → (∀ e ∈ clOf l l.length i, p e = true) → (∀ (j : Nat) oj, l[j]? = some oj → p j = true → i ∉ clOf l l.length j) → ∃ m, ms[i]? = some m ∧ StepS P N l.toArray (obs p) (obs fun j => p j || j == i) (frP (fun j => decide (j < i)) 0 l ms s.fr) o m)
    (h : KeepF Q ts (frP (fun _ => true) 0 l ms s.fr) (obs fun _ => true)) : Awp P X (.region id l.toArray true) Q s := fun a w hr => by
  subst hN
  refine wp_region_any hm ?_
  obtain ⟨E, h1, h2, h3, h4⟩ := hr
  have hst : Step w E s.ob { w with drawn := w.drawn + 1 } E s.ob := by
    have hext : Ext w E s.ob { w with drawn := w.drawn + 1 } E s.ob := ⟨fun b hb => ⟨hb, rfl⟩, fun i o ho => ⟨o, ho, Nat.le_refl _, rfl, fun _ => rfl, fun _ => ⟨rfl, rfl, rfl, rfl⟩⟩⟩
    exact ⟨⟨fun i o ho => (h4.heap.obj i o ho).keep hext rfl rfl (fun _ => rfl), h4.heap.inj, h4.heap.stb, h4.heap.own⟩, hext, ⟨rfl, rfl, rfl, Nat.le_refl _, fun _ _ _ => rfl, fun _ h => h, fun _ h => .inl h, fun i o ho hn => .inl ⟨i, o, ho, hn, rfl⟩⟩⟩
  have hrel : Rel X s a { w with drawn := w.drawn + 1 } := ⟨E, fun t m hg => ⟨(h1 t m hg).1, (h1 t m hg).2.keep hst.ext⟩, h2, h3, h4.trans hst⟩
  have hfalse : ∀ j, (Array.replicate l.toArray.size false).getD j false = false := fun j => by
    simp only [Array.getD_eq_getD_getElem?, Array.getElem?_replicate]
    split <;> rfl
  refine any_ofS hord hobs ht (Q := lift X Q) (fun a w hr => ⟨_, h, hr.weak (weak_keep ⟨_, _⟩ ts)⟩) _ _ _ _ (by simp) (fun i o ho hp => ?_) (by simp) ?_
  · simp only [hfalse] at hp
    simp at hp
  · simp only [hfalse]
    refine hrel.weak ⟨fun t m hg => ?_, h0⟩
    simp only at hg
    rw [frP_false _ l 0 ms s.fr (fun j _ => rfl)] at hg
    exact hg
end Go.Av
namespace Go.Av
open Go
variable {P : Program} {X : Ctx}
end Go.Av
namespace Go.Av
open Go
variable {P : Program} {X : Ctx}
theorem step_give3 {w w' : World} {E E' : Env} {ob om ext : List Ob} (hle : ob.length ≤ om.length) (hs : Step w E ob w' E' (om ++ ext)) (h0 : ∀ (i : Nat) (o : Ob) (j : Nat) (m : M), om[i]? = some o → o.iter = none → o.cs[j]? = some m → Lt om.length m) :
    Step w E ob w' { E' with st := fun b => E'.st b ∨ ∃ (i : Nat) (o : Ob), ext[i]? = some o ∧ o.nil = false ∧ b = E'.blk (om.length + i) } om := by
  obtain ⟨hh, hx, hb⟩ := hs
  have hinc : ∀ (i : Nat) (q : Ob), om[i]? = some q → (om ++ ext)[i]? = some q := fun i q hq => by
    rw [List.getElem?_append_left (List.getElem?_eq_some_iff.1 hq).1]; exact hq
  have hnew : ∀ (i : Nat) (q : Ob), ext[i]? = some q → (om ++ ext)[om.length + i]? = some q := fun i q hq => by
    rw [List.getElem?_append_right (by omega)]; simpa using hq
  have hne : ∀ (i k : Nat) (q o : Ob), om[i]? = some q → q.nil = false → ext[k]? = some o → o.nil = false → E'.blk i ≠ E'.blk (om.length + k) := fun i k q o hq hqn ho hon he => by
    have h1 := hh.inj i (om.length + k) q o (hinc i q hq) (hnew k o ho) hqn hon he
    have h2 := (List.getElem?_eq_some_iff.1 hq).1
    omega
  have hext : Ext w' E' (om ++ ext) w' { E' with st := fun b => E'.st b ∨ ∃ (i : Nat) (o : Ob), ext[i]? = some o ∧ o.nil = false ∧ b = E'.blk (om.length + i) } (om ++ ext) :=
    ⟨fun b hb => ⟨.inl hb, rfl⟩, fun i q hq => ⟨q, hq, Nat.le_refl _, rfl, fun _ => rfl, fun _ => ⟨rfl, rfl, rfl, rfl⟩⟩⟩
  refine ⟨⟨fun i q hq => ?_, fun i j oi oj hi hj ni nj he => hh.inj i j oi oj (hinc i oi hi) (hinc j oj hj) ni nj he, fun b hb => ?_, fun i q hq hn => ?_⟩, ⟨fun b hb => ⟨.inl (hx.st b hb).1, (hx.st b hb).2⟩, fun i q hq => ?_⟩, ⟨hb.os, hb.tape, hb.output, hb.size, hb.block, fun b h => .inl (hb.st b h), fun b h => ?_, fun i q hq hn => hb.own i q (hinc i q hq) hn⟩⟩
  · have h1 := hh.obj i q (hinc i q hq)
    unfold ObOK at h1 ⊢
    split
    · rename_i q0 hit
      rw [hit] at h1
      exact ⟨(h1.1.keep hext rfl rfl).less (List.getElem?_eq_some_iff.1 hq).1, h1.2⟩
    · rename_i hit
      rw [hit] at h1
      refine ⟨h1.1, fun hn => ?_⟩
      obtain ⟨arr, lo, hi, e1, e2, e3, e4⟩ := h1.2 hn
      refine ⟨arr, lo, hi, e1, e2, e3, fun j m hm => ?_⟩
      obtain ⟨y, hy, q1, q2⟩ := e4 j m hm
      exact ⟨y, hy, q1, rep_lower (q2.keep hext) (h0 i q j m hq hit hm)⟩
  · rcases hb with hb | ⟨i, o, ho, hn, rfl⟩
    · exact hh.stb b hb
    · exact (hh.own _ o (hnew i o ho) hn).2
  · obtain ⟨a, b⟩ := hh.own i q (hinc i q hq) hn
    refine ⟨fun hs => ?_, b⟩
    rcases hs with hs | ⟨k, o, ho, hon, he⟩
    · exact a hs
    · exact hne i k q o hq hn ho hon he
  · obtain ⟨q', hq', r⟩ := hx.ob i q hq
    have hlt := (List.getElem?_eq_some_iff.1 hq).1
    have : om[i]? = some q' := by rw [← hq', List.getElem?_append_left (by omega)]
    exact ⟨q', this, r⟩
  · rcases h with h | ⟨i, o, ho, hn, rfl⟩
    · exact hb.st_of b h
    · rcases hb.own _ o (hnew i o ho) hn with h | hge
      · exact .inr (.inl h)
      · exact .inr (.inr hge)

/-- Objects to which nothing leads any more are forgotten. -/
theorem awp_drop {c : Code} {Q : Exit → St → Prop} {fr : List (Nat × M)} {S : List Ob} (om suf : List Ob) (hle : X.ob.length ≤ om.length) (hS : S = om ++ suf)
    (hfr : fr.all (fun p => ltB om.length p.2) = true) (hom : om.all (fun q => q.cs.all (ltB om.length)) = true)
    (h : Awp P X c Q ⟨fr, om⟩) : Awp P X c Q ⟨fr, S⟩ := fun a w hr => by
  obtain ⟨E, h1, h2, h3, h4⟩ := hr
  simp only at h1 h4
  subst hS
  have hst := step_give3 hle h4 fun i q j m hi hit hj => lt_of_ltB (List.all_eq_true.1 (List.all_eq_true.1 hom q (List.mem_of_getElem? hi)) m (List.mem_of_getElem? hj))
  refine h a w ⟨_, fun u m hu => ?_, h2, h3, hst⟩
  obtain ⟨p, q⟩ := h1 u m hu
  refine ⟨p, ?_⟩
  have hb := List.all_eq_true.1 hfr (u, m) (get_mem hu)
  refine rep_lower (ext := suf) (q.keep ?_) (lt_of_ltB hb)
  exact ⟨fun b hb => ⟨.inl hb, rfl⟩, fun i q hq => ⟨q, hq, Nat.le_refl _, rfl, fun _ => rfl, fun _ => ⟨rfl, rfl, rfl, rfl⟩⟩⟩
/-- The same, of a contract. -/
theorem Den.forget {f : FuncId} {args : List M} {ob ob2 : List Ob} {m : M} (hle : ob.length ≤ ob2.length) (hm : ltB ob2.length m = true) (hom : ob2.all (fun q => q.cs.all (ltB ob2.length)) = true) (h : Den P f args ob fun r ob' => r = m ∧ ∃ e, ob' = ob2 ++ e) : Den P f args ob fun r ob' => r = m ∧ ob' = ob2 := by
  intro w E vals h1 h2 h3
  refine (h w E vals h1 h2 h3).mono ?_
  rintro v w' ⟨r, ob', E', ⟨rfl, e, rfl⟩, hr, hs⟩
  have hst := step_give3 hle hs fun i q j m hi hit hj => lt_of_ltB (List.all_eq_true.1 (List.all_eq_true.1 hom q (List.mem_of_getElem? hi)) m (List.mem_of_getElem? hj))
  refine ⟨_, _, _, ⟨rfl, rfl⟩, rep_lower (ext := e) (hr.keep ?_) (lt_of_ltB hm), hst⟩
  exact ⟨fun b hb => ⟨.inl hb, rfl⟩, fun i q hq => ⟨q, hq, Nat.le_refl _, rfl, fun _ => rfl, fun _ => ⟨rfl, rfl, rfl, rfl⟩⟩⟩
end Go.Av
namespace Go.Av
open Go
variable {P : Program} {X : Ctx}
/-- All slots but these are forgotten. -/
theorem awp_keep {c : Code} {Q : Exit → St → Prop} {fr : List (Nat × M)} {ob : List Ob} (ts : List Nat) (h : Awp P X c Q ⟨keep fr ts, ob⟩) : Awp P X c Q ⟨fr, ob⟩ := fun a w hr => h a w (hr.weak (weak_keep ⟨fr, ob⟩ ts))
end Go.Av

/- Heaps in rows, as container/heap keeps them: plain laws. -/
set_option linter.unusedVariables false
set_option linter.unusedSectionVars false
namespace Go.Hp
variable {α : Type} [Inhabited α]

/-- The i-th. -/
def at' (l : List α) (i : Nat) : α := l.getD i default
theorem at'_of {l : List α} {i : Nat} {x : α} (h : l[i]? = some x) : at' l i = x := by simp [at', List.getD, h]
/-- Two change places. -/
def swp (l : List α) (i j : Nat) : List α := (l.set i (at' l j)).set j (at' l i)
theorem swp_perm (l : List α) {i j : Nat} (hi : i < l.length) (hj : j < l.length) : (swp l i j).Perm l := by
  have := List.set_set_perm (as := l) hi hj
  unfold swp
  rw [at'_of (List.getElem?_eq_getElem hi), at'_of (List.getElem?_eq_getElem hj)]
  exact this
variable (lt : α → α → Bool)
/-- An order of all, by what is less. -/
structure Ord : Prop where
  tr : ∀ a b c, lt b a = false → lt c b = false → lt c a = false
  tot : ∀ a b, lt b a = false ∨ lt a b = false
variable {lt}
theorem Ord.refl (O : Ord lt) (a : α) : lt a a = false := (O.tot a a).elim id id

def par (i : Nat) : Nat := (i - 1) / 2
variable (lt)
def Heap (l : List α) (n : Nat) : Prop := ∀ i, 0 < i → i < n → lt (at' l i) (at' l (par i)) = false
def InvUp (l : List α) (j : Nat) : Prop := (∀ i, 0 < i → i < l.length → i ≠ j → lt (at' l i) (at' l (par i)) = false) ∧ (∀ i, 0 < i → i < l.length → par i = j → 0 < j → lt (at' l i) (at' l (par j)) = false)
def InvDn (l : List α) (i n : Nat) : Prop := (∀ k, 0 < k → k < n → par k ≠ i → lt (at' l k) (at' l (par k)) = false) ∧ (∀ k, 0 < k → k < n → par k = i → 0 < i → lt (at' l k) (at' l (par i)) = false)
variable {lt}
end Go.Hp

/- The order of texts by their bytes; heaps put to use: what comes out of one is sorted. -/
set_option linter.unusedVariables false
set_option linter.unusedSectionVars false
namespace Go.Hp
open Go
/-! ### the moves of a heap, as functions -/
variable {α : Type} [Inhabited α] (lt : α → α → Bool)
def upF : Nat → List α → Nat → List α
  | 0, l, _ => l
  | f + 1, l, j => if par j = j then l else if lt (at' l j) (at' l (par j)) = true then upF f (swp l (par j) j) (par j) else l
def pushL (l : List α) (x : α) : List α := upF lt (l.length + 1) (l ++ [x]) l.length
def child (l : List α) (n i : Nat) : Nat := if 2 * i + 1 + 1 < n then (if lt (at' l (2 * i + 1 + 1)) (at' l (2 * i + 1)) = true then 2 * i + 1 + 1 else 2 * i + 1) else 2 * i + 1
def dnF (n : Nat) : Nat → List α → Nat → List α
  | 0, l, _ => l
  | f + 1, l, i => if n ≤ 2 * i + 1 then l else if lt (at' l (child lt l n i)) (at' l i) = true then dnF n f (swp l i (child lt l n i)) (child lt l n i) else l
def popL (l : List α) (n : Nat) : List α := dnF lt n (n + 1) (swp l 0 n) 0
variable {lt}
/-! ### what comes out -/
/-- What has come out, and what is still in. -/
structure Out (lt : α → α → Bool) (l0 o l : List α) (n : Nat) : Prop where
  heap : Heap lt l n
  len : n ≤ l.length
  perm : (o ++ l.take n).Perm l0
  sorted : o.Pairwise fun a b => lt b a = false
  low : ∀ a ∈ o, ∀ b ∈ l.take n, lt b a = false
end Go.Hp

/- An argument that reads as a struct is opened field by field. -/
set_option linter.unusedVariables false
namespace Go.Av
open Go
variable {P : Program}
/-- Some of a type's cells, read as a datum. -/
def Seg (P : Program) (t : TypeId) (off k : Nat) {A : Type} (enc : A → List C) (Hyp : A → Prop) : Prop :=
  ∀ (H : Type) (e0 : TypeId × Value → H) (W : World) (fuel : Nat) (cs : List Value) (x : DataW H × List MemPlace), DataW.trod e0 P W 0 (fun _ => true) true fuel t cs = some x → ∃ a, Hyp a ∧ Reads W (enc a) ((cs.drop off).take k)
end Go.Av
