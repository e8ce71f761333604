/- 8 texts of the program logic over abstract values, joined: each is proved without any condition beyond its own words. -/
import Derived.Test.YtofomnllcmgfeaaAvEngine2
import Derived.Laws.AppendOwn
/- Contracts that speak of no object hold beside any; functions carried out on closed data, by computation. -/
set_option linter.unusedVariables false
set_option linter.unusedSimpArgs false
namespace Go.Av
open Go
variable {P : Program} {X : Ctx}

/-- What is closed is handed in, and comes back: whatever objects there are, they stay as they are. -/
theorem Den.frame {f : FuncId} {args : List M} {m : M} (ha : ltBs 0 args = true) (hm : ltB 0 m = true) (h : Den P f args [] fun r _ => r = m) : DenV P f args m := by
  intro ob w E vals h1 h2 h3
  have h0 : HeapOK w E [] := ⟨fun i o hi => by simp at hi, fun i j a b hi => by simp at hi, h3.stb, fun i o hi => by simp at hi⟩
  refine (h w E vals h1 (fun j m hj => rep_lower (ob := []) (ext := ob) (h2 j m hj) (lt_of_ltBs ha j m hj)) h0).mono ?_
  rintro v w' ⟨r, ob', E', rfl, hr, hs⟩
  have hno : ∀ b, ¬ owns E [] b := fun b ⟨i, o, hi, _⟩ => by simp at hi
  have hblk : ∀ b, b < w.heap.size → w'.heap[b]? = w.heap[b]? := fun b hb => hs.base.block b hb (hno b)
  have hstof : ∀ b, E'.st b → E.st b ∨ w.heap.size ≤ b := fun b hb => by
    rcases hs.base.st_of b hb with h | h | h
    · exact .inl h
    · exact absurd h (hno b)
    · exact .inr h
  have hext : Ext w E ob w' { E' with blk := E.blk, asz := E.asz } ob := ⟨fun b hb => hs.ext.st b hb, fun i o hi => ⟨o, hi, Nat.le_refl _, rfl, fun _ => rfl, fun _ => ⟨rfl, rfl, rfl, rfl⟩⟩⟩
  refine ⟨r, ob, { E' with blk := E.blk, asz := E.asz }, ⟨rfl, rfl⟩, ?_, ⟨⟨fun i o hi => ?_, fun i j a b hi hj => h3.inj i j a b hi hj, fun b hb => hs.heap.stb b hb, fun i o hi hn => ?_⟩, hext, ⟨hs.base.os, hs.base.tape, hs.base.output, hs.base.size, fun b hb _ => hblk b hb, hs.base.st, fun b hb => ?_, fun i o hi hn => .inl ⟨i, o, hi, hn, rfl⟩⟩⟩⟩
  · have hr0 : RepM w' E' [] r v := rep_lower (ob := []) (ext := ob') hr (lt_of_ltB hm)
    exact hr0.keep (E := E') (E' := { E' with blk := E.blk, asz := E.asz }) (ob' := ob) ⟨fun b hb => ⟨hb, rfl⟩, fun i o (hi : ([] : List Ob)[i]? = some o) => by simp at hi⟩
  · exact (h3.obj i o hi).keep hext rfl rfl (fun hn => hblk _ (h3.own i o hi hn).2)
  · have := h3.own i o hi hn
    refine ⟨fun hst => ?_, by have := hs.base.size; simp only; omega⟩
    rcases hstof _ hst with h | h
    · exact this.1 h
    · simp only at h; omega
  · rcases hstof b hb with h | h
    · exact .inl h
    · exact .inr (.inr h)

/-! ### carried out -/
inductive Ex where
  | n
  | x (id : Nat)
  | r
def Ex.to : Ex → Exit
  | .n => .normal
  | .x id => .exit id
  | .r => .ret
def putD (fr : List (Nat × M)) (d : Option Nat) (m : M) : List (Nat × M) :=
  match d with
  | some t => (t, m) :: fr.filter fun p => !(p.1 == t)
  | none => fr
def runOps (P : Program) (N : Nat) (call : FuncId → List M → List Ob → Option (M × List Ob)) (ops : Array Oper) : List Oper → St → Option St
  | [], s => some s
  | o :: rest, s =>
    if dstOK N o then
      match guardV ops s.fr o with
      | none => none
      | some false => runOps P N call ops rest ⟨putD s.fr o.dst (.tup []), s.ob⟩
      | some true => match callOf P s.ob s.fr o.op with
        | some (f, args) => match call f args s.ob with
          | some (m, ob') => runOps P N call ops rest ⟨putD s.fr o.dst m, ob'⟩
          | none => none
        | none => match evOp P s.fr s.ob o.op o.type with
          | some (m, ob') => runOps P N call ops rest ⟨putD s.fr o.dst m, ob'⟩
          | none => none
    else none
def pureOp : Op → Bool
  | .move _ | .assign _ | .pick _ _ _ | .load _ _ | .nilCheck _ | .binOp _ _ _ _ _ | .unOp _ _ _ | .fieldAddr _ _ _ | .field _ _ _ | .indexAddr _ _ _ | .index _ _ _ | .extract _ _ | .build _ _ | .buildSlice _ _ _ | .slice _ _ _ _ _ | .makeInterface _ _ | .typeAssert _ _ _ _ => true
  | .call c => match c.callee with
    | .builtin .len | .builtin .min | .builtin .max | .builtin .cap => true
    | _ => false
  | _ => false
def runDraw (P : Program) (N : Nat) (call : FuncId → List M → List Ob → Option (M × List Ob)) (ops : Array Oper) (cuts : List Nat) : Nat → List Oper → List (Nat × M) → List Ob → Option (List (Nat × M) × List Ob)
  | _, [], fr, ob => some (fr, ob)
  | k, o :: rest, fr, ob =>
    if dstOK N o then
      match guardV ops fr o with
      | none => none
      | some false => runDraw P N call ops cuts (k + 1) rest (putD fr o.dst (.tup [])) ob
      | some true => match callOf P ob fr o.op with
        | some (f, args) => if mayB cuts k then (match call f args ob with
            | some (m, ob') => runDraw P N call ops cuts (k + 1) rest (putD fr o.dst m) ob'
            | none => none) else if ltBs 0 args then (match call f args [] with
            | some (m, _) => if ltB 0 m then runDraw P N call ops cuts (k + 1) rest (putD fr o.dst m) ob else none
            | none => none) else none
        | none => match evOp P fr ob o.op o.type with
          | some (m, ob') => if mayB cuts k then runDraw P N call ops cuts (k + 1) rest (putD fr o.dst m) ob' else if pureOp o.op then runDraw P N call ops cuts (k + 1) rest (putD fr o.dst m) ob else none
          | none => none
    else none
mutual
def runC (P : Program) (N : Nat) : Nat → Code → St → Option (Ex × St)
  | 0, _, _ => none
  | n + 1, c, s => match c with
    | .seq x y => match runC P N n x s with
      | some (.n, s') => runC P N n y s'
      | r => r
    | .cond c x y => match asB (opM s.fr c) with
      | some true => runC P N n x s
      | some false => runC P N n y s
      | none => none
    | .block id c => match runC P N n c s with
      | some (.x id', s') => if id' = id then some (.n, s') else some (.x id', s')
      | r => r
    | .skip => some (.n, s)
    | .label _ => some (.n, s)
    | .exit id => some (.x id, s)
    | .ret => some (.r, s)
    | .scope c => runC P N n c s
    | .loop c => match runC P N n c s with
      | some (.n, s') => runC P N n (.loop c) s'
      | r => r
    | .region _ ⟨l⟩ false => match runOps P N (runF P n) l.toArray l s with
      | some s' => some (.n, s')
      | none => none
    | .region _ ⟨l⟩ true => if P.follows .mixedOrders then (if drawOK l (cutsFrom 0 l) then (match runDraw P N (runF P n) l.toArray (cutsFrom 0 l) 0 l s.fr s.ob with
      | some (fr, ob) => some (.n, ⟨fr, ob⟩)
      | none => none) else none) else none
    | _ => none
def runF (P : Program) : Nat → FuncId → List M → List Ob → Option (M × List Ob)
  | 0, _, _, _ => none
  | n + 1, f, args, ob => match P.funcs[f]? with
    | some fn => if fn.name == "runtime.NumGoroutine" then none else match fn.body with
      | some c => if args.length ≤ fn.ntmps then (match runC P fn.ntmps n c ⟨slots 0 args, ob⟩ with
        | some (.n, s) => (resOf P s.ob s.fr fn.results.toList).map fun m => (m, s.ob)
        | some (.r, s) => (resOf P s.ob s.fr fn.results.toList).map fun m => (m, s.ob)
        | _ => none) else none
      | none => none
    | none => none
end

/-- Frames that tell the same. -/
def SameF (a b : List (Nat × M)) : Prop := ∀ t, get a t = get b t
theorem SameF.symm {a b : List (Nat × M)} (h : SameF a b) : SameF b a := fun t => (h t).symm
theorem Awp.same {c : Code} {Q : Exit → St → Prop} {fr fr' : List (Nat × M)} {ob : List Ob} (h : Awp P X c Q ⟨fr', ob⟩) (hs : SameF fr fr') : Awp P X c Q ⟨fr, ob⟩ := h.weak ⟨fun t m hg => by simp only at hg ⊢; rw [hs t]; exact hg, rfl⟩

abbrev CallOK (P : Program) (call : FuncId → List M → List Ob → Option (M × List Ob)) : Prop := ∀ f args ob m ob', call f args ob = some (m, ob') → Den P f args ob fun r ob2 => r = m ∧ ob2 = ob'

end Go.Av

/- Numbers: what wraps, and bits, by words. -/
set_option linter.unusedVariables false
set_option linter.unusedSimpArgs false
namespace Go.Av
open Go

theorem wrapU64 (x : Int) (h : 0 ≤ x ∧ x < 18446744073709551616) : IntKind.u64.wrap x = x := by simp [IntKind.wrap, IntKind.signed, IntKind.bits]; omega
theorem modU64 (x : Int) : IntKind.u64.wrap x = x % 18446744073709551616 := by simp [IntKind.wrap, IntKind.signed, IntKind.bits]

theorem mul_pow2 (x n : Nat) : (x : Int) * 2 ^ n = ((x * 2 ^ n : Nat) : Int) := by rw [Int.natCast_mul, Int.natCast_pow]; rfl
theorem fdiv_pow (x n : Nat) : ((x : Int)).fdiv (2 ^ n) = ((x / 2 ^ n : Nat) : Int) := by
  rw [Int.fdiv_eq_ediv_of_nonneg _ (by have : (0 : Int) < 2 ^ n := Int.pow_pos (by omega); omega)]
  norm_cast
/-! ### words of 32 bits -/
def w32 (x : BitVec 32) : C := .v (.int .u32 (x.toNat : Int))
def w64 (x : BitVec 64) : C := .v (.int .u64 (x.toNat : Int))
theorem orU (k : IntKind) (a b : Nat) (ha : a < 2 ^ k.bits) (hb : b < 2 ^ k.bits) (hs : k.signed = false) : orI k (a : Int) (b : Int) = ((a ||| b : Nat) : Int) := by
  unfold orI
  rw [BitVec.ofInt_natCast, BitVec.ofInt_natCast, BitVec.toNat_or, BitVec.toNat_ofNat, BitVec.toNat_ofNat, Nat.mod_eq_of_lt ha, Nat.mod_eq_of_lt hb]
  have hlt : a ||| b < 2 ^ k.bits := Nat.or_lt_two_pow ha hb
  have hp : ((2 : Int) ^ k.bits) = ((2 ^ k.bits : Nat) : Int) := by norm_cast
  have hm : (((a ||| b : Nat) : Int)) % 2 ^ k.bits = ((a ||| b : Nat) : Int) := by rw [hp]; exact Int.emod_eq_of_lt (by omega) (by omega)
  simp only [IntKind.wrap, hm, hs, Bool.false_and, Bool.false_eq_true, if_false]
end Go.Av
namespace Go.Av
@[simp] theorem bytesM_cons (n : Int) (cs : List C) : bytesM (up (.v (.int .u8 n) :: cs)) = (bytesM (up cs)).map (UInt8.ofNat n.toNat :: ·) := rfl
end Go.Av
namespace Go.Av
open Go
/-- A word, as a whole number; under a name, so that it stays whole. -/
def wI (x : BitVec 32) : Int := (x.toNat : Int)
def wC (x : BitVec 32) : C := .v (.int .u32 (wI x))
end Go.Av
namespace Go.Av
open Go
variable {P : Program}
/-- Is it this function's call? -/
theorem Den.at_ {f : FuncId} {args : List M} {ob : List Ob} {K : M → List Ob → Prop} (h : Den P f args ob K) : Den P f args ob K := h
end Go.Av
namespace Go.Av
@[simp] theorem lay_up1 (cs : List C) (off : Nat) (a : C) : lay (up cs) off (up [a]) = up (cs.set off a) := by simp [up, lay_one, List.map_set]
@[simp] theorem lay_up2 (cs : List C) (off : Nat) (a b : C) (r : List C) : lay (up cs) off (up (a :: b :: r)) = up (cs.take off ++ ((a :: b :: r) ++ cs.drop (off + (a :: b :: r).length))) := by
  show lay (up cs) off (M.c a :: M.c b :: up r) = _
  rw [lay_two]
  simp [up]
end Go.Av

/- Contracts of the library that are proved over the world, as contracts over states. -/
set_option linter.unusedVariables false
set_option linter.unusedSimpArgs false
namespace Go.Av
open Go Go.RowKit
variable {P : Program}

/-- What answers with a plain datum and leaves all that lay there as it was. -/
theorem Den.of_below {f : FuncId} {args : List M} {x : Value} (hok : okF P f = true) (ha : ltBs 0 args = true)
    (h : ∀ (w : World) (E : Env) (vals : Array Value), vals.size = args.length → (∀ (j : Nat) m, args[j]? = some m → RepM w E [] m (vals.getD j undef)) → (∀ b, E.st b → b < w.heap.size) →
      Calls P f vals w fun e w' => e = .returned x ∧ Below w.heap.size w w') : DenV P f args (.c (.v x)) := by
  refine Den.frame ha rfl ?_
  intro w E vals h1 h2 h3
  refine .inl ⟨hok, (h w E vals h1 h2 h3.stb).mono ?_⟩
  rintro e w' ⟨rfl, hb⟩
  refine ⟨x, rfl, .c (.v x), [], E, rfl, .c (.v x), ⟨⟨fun i o hi => by simp at hi, fun i j a b hi => by simp at hi, fun b hb' => Nat.lt_of_lt_of_le (h3.stb b hb') hb.size, fun i o hi => by simp at hi⟩, ⟨fun b hb' => ⟨hb', hb.block b (h3.stb b hb')⟩, fun i o hi => by simp at hi⟩, ⟨hb.os, hb.tape, hb.output, hb.size, fun b hb' _ => hb.block b hb', fun _ h => h, fun _ h => .inl h, fun i o hi => by simp at hi⟩⟩⟩
/-- A scalar argument. -/
theorem arg_v {w : World} {E : Env} {ob : List Ob} {x y : Value} (h : RepM w E ob (.c (.v x)) y) : y = x := by
  cases h with
  | c h => cases h; rfl
/-- A row of scalars. -/
theorem arg_row {w : World} {E : Env} {ob : List Ob} {vs : List Value} {n : Nat} {full : Bool} {y : Value} (hn : vs.length = n) (h : RepM w E ob (.c (.sl (vs.map C.v) n full)) y) :
    (n = 0 ∧ y = .slice none 0 0) ∨ ∃ (a : Addr) (cap : Nat), y = .slice (some a) n cap ∧ n ≤ cap ∧ ∀ (j : Nat) v, vs[j]? = some v → E.st a.block ∧ w.cell? (a.add j) = some v := by
  generalize hcs : vs.map C.v = cs0 at h
  cases h with
  | c h =>
    cases h with
    | nl => exact .inl ⟨rfl, rfl⟩
    | sl cs n full a cap ys hf hn' h1 h2 =>
      refine .inr ⟨a, cap, rfl, hn', fun j v hv => ?_⟩
      have hc : cs0[j]? = some (.v v) := by rw [← hcs]; simp [hv]
      obtain ⟨q1, q2, q3⟩ := h1 j _ hc
      have := h2 j _ hc
      cases this
      exact ⟨q1, q3⟩
/-- Where a cell is seen, the address is a plain one. -/
theorem plain_of_cell {w : World} {a : Addr} {v : Value} (h : w.cell? a = some v) : a = ⟨a.block, a.off, none⟩ := by
  unfold World.cell? at h
  split at h
  · split at h
    · simp at h
    · rename_i hs
      obtain ⟨b, o, s⟩ := a
      cases s with
      | none => rfl
      | some s => simp at hs
  · simp at h
theorem add_plain (b o j : Nat) : (⟨b, o, none⟩ : Addr).add j = ⟨b, o + j, none⟩ := by
  unfold Addr.add
  split
  · rename_i h; subst h; rfl
  · rfl
end Go.Av

/- A slice's object is given up, with what came after it. -/
set_option linter.unusedVariables false
set_option linter.unusedSimpArgs false
namespace Go.Av
open Go Go.RowKit
variable {P : Program} {X : Ctx}
/-- One of the own objects, a slice's, is given up with all that came after it: from now on it is a datum that nobody writes. -/
theorem awp_frz2 {c : Code} {Q : Exit → St → Prop} {fr : List (Nat × M)} {S : List Ob} (t : Nat) (ob mid suf : List Ob) (o : Ob) (cs : List C) (n : Nat) (hX : X.ob = ob ∧ HeapOK X.w X.E X.ob) (hS : S = ob ++ (mid ++ o :: suf))
    (hg : get fr t = some (.ms (ob.length + mid.length) o.gen 0 n)) (hcs : o.cs = up cs) (hfr : fr.all (fun p => p.1 == t || ltB (ob.length + mid.length) p.2) = true) (hmid : mid.all (fun q => q.cs.all (ltB (ob.length + mid.length))) = true)
    (h : Awp P X c Q ⟨put fr t (.c (.sl cs n false)), ob ++ mid⟩) : Awp P X c Q ⟨fr, S⟩ := fun a w hr => by
  obtain ⟨E, h1, h2, h3, h4⟩ := hr
  simp only at h1 h4
  subst hS
  obtain ⟨hXo, hXh⟩ := hX
  rw [← List.append_assoc] at h1 h4
  rw [hXo] at hXh
  have hlt : ∀ (i : Nat) (q : Ob) (j : Nat) (m : M), (ob ++ mid)[i]? = some q → q.iter = none → q.cs[j]? = some m → Lt (ob ++ mid).length m := by
    intro i q j m hi hit hj
    by_cases hlt : i < ob.length
    · rw [List.getElem?_append_left hlt] at hi
      exact lt_mono (by simp) (cells_lt hXh i q j m hi hj hit)
    · rw [List.getElem?_append_right (by omega)] at hi
      have hq := List.all_eq_true.1 hmid q (List.mem_of_getElem? hi)
      have hm := List.all_eq_true.1 hq m (List.mem_of_getElem? hj)
      have := lt_of_ltB hm
      rwa [List.length_append]
  have h4' : Step X.w X.E ob w E ((ob ++ mid) ++ o :: suf) := by rw [← hXo]; rw [← hXo] at h4; exact h4
  have hst := step_give2 h4' hlt
  refine h a w ⟨_, fun u m hu => ?_, h2, h3, by rw [hXo]; exact hst⟩
  simp only [get_put] at hu
  split at hu
  · rename_i e
    subst e
    obtain rfl := Option.some.inj hu
    obtain ⟨p, q⟩ := h1 _ _ hg
    refine ⟨p, ?_⟩
    refine rep_frozen (k := 0) (o := o) (g := o.gen) h4.heap rfl rfl hcs (by simpa using q) false (by simp) (fun hn => ?_)
    have hob := h4.heap.obj (ob ++ mid).length o (by rw [List.getElem?_append_right (by omega)]; simp)
    unfold ObOK at hob
    split at hob
    · rw [hob.2] at hn; simp at hn
    · have := hob.1 hn
      rw [hcs] at this
      simpa [up] using this
  · rename_i hne
    obtain ⟨p, q⟩ := h1 u m hu
    refine ⟨p, ?_⟩
    have hb := List.all_eq_true.1 hfr (u, m) (get_mem hu)
    have hb : ltB (ob.length + mid.length) m = true := by
      simp only [Bool.or_eq_true, beq_iff_eq] at hb
      rcases hb with hb | hb
      · exact absurd hb.symm hne
      · exact hb
    refine rep_lower (ext := o :: suf) (q.keep ?_) (by rw [List.length_append]; exact lt_of_ltB hb)
    exact ⟨fun b hb => ⟨.inl hb, rfl⟩, fun i q hq => ⟨q, hq, Nat.le_refl _, rfl, fun _ => rfl, fun _ => ⟨rfl, rfl, rfl, rfl⟩⟩⟩

end Go.Av

/- A contract over the world whose answer is a row of its own, as a contract over states. -/
set_option linter.unusedVariables false
set_option linter.unusedSimpArgs false
namespace Go.Av
open Go Go.RowKit
variable {P : Program}
/-- What answers with a row that it made, and leaves all that lay there as it was. -/
theorem Den.of_row {f : FuncId} {args : List M} {cs : List Value} {n : Nat} {e : TypeId} (hn : cs.length = n) (h1c : ∀ u ∈ cs, u.oneCell' = true) (hok : okF P f = true) (ha : ltBs 0 args = true)
    (h : ∀ (w : World) (E : Env) (vals : Array Value), vals.size = args.length → (∀ (j : Nat) m, args[j]? = some m → RepM w E [] m (vals.getD j undef)) → (∀ b, E.st b → b < w.heap.size) →
      Calls P f vals w fun r w' => ∃ v, r = .returned v ∧ w'.ownsRow w.heap.size e 1 v n cs ∧ Below w.heap.size w w') : DenV P f args (.c (.sl (cs.map C.v) n false)) := by
  refine Den.frame ha rfl ?_
  intro w E vals h1 h2 h3
  refine .inl ⟨hok, (h w E vals h1 h2 h3.stb).mono ?_⟩
  rintro r w' ⟨v, rfl, hrow, hb⟩
  refine ⟨v, rfl, .c (.sl (cs.map C.v) n false), [], ⟨fun b => E.st b ∨ (w.heap.size ≤ b ∧ b < w'.heap.size), E.blk, E.asz⟩, rfl, .c ?_, ⟨⟨fun i o hi => by simp at hi, fun i j a b hi => by simp at hi, fun b hb' => ?_, fun i o hi => by simp at hi⟩, ⟨fun b hb' => ⟨.inl hb', hb.block b (h3.stb b hb')⟩, fun i o hi => by simp at hi⟩, ⟨hb.os, hb.tape, hb.output, hb.size, fun b hb' _ => hb.block b hb', fun _ h => .inl h, fun b h => ?_, fun i o hi => by simp at hi⟩⟩⟩
  · rcases hrow.2 with ⟨rfl, rfl⟩ | ⟨g, cap, cur, rfl, hbg, hg, hcap, hmax, hsz, hcur⟩
    · have : cs = [] := by cases cs <;> simp_all
      subst this
      exact .nl false
    · have hlen := hrow.1
      refine .sl _ n false ⟨g, 0, none⟩ cap (fun j => cs.getD j undef) (by simp) hcap (fun j c hc => ?_) (fun j c hc => ?_)
      · have hj : j < cs.length := by
          have := (List.getElem?_eq_some_iff.1 hc).1
          simpa using this
        have hcs : cs[j]? = some (cs.getD j undef) := by simp [List.getD, hj]
        refine ⟨.inr ⟨hbg, (Array.getElem?_eq_some_iff.1 hg).1⟩, h1c _ (List.mem_of_getElem? hcs), ?_⟩
        have hcell : w'.cell? ⟨g, 0 + j, none⟩ = some (cs.getD j undef) := by
          unfold World.cell?
          simp only [hg]
          rw [← hcur, List.getElem?_take_of_lt (by omega)] at hcs
          have e1 : cs.getD j undef = (List.take (n * 1) cur.toList).getD j undef := by rw [hcur]
          rw [e1]
          simpa [Nat.zero_add, e1] using hcs
        rw [add_plain]
        exact hcell
      · rw [List.getElem?_map] at hc
        obtain ⟨u, hu, rfl⟩ := Option.map_eq_some_iff.1 hc
        have : cs.getD j undef = u := by simp [List.getD, hu]
        rw [this]
        exact .v u
  · rcases hb' with h | h
    · exact Nat.lt_of_lt_of_le (h3.stb b h) hb.size
    · exact h.2
  · rcases h with h | h
    · exact .inl h
    · exact .inr (.inr h.1)
end Go.Av

/- An argument that reads as a struct is opened field by field. -/
set_option linter.unusedVariables false
namespace Go.Av
open Go
variable {P : Program}
/-- Some of a type's cells, read as a datum. -/
def Seg (P : Program) (t : TypeId) (off k : Nat) {A : Type} (enc : A → List C) (Hyp : A → Prop) : Prop :=
  ∀ (H : Type) (e0 : TypeId × Value → H) (W : World) (fuel : Nat) (cs : List Value) (x : DataW H × List MemPlace), DataW.trod e0 P W 0 (fun _ => true) true fuel t cs = some x → ∃ a, Hyp a ∧ Reads W (enc a) ((cs.drop off).take k)
theorem seg_field {t q : TypeId} {fs : Array Field} (i off k : Nat) (ht : P.underlying t = some (.struct fs)) (hf : (fs[i]?).map (fun f => (f.offset, f.type)) = some (off, q)) (hk : P.cellsOf q = k) {A : Type} {enc : A → List C} {Hyp : A → Prop} (h : Opens P q enc Hyp) : Seg P t off k enc Hyp := fun H e0 W fuel cs x hx => by
  obtain ⟨xs, m, _, _, hlen, hxl, hel⟩ := DataW.trod_struct ht hx
  rw [Option.map_eq_some_iff] at hf
  obtain ⟨f, hf, he⟩ := hf
  simp only [Prod.mk.injEq] at he
  obtain ⟨rfl, rfl⟩ := he
  have hlt := (Array.getElem?_eq_some_iff.1 hf).1
  have h1 := hel i f hf
  rw [List.getElem?_eq_getElem (by omega)] at h1
  rw [← hk]
  exact h H e0 W _ _ _ h1
theorem reads_join {W : World} {es1 es2 : List C} {cs : List Value} (k : Nat) (h1 : Reads W es1 (cs.take k)) (h2 : Reads W es2 (cs.drop k)) (hk : es1.length = k) : Reads W (es1 ++ es2) cs := by
  have hl : k ≤ cs.length := by
    have := h1.1
    rw [hk, List.length_take] at this
    omega
  refine ⟨?_, fun j c y hc hy => ?_⟩
  · have := h2.1
    rw [List.length_drop] at this
    rw [List.length_append]
    omega
  · by_cases hj : j < k
    · rw [List.getElem?_append_left (by omega)] at hc
      exact h1.2 j c y hc (by rw [List.getElem?_take_of_lt hj]; exact hy)
    · rw [List.getElem?_append_right (by omega), hk] at hc
      exact h2.2 (j - k) c y hc (by rw [List.getElem?_drop, show k + (j - k) = j by omega]; exact hy)
theorem Seg.app {t : TypeId} {off k1 k2 : Nat} {A B : Type} {enc1 : A → List C} {enc2 : B → List C} {H1 : A → Prop} {H2 : B → Prop} (h1 : Seg P t off k1 enc1 H1) (h2 : Seg P t (off + k1) k2 enc2 H2) (hl : ∀ a, (enc1 a).length = k1) :
    Seg P t off (k1 + k2) (fun p : A × B => enc1 p.1 ++ enc2 p.2) (fun p => H1 p.1 ∧ H2 p.2) := fun H e0 W fuel cs x hx => by
  obtain ⟨a, ha, ra⟩ := h1 H e0 W fuel cs x hx
  obtain ⟨b, hb, rb⟩ := h2 H e0 W fuel cs x hx
  refine ⟨(a, b), ⟨ha, hb⟩, reads_join k1 ?_ ?_ (hl a)⟩
  · rw [List.take_take, Nat.min_eq_left (by omega)]; exact ra
  · rw [List.drop_take, List.drop_drop, show k1 + k2 - k1 = k2 by omega]
    exact rb
theorem Seg.opens {t : TypeId} {fs : Array Field} {n : Nat} {A : Type} {enc : A → List C} {Hyp : A → Prop} (h : Seg P t 0 n enc Hyp) (ht : P.underlying t = some (.struct fs)) (hn : P.cellsOf t = n) : Opens P t enc Hyp := fun H e0 W fuel cs x hx => by
  obtain ⟨xs, m, _, _, hlen, _, _⟩ := DataW.trod_struct ht hx
  obtain ⟨a, ha, ra⟩ := h H e0 W fuel cs x hx
  refine ⟨a, ha, ?_⟩
  rw [List.drop_zero, List.take_of_length_le (by omega)] at ra
  exact ra
theorem leM_agg {ms ms' : List M} (h : LeMs ms ms') : LeM (.agg ms) (.agg ms') := by
  intro w E ob y hy
  cases hy with
  | agg _ arr hs ho hh =>
    refine .agg ms' arr (hs.trans h.len) ho (fun j hj m' hm => ?_)
    have hj2 : j < ms.length := by omega
    exact h.get j _ m' (List.getElem?_eq_getElem hj2) hm w E ob _ (hh j hj _ (List.getElem?_eq_getElem hj2))
theorem lay_pair (z a b : List C) (n : Nat) (hz : z.length = n) (ha : a.length = n) (hb : b.length = n) (hn : 1 < n) : lay (List.replicate 2 (up z)).flatten 0 (up a) = up (a ++ z) ∧ lay (up (a ++ z)) n (up b) = up (a ++ b) := by
  constructor
  · have : (List.replicate 2 (up z)).flatten = up (z ++ z) := by simp [List.replicate, up]
    rw [this, lay_app _ _ _ (by simp [up]; omega)]
    simp only [up, List.length_map, ha, Nat.zero_add, List.take_zero, List.nil_append, ← List.map_drop, List.drop_left' hz, ← List.map_append]
  · rw [lay_app _ _ _ (by simp [up]; omega)]
    simp only [up, List.length_map, hb, ← List.map_drop, ← List.map_take, List.take_left' ha, ← List.map_append]
    rw [List.drop_of_length_le (by simp; omega)]
    simp
end Go.Av

/- Contracts hold beside objects of which they do not speak. -/
set_option linter.unusedVariables false
set_option linter.unusedSimpArgs false
namespace Go.Av
open Go
variable {P : Program} {X : Ctx}
end Go.Av

/- A region that draws its order, where changes of objects need not stand in order with all else: what the objects are is told of each set of operations that may have been carried out. -/
set_option linter.unusedVariables false
set_option linter.unusedSimpArgs false
namespace Go.Av
open Go
variable {P : Program} {X : Ctx}

/-- A new variable, into a place that was kept for it. -/
def MatS (P : Program) (ob ob2 : List Ob) (op : Op) (m : M) : Prop :=
  ∃ e zs idx, op = .alloc e ∧ zeroT P e = some zs ∧ ob[idx]? = some { ty := e, sz := szOb P e, nil := true, gen := 0, cs := [] } ∧ m = .mp idx 1 0 ∧ ob2 = ob.set idx { ty := e, sz := szOb P e, nil := false, gen := 1, cs := zs }
def StepS (P : Program) (N : Nat) (ops : Array Oper) (ob ob2 : List Ob) (fr : List (Nat × M)) (o : Oper) (m : M) : Prop :=
  dstOK N o = true ∧ ((guardV ops fr o = some false ∧ m = .tup [] ∧ ob2 = ob) ∨ (guardV ops fr o = some true ∧
    ((∃ f args, callOf P ob fr o.op = some (f, args) ∧ Den P f args ob fun r ob' => r = m ∧ ob' = ob2) ∨ (callOf P ob fr o.op = none ∧ (evOp P fr ob o.op o.type = some (m, ob2) ∨ MatS P ob ob2 o.op m)))))
end Go.Av
namespace Go.Av
open Go
variable {P : Program} {X : Ctx}
end Go.Av
namespace Go.Av
open Go
variable {P : Program} {X : Ctx}
theorem step_give3 {w w' : World} {E E' : Env} {ob om ext : List Ob} (hle : ob.length ≤ om.length) (hs : Step w E ob w' E' (om ++ ext)) (h0 : ∀ (i : Nat) (o : Ob) (j : Nat) (m : M), om[i]? = some o → o.iter = none → o.cs[j]? = some m → Lt om.length m) :
    Step w E ob w' { E' with st := fun b => E'.st b ∨ ∃ (i : Nat) (o : Ob), ext[i]? = some o ∧ o.nil = false ∧ b = E'.blk (om.length + i) } om := by
  obtain ⟨hh, hx, hb⟩ := hs
  have hinc : ∀ (i : Nat) (q : Ob), om[i]? = some q → (om ++ ext)[i]? = some q := fun i q hq => by
    rw [List.getElem?_append_left (List.getElem?_eq_some_iff.1 hq).1]; exact hq
  have hnew : ∀ (i : Nat) (q : Ob), ext[i]? = some q → (om ++ ext)[om.length + i]? = some q := fun i q hq => by
    rw [List.getElem?_append_right (by omega)]; simpa using hq
  have hne : ∀ (i k : Nat) (q o : Ob), om[i]? = some q → q.nil = false → ext[k]? = some o → o.nil = false → E'.blk i ≠ E'.blk (om.length + k) := fun i k q o hq hqn ho hon he => by
    have h1 := hh.inj i (om.length + k) q o (hinc i q hq) (hnew k o ho) hqn hon he
    have h2 := (List.getElem?_eq_some_iff.1 hq).1
    omega
  have hext : Ext w' E' (om ++ ext) w' { E' with st := fun b => E'.st b ∨ ∃ (i : Nat) (o : Ob), ext[i]? = some o ∧ o.nil = false ∧ b = E'.blk (om.length + i) } (om ++ ext) :=
    ⟨fun b hb => ⟨.inl hb, rfl⟩, fun i q hq => ⟨q, hq, Nat.le_refl _, rfl, fun _ => rfl, fun _ => ⟨rfl, rfl, rfl, rfl⟩⟩⟩
  refine ⟨⟨fun i q hq => ?_, fun i j oi oj hi hj ni nj he => hh.inj i j oi oj (hinc i oi hi) (hinc j oj hj) ni nj he, fun b hb => ?_, fun i q hq hn => ?_⟩, ⟨fun b hb => ⟨.inl (hx.st b hb).1, (hx.st b hb).2⟩, fun i q hq => ?_⟩, ⟨hb.os, hb.tape, hb.output, hb.size, hb.block, fun b h => .inl (hb.st b h), fun b h => ?_, fun i q hq hn => hb.own i q (hinc i q hq) hn⟩⟩
  · have h1 := hh.obj i q (hinc i q hq)
    unfold ObOK at h1 ⊢
    split
    · rename_i s p hit
      rw [hit] at h1
      exact h1
    · rename_i hit
      rw [hit] at h1
      refine ⟨h1.1, fun hn => ?_⟩
      obtain ⟨arr, lo, hi, e1, e2, e3, e4⟩ := h1.2 hn
      refine ⟨arr, lo, hi, e1, e2, e3, fun j m hm => ?_⟩
      obtain ⟨y, hy, q1, q2⟩ := e4 j m hm
      exact ⟨y, hy, q1, rep_lower (q2.keep hext) (h0 i q j m hq hit hm)⟩
  · rcases hb with hb | ⟨i, o, ho, hn, rfl⟩
    · exact hh.stb b hb
    · exact (hh.own _ o (hnew i o ho) hn).2
  · obtain ⟨a, b⟩ := hh.own i q (hinc i q hq) hn
    refine ⟨fun hs => ?_, b⟩
    rcases hs with hs | ⟨k, o, ho, hon, he⟩
    · exact a hs
    · exact hne i k q o hq hn ho hon he
  · obtain ⟨q', hq', r⟩ := hx.ob i q hq
    have hlt := (List.getElem?_eq_some_iff.1 hq).1
    have : om[i]? = some q' := by rw [← hq', List.getElem?_append_left (by omega)]
    exact ⟨q', this, r⟩
  · rcases h with h | ⟨i, o, ho, hn, rfl⟩
    · exact hb.st_of b h
    · rcases hb.own _ o (hnew i o ho) hn with h | hge
      · exact .inr (.inl h)
      · exact .inr (.inr hge)

/-- Objects to which nothing leads any more are forgotten. -/
theorem awp_drop {c : Code} {Q : Exit → St → Prop} {fr : List (Nat × M)} {S : List Ob} (om suf : List Ob) (hle : X.ob.length ≤ om.length) (hS : S = om ++ suf)
    (hfr : fr.all (fun p => ltB om.length p.2) = true) (hom : om.all (fun q => q.cs.all (ltB om.length)) = true)
    (h : Awp P X c Q ⟨fr, om⟩) : Awp P X c Q ⟨fr, S⟩ := fun a w hr => by
  obtain ⟨E, h1, h2, h3, h4⟩ := hr
  simp only at h1 h4
  subst hS
  have hst := step_give3 hle h4 fun i q j m hi hit hj => lt_of_ltB (List.all_eq_true.1 (List.all_eq_true.1 hom q (List.mem_of_getElem? hi)) m (List.mem_of_getElem? hj))
  refine h a w ⟨_, fun u m hu => ?_, h2, h3, hst⟩
  obtain ⟨p, q⟩ := h1 u m hu
  refine ⟨p, ?_⟩
  have hb := List.all_eq_true.1 hfr (u, m) (get_mem hu)
  refine rep_lower (ext := suf) (q.keep ?_) (lt_of_ltB hb)
  exact ⟨fun b hb => ⟨.inl hb, rfl⟩, fun i q hq => ⟨q, hq, Nat.le_refl _, rfl, fun _ => rfl, fun _ => ⟨rfl, rfl, rfl, rfl⟩⟩⟩
/-- The same, of a contract. -/
theorem Den.forget {f : FuncId} {args : List M} {ob ob2 : List Ob} {m : M} (hle : ob.length ≤ ob2.length) (hm : ltB ob2.length m = true) (hom : ob2.all (fun q => q.cs.all (ltB ob2.length)) = true) (h : Den P f args ob fun r ob' => r = m ∧ ∃ e, ob' = ob2 ++ e) : Den P f args ob fun r ob' => r = m ∧ ob' = ob2 := by
  intro w E vals h1 h2 h3
  refine (h w E vals h1 h2 h3).mono ?_
  rintro v w' ⟨r, ob', E', ⟨rfl, e, rfl⟩, hr, hs⟩
  have hst := step_give3 hle hs fun i q j m hi hit hj => lt_of_ltB (List.all_eq_true.1 (List.all_eq_true.1 hom q (List.mem_of_getElem? hi)) m (List.mem_of_getElem? hj))
  refine ⟨_, _, _, ⟨rfl, rfl⟩, rep_lower (ext := e) (hr.keep ?_) (lt_of_ltB hm), hst⟩
  exact ⟨fun b hb => ⟨.inl hb, rfl⟩, fun i q hq => ⟨q, hq, Nat.le_refl _, rfl, fun _ => rfl, fun _ => ⟨rfl, rfl, rfl, rfl⟩⟩⟩
end Go.Av
namespace Go.Av
open Go
variable {P : Program} {X : Ctx}
end Go.Av
