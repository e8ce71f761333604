/- 9 texts of the program logic over abstract values, joined: each is proved without any condition beyond its own words. -/
import Derived.Test.YtpcnacknlgmmlaaAvEngine3
import Derived.ScopeJumps
import Derived.Laws.AppendOwn
/- Contracts that speak of no object hold beside any; functions carried out on closed data, by computation. -/
set_option linter.unusedVariables false
set_option linter.unusedSimpArgs false
namespace Go.Av
open Go
variable {P : Program} {X : Ctx}

theorem Den.frame {f : FuncId} {args : List M} {m : M} (ha : ltBs 0 args = true) (hm : ltB 0 m = true) (h : Den P f args [] fun r _ => r = m) : DenV P f args m := by
  intro ob w E vals h1 h2 h3
  have h0 : HeapOK w E [] := ⟨fun i o hi => by simp at hi, fun i j a b hi => by simp at hi, h3.stb, fun i o hi => by simp at hi⟩
  refine (h w E vals h1 (fun j m hj => rep_lower (ob := []) (ext := ob) (h2 j m hj) (lt_of_ltBs ha j m hj)) h0).mono ?_
  rintro v w' ⟨r, ob', E', rfl, hr, hs⟩
  have hno : ∀ b, ¬ owns E [] b := fun b ⟨i, o, hi, _⟩ => by simp at hi
  have hblk : ∀ b, b < w.heap.size → w'.heap[b]? = w.heap[b]? := fun b hb => hs.base.block b hb (hno b)
  have hstof : ∀ b, E'.st b → E.st b ∨ w.heap.size ≤ b := fun b hb => by
    rcases hs.base.st_of b hb with h | h | h
    · exact .inl h
    · exact absurd h (hno b)
    · exact .inr h
  have hext : Ext w E ob w' { E' with blk := E.blk, asz := E.asz } ob := ⟨fun b hb => hs.ext.st b hb, fun i o hi => ⟨o, hi, Nat.le_refl _, rfl, fun _ => rfl, fun _ => ⟨rfl, rfl, rfl, rfl⟩⟩⟩
  refine ⟨r, ob, { E' with blk := E.blk, asz := E.asz }, ⟨rfl, rfl⟩, ?_, ⟨⟨fun i o hi => ?_, fun i j a b hi hj => h3.inj i j a b hi hj, fun b hb => hs.heap.stb b hb, fun i o hi hn => ?_⟩, hext, ⟨hs.base.os, hs.base.tape, hs.base.output, hs.base.size, fun b hb _ => hblk b hb, hs.base.st, fun b hb => ?_, fun i o hi hn => .inl ⟨i, o, hi, hn, rfl⟩⟩⟩⟩
  · have hr0 : RepM w' E' [] r v := rep_lower (ob := []) (ext := ob') hr (lt_of_ltB hm)
    exact hr0.keep (E := E') (E' := { E' with blk := E.blk, asz := E.asz }) (ob' := ob) ⟨fun b hb => ⟨hb, rfl⟩, fun i o (hi : ([] : List Ob)[i]? = some o) => by simp at hi⟩
  · exact (h3.obj i o hi).keep hext rfl rfl (fun hn => hblk _ (h3.own i o hi hn).2)
  · have := h3.own i o hi hn
    refine ⟨fun hst => ?_, by have := hs.base.size; simp only; omega⟩
    rcases hstof _ hst with h | h
    · exact this.1 h
    · simp only at h; omega
  · rcases hstof b hb with h | h
    · exact .inl h
    · exact .inr (.inr h)

inductive Ex where
  | n
  | x (id : Nat)
  | r
def Ex.to : Ex → Exit
  | .n => .normal
  | .x id => .exit id
  | .r => .ret
def putD (fr : List (Nat × M)) (d : Option Nat) (m : M) : List (Nat × M) :=
  match d with
  | some t => (t, m) :: fr.filter fun p => !(p.1 == t)
  | none => fr
def runOps (P : Program) (N : Nat) (call : FuncId → List M → List Ob → Option (M × List Ob)) (ops : Array Oper) : List Oper → St → Option St
  | [], s => some s
  | o :: rest, s =>
    if dstOK N o then
      match guardV ops s.fr o with
      | none => none
      | some false => runOps P N call ops rest ⟨putD s.fr o.dst (.tup []), s.ob⟩
      | some true => match callOf P s.ob s.fr o.op with
        | some (f, args) => match call f args s.ob with
          | some (m, ob') => runOps P N call ops rest ⟨putD s.fr o.dst m, ob'⟩
          | none => none
        | none => match evOp P s.fr s.ob o.op o.type with
          | some (m, ob') => runOps P N call ops rest ⟨putD s.fr o.dst m, ob'⟩
          | none => none
    else none
def pureOp : Op → Bool
  | .move _ | .assign _ | .pick _ _ _ | .load _ _ | .nilCheck _ | .binOp _ _ _ _ _ | .unOp _ _ _ | .fieldAddr _ _ _ | .field _ _ _ | .indexAddr _ _ _ | .index _ _ _ | .extract _ _ | .build _ _ | .slice _ _ _ _ _ | .makeInterface _ _ | .typeAssert _ _ _ _ => true
  | .call c => match c.callee with
    | .builtin .len | .builtin .min | .builtin .max | .builtin .cap => true
    | _ => false
  | _ => false
def runDraw (P : Program) (N : Nat) (call : FuncId → List M → List Ob → Option (M × List Ob)) (ops : Array Oper) (cuts : List Nat) : Nat → List Oper → List (Nat × M) → List Ob → Option (List (Nat × M) × List Ob)
  | _, [], fr, ob => some (fr, ob)
  | k, o :: rest, fr, ob =>
    if dstOK N o then
      match guardV ops fr o with
      | none => none
      | some false => runDraw P N call ops cuts (k + 1) rest (putD fr o.dst (.tup [])) ob
      | some true => match callOf P ob fr o.op with
        | some (f, args) => if mayB cuts k then (match call f args ob with
            | some (m, ob') => runDraw P N call ops cuts (k + 1) rest (putD fr o.dst m) ob'
            | none => none) else if ltBs 0 args then (match call f args [] with
            | some (m, _) => if ltB 0 m then runDraw P N call ops cuts (k + 1) rest (putD fr o.dst m) ob else none
            | none => none) else none
        | none => match evOp P fr ob o.op o.type with
          | some (m, ob') => if mayB cuts k then runDraw P N call ops cuts (k + 1) rest (putD fr o.dst m) ob' else if pureOp o.op then runDraw P N call ops cuts (k + 1) rest (putD fr o.dst m) ob else none
          | none => none
    else none
mutual
def runC (P : Program) (N : Nat) : Nat → Code → St → Option (Ex × St)
  | 0, _, _ => none
  | n + 1, c, s => match c with
    | .seq x y => match runC P N n x s with
      | some (.n, s') => runC P N n y s'
      | r => r
    | .cond c x y => match asB (opM s.fr c) with
      | some true => runC P N n x s
      | some false => runC P N n y s
      | none => none
    | .block id c => match runC P N n c s with
      | some (.x id', s') => if id' = id then some (.n, s') else some (.x id', s')
      | r => r
    | .skip => some (.n, s)
    | .label _ => some (.n, s)
    | .exit id => some (.x id, s)
    | .ret => some (.r, s)
    | .scope c => runC P N n c s
    | .loop c => match runC P N n c s with
      | some (.n, s') => runC P N n (.loop c) s'
      | r => r
    | .region _ ⟨l⟩ false => match runOps P N (runF P n) l.toArray l s with
      | some s' => some (.n, s')
      | none => none
    | .region _ ⟨l⟩ true => if P.follows .mixedOrders then (if drawOK l (cutsFrom 0 l) then (match runDraw P N (runF P n) l.toArray (cutsFrom 0 l) 0 l s.fr s.ob with
      | some (fr, ob) => some (.n, ⟨fr, ob⟩)
      | none => none) else none) else none
    | _ => none
def runF (P : Program) : Nat → FuncId → List M → List Ob → Option (M × List Ob)
  | 0, _, _, _ => none
  | n + 1, f, args, ob => match P.funcs[f]? with
    | some fn => if fn.name == "runtime.NumGoroutine" then none else match fn.body with
      | some c => if args.length ≤ fn.ntmps then (match runC P fn.ntmps n c ⟨slots 0 args, ob⟩ with
        | some (.n, s) => (resOf P s.ob s.fr fn.results.toList).map fun m => (m, s.ob)
        | some (.r, s) => (resOf P s.ob s.fr fn.results.toList).map fun m => (m, s.ob)
        | _ => none) else none
      | none => none
    | none => none
end

def SameF (a b : List (Nat × M)) : Prop := ∀ t, get a t = get b t
theorem get_filter (fr : List (Nat × M)) (t u : Nat) (h : t ≠ u) : get (fr.filter fun p => !(p.1 == t)) u = get fr u := by
  induction fr with
  | nil => rfl
  | cons p fr ih =>
    obtain ⟨k, m⟩ := p
    by_cases e : k = t
    · subst e
      simp only [List.filter_cons, beq_self_eq_true, Bool.not_true, Bool.false_eq_true, if_false, get, if_neg h]
      exact ih
    · simp only [List.filter_cons, beq_iff_eq, e, Bool.not_eq_true', decide_eq_false_iff_not, not_false_eq_true, beq_eq_false_iff_ne, ne_eq, if_true, get, ih]
theorem get_putD (fr : List (Nat × M)) (d : Option Nat) (m : M) (u : Nat) : get (putD fr d m) u = get (putO fr d m) u := by
  cases d with
  | none => rfl
  | some t =>
    simp only [putD, putO, get_put, get]
    split
    · rfl
    · rename_i h; exact get_filter fr t u h
theorem putO_same {a b : List (Nat × M)} (h : SameF a b) (d : Option Nat) (m : M) : SameF (putO a d m) (putO b d m) := fun t => by
  cases d with
  | none => exact h t
  | some u => simp only [putO, get_put, h t]
theorem sameF_D {a b : List (Nat × M)} (h : SameF a b) (d : Option Nat) (m : M) : SameF (putO a d m) (putD b d m) := fun t => by
  rw [get_putD]; exact putO_same h d m t
theorem SameF.symm {a b : List (Nat × M)} (h : SameF a b) : SameF b a := fun t => (h t).symm
theorem Awp.same {c : Code} {Q : Exit → St → Prop} {fr fr' : List (Nat × M)} {ob : List Ob} (h : Awp P X c Q ⟨fr', ob⟩) (hs : SameF fr fr') : Awp P X c Q ⟨fr, ob⟩ := h.weak ⟨fun t m hg => by simp only at hg ⊢; rw [hs t]; exact hg, rfl⟩

abbrev CallOK (P : Program) (call : FuncId → List M → List Ob → Option (M × List Ob)) : Prop := ∀ f args ob m ob', call f args ob = some (m, ob') → Den P f args ob fun r ob2 => r = m ∧ ob2 = ob'

theorem runOps_sound {N : Nat} {call : FuncId → List M → List Ob → Option (M × List Ob)} (hc : CallOK P call) {ops : Array Oper} {K : St → Prop} : ∀ (l : List Oper) (fr fr0 : List (Nat × M)) (ob : List Ob) (s' : St), SameF fr fr0 → runOps P N call ops l ⟨fr0, ob⟩ = some s' → (∀ fr', SameF fr' s'.fr → K ⟨fr', s'.ob⟩) → awpOps P N ops K l ⟨fr, ob⟩
  | [], fr, fr0, ob, s', hs, h, hK => by
    simp only [runOps, Option.some.injEq] at h
    subst h
    exact hK fr hs
  | o :: rest, fr, fr0, ob, s', hs, h, hK => by
    simp only [runOps] at h
    unfold awpOps
    have eg : guardV ops fr o = guardV ops fr0 o := guardV_congr fun t _ => hs t
    have ec : callOf P ob fr o.op = callOf P ob fr0 o.op := callOf_congr fun t _ => hs t
    have ee : evOp P fr ob o.op o.type = evOp P fr0 ob o.op o.type := evOp_congr fun t _ => hs t
    split at h
    · rename_i hd
      rw [if_pos hd]
      simp only [eg, ec, ee]
      split at h
      · simp at h
      · rename_i hg
        rw [hg]
        exact runOps_sound hc rest _ _ _ s' (sameF_D hs _ _) h hK
      · rename_i hg
        rw [hg]
        simp only [if_true]
        split at h
        · rename_i f args hcall
          rw [hcall]
          simp only
          split at h
          · rename_i m ob' hr
            refine (hc _ _ _ _ _ hr).mono ?_
            rintro r ob2 ⟨rfl, rfl⟩
            exact runOps_sound hc rest _ _ _ s' (sameF_D hs _ _) h hK
          · simp at h
        · rename_i hcall
          rw [hcall]
          simp only
          split at h
          · rename_i m ob' hr
            have hnb := nextB_of_ev hr
            rw [hr]
            simp only [hnb, Bool.false_eq_true, if_false]
            exact runOps_sound hc rest _ _ _ s' (sameF_D hs _ _) h hK
          · simp at h
    · simp at h
theorem evOp_pure {fr : List (Nat × M)} {ob ob' : List Ob} {o : Op} {ty : TypeId} {m : M} (hp : pureOp o = true) (h : evOp P fr ob o ty = some (m, ob')) : ob' = ob := by
  have w : ∀ {x : Option M}, with_ ob x = some (m, ob') → ob' = ob := fun h => (with_some h).2
  cases o with
  | call c =>
    obtain ⟨callee, args, ts⟩ := c
    cases callee with
    | builtin b =>
      simp only [evOp] at h
      unfold evBuiltin at h
      split at h
      · split at h
        · split at h
          · simp only [Option.some.injEq, Prod.mk.injEq] at h; exact h.2.symm
          · simp at h
        · simp at h
      all_goals first
        | (simp [pureOp] at hp; done)
        | (split at h <;> first | exact w h | (simp at h; done))
        | (simp at h; done)
    | _ => simp [pureOp] at hp
  | pick c a b =>
    simp only [evOp] at h
    split at h
    · split at h <;> exact w h
    · simp at h
  | _ => first
    | (simp [pureOp] at hp; done)
    | (simp only [evOp] at h; exact w h)
    | (simp only [evOp] at h; split at h <;> first | exact w h | (simp at h; done))
    | (simp only [evOp] at h; split at h <;> first | (split at h <;> first | exact w h | (split at h <;> first | exact w h | (simp at h; done)) | (simp at h; done)) | (simp at h; done))
theorem runDraw_sound {N : Nat} {call : FuncId → List M → List Ob → Option (M × List Ob)} (hc : CallOK P call) {ops : Array Oper} {cuts : List Nat} {K : List (Nat × M) → List Ob → Prop} : ∀ (l : List Oper) (k : Nat) (fr fr0 : List (Nat × M)) (ob : List Ob) (frr : List (Nat × M)) (obr : List Ob), SameF fr fr0 → runDraw P N call ops cuts k l fr0 ob = some (frr, obr) → (∀ fr', SameF fr' frr → K fr' obr) → DrawK P N ops cuts K k l fr ob
  | [], k, fr, fr0, ob, frr, obr, hs, h, hK => by
    simp only [runDraw, Option.some.injEq, Prod.mk.injEq] at h
    obtain ⟨rfl, rfl⟩ := h
    exact hK fr hs
  | o :: rest, k, fr, fr0, ob, frr, obr, hs, h, hK => by
    simp only [runDraw] at h
    rw [DrawK_cons]
    have eg : guardV ops fr o = guardV ops fr0 o := guardV_congr fun t _ => hs t
    have ec : callOf P ob fr o.op = callOf P ob fr0 o.op := callOf_congr fun t _ => hs t
    have ee : evOp P fr ob o.op o.type = evOp P fr0 ob o.op o.type := evOp_congr fun t _ => hs t
    split at h
    · rename_i hd
      refine ⟨hd, ?_⟩
      rw [eg]
      split at h
      · simp at h
      · rename_i hg
        rw [hg, DGuard_false]
        exact runDraw_sound hc rest _ _ _ _ frr obr (sameF_D hs _ _) h hK
      · rename_i hg
        rw [hg, DGuard_true, ec]
        split at h
        · rename_i f args hcall
          rw [hcall, DCall_some]
          split at h
          · rename_i hmay
            split at h
            · rename_i m ob' hr
              exact ⟨m, ob', hc _ _ _ _ _ hr, fun hf => by rw [hmay] at hf; simp at hf, runDraw_sound hc rest _ _ _ _ frr obr (sameF_D hs _ _) h hK⟩
            · simp at h
          · split at h
            · rename_i ha
              split at h
              · rename_i m ob' hr
                split at h
                · rename_i hm
                  exact ⟨m, ob, Den.frame ha hm ((hc _ _ _ _ _ hr).mono fun r ob2 h => h.1) ob, fun _ => rfl, runDraw_sound hc rest _ _ _ _ frr obr (sameF_D hs _ _) h hK⟩
                · simp at h
              · simp at h
            · simp at h
        · rename_i hcall
          rw [hcall, DCall_none, ee]
          split at h
          · rename_i m ob' hr
            rw [hr, DEv_some2]
            split at h
            · rename_i hmay
              exact ⟨fun hf => by rw [hmay] at hf; simp at hf, runDraw_sound hc rest _ _ _ _ frr obr (sameF_D hs _ _) h hK⟩
            · split at h
              · rename_i hp
                have e := evOp_pure hp hr
                subst e
                exact ⟨fun _ => rfl, runDraw_sound hc rest _ _ _ _ frr obr (sameF_D hs _ _) h hK⟩
              · simp at h
          · simp at h
    · simp at h

theorem awp_region0 {id : Nat} {l : List Oper} {Q : Exit → St → Prop} {s : St} {N : Nat} (hN : X.N = N) (h : awpOps P N l.toArray (Q .normal) l s) : Awp P X (.region id l.toArray false) Q s := by
  subst hN; exact awp_region h
theorem draw_region0 {id : Nat} {l : List Oper} {Q : Exit → St → Prop} {s : St} {N : Nat} (hN : X.N = N) (hm : P.follows .mixedOrders = true) (hord : drawOK l (cutsFrom 0 l) = true)
    (h : DrawK P N l.toArray (cutsFrom 0 l) (fun fr ob => Q .normal ⟨fr, ob⟩) 0 l s.fr s.ob) : Awp P X (.region id l.toArray true) Q s := by
  have hall : ∀ fr : List (Nat × M), ∃ ts, ∀ t m, get fr t = some m → get (keep fr ts) t = some m := fun fr => ⟨fr.map (·.1), fun t m hg => by
    rw [get_keep, if_pos]
    · exact hg
    · have := get_mem hg
      exact List.mem_map.2 ⟨(t, m), this, rfl⟩⟩
  unfold drawOK at hord
  simp only [Bool.and_eq_true, decide_eq_true_eq] at hord
  obtain ⟨ho, hcu, hnd⟩ := hord
  obtain ⟨ms, f, h0, h1, h2⟩ := drawK_text hnd l 0 s.fr s.ob h
  have hz : nc (cutsFrom 0 l) 0 = 0 := by unfold nc; simp
  rw [hz] at h0
  rw [Nat.zero_add] at h2
  obtain ⟨ts, hts⟩ := hall (frP (fun _ => true) 0 l ms s.fr)
  intro a w hr
  refine wp_mono (awp_draw (Q := fun e s' => e = .normal ∧ s' = ⟨keep (frP (fun _ => true) 0 l ms s.fr) ts, f (nc (cutsFrom 0 l) l.length)⟩) N hN ts _ hm ho hcu ms f h0 h1 ⟨rfl, rfl⟩ a w hr) ?_
  rintro e a' w' ⟨s', ⟨rfl, rfl⟩, r⟩
  exact ⟨_, h2, r.weak ⟨hts, rfl⟩⟩

theorem resM_same {fr fr' : List (Nat × M)} {ob : List Ob} (h : SameF fr fr') : ∀ rs : List ResultVar, resM P ob fr rs = resM P ob fr' rs
  | [] => rfl
  | .tmp t :: r => by simp only [resM, h t, resM_same h r]
  | .cell q t :: r => by simp only [resM, h q, resM_same h r]
theorem resOf_same {fr fr' : List (Nat × M)} {ob : List Ob} (h : SameF fr fr') {rs : List ResultVar} : resOf P ob fr rs = resOf P ob fr' rs := by
  unfold resOf; rw [resM_same h]

theorem run_sound (n : Nat) : (∀ (N : Nat) (X : Ctx) (c : Code) (fr fr0 : List (Nat × M)) (ob : List Ob) (e : Ex) (s' : St), X.N = N → SameF fr fr0 → runC P N n c ⟨fr0, ob⟩ = some (e, s') → ∀ Q : Exit → St → Prop, (∀ fr', SameF fr' s'.fr → Q e.to ⟨fr', s'.ob⟩) → Awp P X c Q ⟨fr, ob⟩) ∧ CallOK P (runF P n) := by
  induction n using Nat.strongRecOn with
  | _ n ih0 =>
  cases n with
  | zero => exact ⟨fun N X c fr fr0 ob e s' _ _ h => by simp [runC] at h, fun f args ob m ob' h => by simp [runF] at h⟩
  | succ n =>
    obtain ⟨ihC, ihF⟩ := ih0 n (by omega)
    refine ⟨fun N X c fr fr0 ob e s' hN hs h Q hQ => ?_, fun f args ob m ob' h => ?_⟩
    · have h00 := h
      unfold runC at h
      cases c with
      | seq x y =>
        simp only at h
        refine awp_seq ?_
        split at h
        · rename_i s1 hr
          refine ihC N X x fr fr0 ob .n s1 hN hs hr _ fun fr' hf => ?_
          exact ihC N X y fr' s1.fr s1.ob e s' hN hf h Q hQ
        · rename_i hne
          cases e with
          | n => exact absurd h (hne _)
          | x id => exact ihC N X x fr fr0 ob (.x id) s' hN hs h _ hQ
          | r => exact ihC N X x fr fr0 ob .r s' hN hs h _ hQ
      | cond c x y =>
        simp only at h
        have ec : opM fr c = opM fr0 c := opM_congr fun t _ => hs t
        split at h
        · rename_i hb
          exact awp_cond (b := true) (by simp only; rw [ec]; exact hb) (by simpa using ihC N X x fr fr0 ob e s' hN hs h Q hQ)
        · rename_i hb
          exact awp_cond (b := false) (by simp only; rw [ec]; exact hb) (by simpa using ihC N X y fr fr0 ob e s' hN hs h Q hQ)
        · simp at h
      | block id c =>
        simp only at h
        refine awp_block ?_
        split at h
        · rename_i id' s1 hr
          refine ihC N X c fr fr0 ob (.x id') s1 hN hs hr _ fun fr' hf => ?_
          simp only [Ex.to, inBlockA]
          split at h
          · rename_i hid
            simp only [Option.some.injEq, Prod.mk.injEq] at h
            obtain ⟨rfl, rfl⟩ := h
            rw [if_pos hid]
            exact hQ fr' hf
          · rename_i hid
            simp only [Option.some.injEq, Prod.mk.injEq] at h
            obtain ⟨rfl, rfl⟩ := h
            rw [if_neg hid]
            exact hQ fr' hf
        · rename_i hne
          cases e with
          | n => exact ihC N X c fr fr0 ob .n s' hN hs h _ hQ
          | x id' => exact absurd h (hne _ _)
          | r => exact ihC N X c fr fr0 ob .r s' hN hs h _ hQ
      | skip =>
        simp only [Option.some.injEq, Prod.mk.injEq] at h
        obtain ⟨rfl, rfl⟩ := h
        exact awp_skip (hQ fr hs)
      | label l =>
        simp only [Option.some.injEq, Prod.mk.injEq] at h
        obtain ⟨rfl, rfl⟩ := h
        exact awp_label (hQ fr hs)
      | exit id =>
        simp only [Option.some.injEq, Prod.mk.injEq] at h
        obtain ⟨rfl, rfl⟩ := h
        exact awp_exit (hQ fr hs)
      | ret =>
        simp only [Option.some.injEq, Prod.mk.injEq] at h
        obtain ⟨rfl, rfl⟩ := h
        exact awp_ret (hQ fr hs)
      | scope c =>
        simp only at h
        refine awp_scope (ihC N X c fr fr0 ob e s' hN hs h _ fun fr' hf => ?_)
        cases e <;> exact hQ fr' hf
      | loop c =>
        refine awp_loop (fun m s1 => m ≤ n + 1 ∧ ∃ fr1, SameF s1.fr fr1 ∧ runC P N m (.loop c) ⟨fr1, s1.ob⟩ = some (e, s')) (n + 1) ⟨Nat.le_refl _, fr0, hs, h00⟩ ?_
        rintro m ⟨fr2, ob2⟩ ⟨hm, fr1, hs1, hr1⟩
        simp only at hs1 hr1
        cases m with
        | zero => simp [runC] at hr1
        | succ m =>
          obtain ⟨ihC', _⟩ := ih0 m (by omega)
          unfold runC at hr1
          simp only at hr1
          split at hr1
          · rename_i s2 hr2
            refine ihC' N X c fr2 fr1 ob2 .n s2 hN hs1 hr2 _ fun fr' hf => ?_
            exact ⟨m, by omega, by omega, s2.fr, hf, hr1⟩
          · rename_i hne
            cases e with
            | n => exact absurd hr1 (hne _)
            | x id => exact ihC' N X c fr2 fr1 ob2 (.x id) s' hN hs1 hr1 _ hQ
            | r => exact ihC' N X c fr2 fr1 ob2 .r s' hN hs1 hr1 _ hQ
      | region id ops b =>
        obtain ⟨l⟩ := ops
        cases b with
        | false =>
          simp only at h
          split at h
          · rename_i s1 hr
            simp only [Option.some.injEq, Prod.mk.injEq] at h
            obtain ⟨rfl, rfl⟩ := h
            exact awp_region0 hN (runOps_sound ihF l fr fr0 ob s1 hs hr hQ)
          · simp at h
        | true =>
          simp only at h
          split at h
          · rename_i hm
            split at h
            · rename_i hd
              split at h
              · rename_i fr1 ob1 hr
                simp only [Option.some.injEq, Prod.mk.injEq] at h
                obtain ⟨rfl, rfl⟩ := h
                exact draw_region0 hN hm hd (runDraw_sound ihF l 0 fr fr0 ob fr1 ob1 hs hr hQ)
              · simp at h
            · simp at h
          · simp at h
      | _ => simp at h
    · unfold runF at h
      split at h
      · rename_i fn hfn
        split at h
        · simp at h
        · rename_i hname
          split at h
          · rename_i c hb
            split at h
            · rename_i hlen
              refine den_of hfn hb (by simpa using hname) hlen fun X hX hO => ?_
              split at h
              · rename_i s hr
                obtain ⟨m', hm, hp⟩ := Option.map_eq_some_iff.1 h
                simp only [Prod.mk.injEq] at hp
                obtain ⟨rfl, rfl⟩ := hp
                refine ihC fn.ntmps X c _ _ ob .n s hX (fun _ => rfl) hr _ fun fr' hf => ?_
                simp only [Ex.to, postOf]
                rw [resOf_same hf, hm]
                simp
              · rename_i s hr
                obtain ⟨m', hm, hp⟩ := Option.map_eq_some_iff.1 h
                simp only [Prod.mk.injEq] at hp
                obtain ⟨rfl, rfl⟩ := hp
                refine ihC fn.ntmps X c _ _ ob .r s hX (fun _ => rfl) hr _ fun fr' hf => ?_
                simp only [Ex.to, postOf]
                rw [resOf_same hf, hm]
                simp
              · simp at h
            · simp at h
          · simp at h
      · simp at h
theorem den_run {f : FuncId} {args : List M} {m : M} (n : Nat) (ha : ltBs 0 args = true) (hm : ltB 0 m = true) (h : (runF P n f args []).map (·.1) = some m) : DenV P f args m := by
  obtain ⟨⟨r, ob'⟩, hr, rfl⟩ := Option.map_eq_some_iff.1 h
  exact Den.frame ha hm (((run_sound n).2 f args [] r ob' hr).mono fun x ob2 h => h.1)
end Go.Av

/- Numbers: what wraps, and bits, by words. -/
set_option linter.unusedVariables false
set_option linter.unusedSimpArgs false
namespace Go.Av
open Go

theorem wrapU32 (x : Int) (h : 0 ≤ x ∧ x < 4294967296) : IntKind.u32.wrap x = x := by simp [IntKind.wrap, IntKind.signed, IntKind.bits]; omega
theorem wrapU64 (x : Int) (h : 0 ≤ x ∧ x < 18446744073709551616) : IntKind.u64.wrap x = x := by simp [IntKind.wrap, IntKind.signed, IntKind.bits]; omega
theorem wrapI64 (x : Int) (h : -9223372036854775808 ≤ x ∧ x < 9223372036854775808) : IntKind.i64.wrap x = x := by simp [IntKind.wrap, IntKind.signed, IntKind.bits]; omega
theorem modU8 (x : Int) : IntKind.u8.wrap x = x % 256 := by simp [IntKind.wrap, IntKind.signed, IntKind.bits]
theorem modU32 (x : Int) : IntKind.u32.wrap x = x % 4294967296 := by simp [IntKind.wrap, IntKind.signed, IntKind.bits]
theorem modU64 (x : Int) : IntKind.u64.wrap x = x % 18446744073709551616 := by simp [IntKind.wrap, IntKind.signed, IntKind.bits]

theorem mul_pow2 (x n : Nat) : (x : Int) * 2 ^ n = ((x * 2 ^ n : Nat) : Int) := by rw [Int.natCast_mul, Int.natCast_pow]; rfl
theorem fdiv_pow (x n : Nat) : ((x : Int)).fdiv (2 ^ n) = ((x / 2 ^ n : Nat) : Int) := by
  rw [Int.fdiv_eq_ediv_of_nonneg _ (by have : (0 : Int) < 2 ^ n := Int.pow_pos (by omega); omega)]
  norm_cast
theorem fdiv_nat (x n : Nat) : ((x : Int)).fdiv (n : Int) = ((x / n : Nat) : Int) := by
  rw [Int.fdiv_eq_ediv_of_nonneg _ (by omega)]
  norm_cast
def w32 (x : BitVec 32) : C := .v (.int .u32 (x.toNat : Int))
def w64 (x : BitVec 64) : C := .v (.int .u64 (x.toNat : Int))
theorem ofI32 (x : BitVec 32) : BitVec.ofInt IntKind.u32.bits (x.toNat : Int) = x := by
  show BitVec.ofInt 32 (x.toNat : Int) = x
  rw [BitVec.ofInt_natCast, BitVec.ofNat_toNat, BitVec.setWidth_eq]
theorem toI32 (x : BitVec 32) : IntKind.u32.wrap (x.toNat : Int) = (x.toNat : Int) := wrapU32 _ (by have := x.isLt; omega)
theorem add32 (x y : BitVec 32) : IntKind.u32.wrap ((x.toNat : Int) + (y.toNat : Int)) = ((x + y).toNat : Int) := by rw [modU32, BitVec.toNat_add]; omega
theorem and32 (x y : BitVec 32) : andI .u32 (x.toNat : Int) (y.toNat : Int) = ((x &&& y).toNat : Int) := by unfold andI; rw [ofI32, ofI32]; exact toI32 _
theorem or32 (x y : BitVec 32) : orI .u32 (x.toNat : Int) (y.toNat : Int) = ((x ||| y).toNat : Int) := by unfold orI; rw [ofI32, ofI32]; exact toI32 _
theorem xor32 (x y : BitVec 32) : xorI .u32 (x.toNat : Int) (y.toNat : Int) = ((x ^^^ y).toNat : Int) := by unfold xorI; rw [ofI32, ofI32]; exact toI32 _
theorem not32 (x : BitVec 32) : IntKind.u32.wrap ((BitVec.ofInt IntKind.u32.bits IntKind.u32.max ^^^ BitVec.ofInt IntKind.u32.bits (x.toNat : Int)).toNat : Int) = ((~~~ x).toNat : Int) := by
  rw [ofI32]
  show IntKind.u32.wrap (((BitVec.ofInt 32 IntKind.u32.max ^^^ x : BitVec 32)).toNat : Int) = _
  rw [show BitVec.ofInt 32 IntKind.u32.max = BitVec.allOnes 32 from by decide, BitVec.allOnes_xor]
  exact toI32 _
theorem shr32 (x : BitVec 32) (n : Nat) : ((x.toNat : Int)).fdiv (2 ^ n) = ((x >>> n).toNat : Int) := by rw [fdiv_pow, BitVec.toNat_ushiftRight, Nat.shiftRight_eq_div_pow]
theorem shl32 (x : BitVec 32) (n : Nat) : IntKind.u32.wrap ((x.toNat : Int) * 2 ^ n) = ((x <<< n).toNat : Int) := by
  rw [modU32, BitVec.toNat_shiftLeft, Nat.shiftLeft_eq, mul_pow2]
  generalize x.toNat * 2 ^ n = m
  omega
theorem andN (k : IntKind) (a b : Nat) (ha : a < 2 ^ k.bits) (hb : b < 2 ^ k.bits) (hs : k.signed = true → a < 2 ^ (k.bits - 1)) : andI k (a : Int) (b : Int) = ((a &&& b : Nat) : Int) := by
  unfold andI
  rw [BitVec.ofInt_natCast, BitVec.ofInt_natCast, BitVec.toNat_and, BitVec.toNat_ofNat, BitVec.toNat_ofNat, Nat.mod_eq_of_lt ha, Nat.mod_eq_of_lt hb]
  have hle : a &&& b ≤ a := Nat.and_le_left
  have hp : ((2 : Int) ^ k.bits) = ((2 ^ k.bits : Nat) : Int) := by norm_cast
  have hq : ((2 : Int) ^ (k.bits - 1)) = ((2 ^ (k.bits - 1) : Nat) : Int) := by norm_cast
  have hm : (((a &&& b : Nat) : Int)) % 2 ^ k.bits = ((a &&& b : Nat) : Int) := by rw [hp]; exact Int.emod_eq_of_lt (by omega) (by omega)
  simp only [IntKind.wrap, hm]
  split
  · rename_i h
    simp only [Bool.and_eq_true, decide_eq_true_eq] at h
    have := hs h.1
    rw [hq] at h
    omega
  · rfl
theorem orU (k : IntKind) (a b : Nat) (ha : a < 2 ^ k.bits) (hb : b < 2 ^ k.bits) (hs : k.signed = false) : orI k (a : Int) (b : Int) = ((a ||| b : Nat) : Int) := by
  unfold orI
  rw [BitVec.ofInt_natCast, BitVec.ofInt_natCast, BitVec.toNat_or, BitVec.toNat_ofNat, BitVec.toNat_ofNat, Nat.mod_eq_of_lt ha, Nat.mod_eq_of_lt hb]
  have hlt : a ||| b < 2 ^ k.bits := Nat.or_lt_two_pow ha hb
  have hp : ((2 : Int) ^ k.bits) = ((2 ^ k.bits : Nat) : Int) := by norm_cast
  have hm : (((a ||| b : Nat) : Int)) % 2 ^ k.bits = ((a ||| b : Nat) : Int) := by rw [hp]; exact Int.emod_eq_of_lt (by omega) (by omega)
  simp only [IntKind.wrap, hm, hs, Bool.false_and, Bool.false_eq_true, if_false]
theorem or_byte (a b : Nat) (h : b < 256) : (a * 256) ||| b = a * 256 + b := by
  have := Nat.shiftLeft_add_eq_or_of_lt (i := 8) (b := b) (by omega) a
  rw [Nat.shiftLeft_eq] at this
  exact this.symm
end Go.Av
namespace Go.Av
@[simp] theorem bytesM_cons (n : Int) (cs : List C) : bytesM (up (.v (.int .u8 n) :: cs)) = (bytesM (up cs)).map (UInt8.ofNat n.toNat :: ·) := rfl
end Go.Av
namespace Go.Av
open Go
def wI (x : BitVec 32) : Int := (x.toNat : Int)
def wC (x : BitVec 32) : C := .v (.int .u32 (wI x))
theorem wI_add (x y : BitVec 32) : IntKind.u32.wrap (wI x + wI y) = wI (x + y) := add32 x y
theorem wI_and (x y : BitVec 32) : andI .u32 (wI x) (wI y) = wI (x &&& y) := and32 x y
theorem wI_or (x y : BitVec 32) : orI .u32 (wI x) (wI y) = wI (x ||| y) := or32 x y
theorem wI_xor (x y : BitVec 32) : xorI .u32 (wI x) (wI y) = wI (x ^^^ y) := xor32 x y
theorem wI_not (x : BitVec 32) : notI .u32 (wI x) = wI (~~~ x) := not32 x
theorem wI_shr (x : BitVec 32) (n : Nat) : (wI x).fdiv (2 ^ n) = wI (x >>> n) := shr32 x n
theorem wI_shr' (x : BitVec 32) (n : Nat) : (wI x) >>> n = wI (x >>> n) := by
  have : (wI x) >>> n = (wI x).fdiv (2 ^ n) := by
    unfold wI
    rw [fdiv_pow, Int.shiftRight_eq_div_pow]
    norm_cast
  rw [this, wI_shr]
theorem wI_shl (x : BitVec 32) (n : Nat) : IntKind.u32.wrap (wI x * 2 ^ n) = wI (x <<< n) := shl32 x n
end Go.Av
namespace Go.Av
open Go
variable {P : Program}
theorem Den.at_ {f : FuncId} {args : List M} {ob : List Ob} {K : M → List Ob → Prop} (h : Den P f args ob K) : Den P f args ob K := h
theorem drawn_at {f : FuncId} {args : List M} {ob : List Ob} {A : M → List Ob → Prop} (h : ∃ m ob2, Den P f args ob (fun r ob' => r = m ∧ ob' = ob2) ∧ A m ob2) : ∃ m ob2, Den P f args ob (fun r ob' => r = m ∧ ob' = ob2) ∧ A m ob2 := h
end Go.Av
namespace Go.Av
@[simp] theorem lay_up1 (cs : List C) (off : Nat) (a : C) : lay (up cs) off (up [a]) = up (cs.set off a) := by simp [up, lay_one, List.map_set]
@[simp] theorem lay_up2 (cs : List C) (off : Nat) (a b : C) (r : List C) : lay (up cs) off (up (a :: b :: r)) = up (cs.take off ++ ((a :: b :: r) ++ cs.drop (off + (a :: b :: r).length))) := by
  show lay (up cs) off (M.c a :: M.c b :: up r) = _
  rw [lay_two]
  simp [up]
end Go.Av

/- A scope in which the run jumps back to one label. -/
set_option linter.unusedVariables false
namespace Go.Av
open Go
variable {P : Program} {X : Ctx}
def jumpA (l : Nat) (J : St → Prop) (Q : Exit → St → Prop) : Exit → St → Prop
  | .goto l', s => l' = l ∧ J s
  | e, s => Q e s
attribute [simp] jumpA
@[reducible] def isG : Exit → Bool
  | .goto _ => true
  | _ => false
theorem least {p : Nat → Prop} (h : ∃ n, p n) : ∃ n, p n ∧ ∀ m, p m → n ≤ m := by
  obtain ⟨k, hk⟩ := h
  induction k using Nat.strongRecOn with
  | _ k ih =>
    by_cases hm : ∃ m, m < k ∧ p m
    · obtain ⟨m, h1, h2⟩ := hm
      exact ih m h1 h2
    · exact ⟨k, hk, fun m h2 => Nat.le_of_not_lt fun h1 => hm ⟨m, h1, h2⟩⟩
theorem awp_goto {l : Nat} {Q : Exit → St → Prop} {s : St} (h : Q (.goto l) s) : Awp P X (.goto l) Q s := fun a w hr => wp_goto ⟨s, h, hr⟩
open Classical in
theorem awp_scopeJ {c rest : Code} {Q : Exit → St → Prop} {s : St} (l : Nat) (ts : List Nat) (I : Nat → St → Prop) (hf : findLabel c l = some rest)
    (first : Awp P X c (jumpA l (fun s' => ∃ n, I n ⟨keep s'.fr ts, s'.ob⟩) Q) s)
    (pass : ∀ n s, I n s → Awp P X rest (jumpA l (fun s' => ∃ n', n' < n ∧ I n' ⟨keep s'.fr ts, s'.ob⟩) Q) s) : Awp P X (.scope c) Q s := fun a w hr => by
  let R : Act → World → Nat → Prop := fun a w n => ∃ s, I n s ∧ Rel X s a w
  let μ : Act → World → Nat := fun a w => if h : ∃ n, R a w n then (least h).choose else 0
  refine wp_scope_jumps l (fun a w => ∃ n, R a w n) μ hf ?_ ?_
  · refine wp_mono (first a w hr) ?_
    rintro e a' w' ⟨s', q, r⟩
    cases e with
    | goto l' =>
      obtain ⟨rfl, n, hn⟩ := q
      exact ⟨rfl, n, _, hn, r.weak (weak_keep s' ts)⟩
    | _ => exact ⟨s', q, r⟩
  · intro a w hJ
    have hμ : μ a w = (least hJ).choose := dif_pos hJ
    obtain ⟨s, hi, hr⟩ := (least hJ).choose_spec.1
    refine wp_mono (pass _ s hi a w hr) ?_
    rintro e a' w' ⟨s', q, r⟩
    cases e with
    | goto l' =>
      obtain ⟨rfl, n', hlt, hn⟩ := q
      have hR : R a' w' n' := ⟨_, hn, r.weak (weak_keep s' ts)⟩
      have hex : ∃ n, R a' w' n := ⟨n', hR⟩
      refine ⟨rfl, hex, ?_⟩
      have hμ' : μ a' w' = (least hex).choose := dif_pos hex
      rw [hμ, hμ']
      have := (least hex).choose_spec.2 _ hR
      omega
    | _ => exact ⟨s', q, r⟩
theorem awp_scopeL {A B rest : Code} {Q : Exit → St → Prop} {s : St} (l : Nat) (ts : List Nat) (I : Nat → St → Prop) (hf : findLabel (.seq A (.seq (.label l) B)) l = some rest) (hr : rest = B ∨ rest = .seq .skip B)
    (first : Awp P X A (thenA (fun s' => ∃ n, I n ⟨keep s'.fr ts, s'.ob⟩) (noGotoA Q)) s)
    (pass : ∀ n s (Q1 : Exit → St → Prop), I n s → (∀ s' n', n' < n → I n' ⟨keep s'.fr ts, s'.ob⟩ → Q1 (.goto l) s') → (∀ e s', isG e = false → Q e s' → Q1 e s') → Awp P X B Q1 s) : Awp P X (.scope (.seq A (.seq (.label l) B))) Q s := by
  have hp : ∀ n s, I n s → Awp P X B (jumpA l (fun s' => ∃ n', n' < n ∧ I n' ⟨keep s'.fr ts, s'.ob⟩) Q) s := fun n s hi => pass n s _ hi (fun s' n' h1 h2 => ⟨rfl, n', h1, h2⟩) (fun e s' he hq => by cases e <;> first | exact hq | exact absurd he (by simp [isG]))
  refine awp_scopeJ l ts I hf ?_ (fun n s hi => ?_)
  · refine awp_seq (first.mono fun e s' hq => ?_)
    cases e with
    | normal =>
      obtain ⟨n, hn⟩ := hq
      refine awp_seq (awp_label ?_)
      refine Awp.weak ?_ (weak_keep s' ts)
      refine (hp n _ hn).mono fun e s' hq => ?_
      cases e with
      | goto l' =>
        obtain ⟨h1, n', _, h2⟩ := hq
        exact ⟨h1, n', h2⟩
      | _ => exact hq
    | goto l' => exact hq.elim
    | _ => exact hq
  · rcases hr with rfl | rfl
    · exact hp n s hi
    · exact awp_seq (awp_skip (hp n s hi))
end Go.Av

/- Contracts of the library that are proved over the world, as contracts over states. -/
set_option linter.unusedVariables false
set_option linter.unusedSimpArgs false
namespace Go.Av
open Go Go.RowKit
variable {P : Program}

theorem Den.of_below {f : FuncId} {args : List M} {x : Value} (hok : okF P f = true) (ha : ltBs 0 args = true)
    (h : ∀ (w : World) (E : Env) (vals : Array Value), vals.size = args.length → (∀ (j : Nat) m, args[j]? = some m → RepM w E [] m (vals.getD j undef)) → (∀ b, E.st b → b < w.heap.size) →
      Calls P f vals w fun e w' => e = .returned x ∧ Below w.heap.size w w') : DenV P f args (.c (.v x)) := by
  refine Den.frame ha rfl ?_
  intro w E vals h1 h2 h3
  refine .inl ⟨hok, (h w E vals h1 h2 h3.stb).mono ?_⟩
  rintro e w' ⟨rfl, hb⟩
  refine ⟨x, rfl, .c (.v x), [], E, rfl, .c (.v x), ⟨⟨fun i o hi => by simp at hi, fun i j a b hi => by simp at hi, fun b hb' => Nat.lt_of_lt_of_le (h3.stb b hb') hb.size, fun i o hi => by simp at hi⟩, ⟨fun b hb' => ⟨hb', hb.block b (h3.stb b hb')⟩, fun i o hi => by simp at hi⟩, ⟨hb.os, hb.tape, hb.output, hb.size, fun b hb' _ => hb.block b hb', fun _ h => h, fun _ h => .inl h, fun i o hi => by simp at hi⟩⟩⟩
theorem arg_v {w : World} {E : Env} {ob : List Ob} {x y : Value} (h : RepM w E ob (.c (.v x)) y) : y = x := by
  cases h with
  | c h => cases h; rfl
theorem arg_row {w : World} {E : Env} {ob : List Ob} {vs : List Value} {n : Nat} {full : Bool} {y : Value} (hn : vs.length = n) (h : RepM w E ob (.c (.sl (vs.map C.v) n full)) y) :
    (n = 0 ∧ y = .slice none 0 0) ∨ ∃ (a : Addr) (cap : Nat), y = .slice (some a) n cap ∧ n ≤ cap ∧ ∀ (j : Nat) v, vs[j]? = some v → E.st a.block ∧ w.cell? (a.add j) = some v := by
  generalize hcs : vs.map C.v = cs0 at h
  cases h with
  | c h =>
    cases h with
    | nl => exact .inl ⟨rfl, rfl⟩
    | sl cs n full a cap ys hf hn' h1 h2 =>
      refine .inr ⟨a, cap, rfl, hn', fun j v hv => ?_⟩
      have hc : cs0[j]? = some (.v v) := by rw [← hcs]; simp [hv]
      obtain ⟨q1, q2, q3⟩ := h1 j _ hc
      have := h2 j _ hc
      cases this
      exact ⟨q1, q3⟩
theorem plain_of_cell {w : World} {a : Addr} {v : Value} (h : w.cell? a = some v) : a = ⟨a.block, a.off, none⟩ := by
  unfold World.cell? at h
  split at h
  · split at h
    · simp at h
    · rename_i hs
      obtain ⟨b, o, s⟩ := a
      cases s with
      | none => rfl
      | some s => simp at hs
  · simp at h
theorem add_plain (b o j : Nat) : (⟨b, o, none⟩ : Addr).add j = ⟨b, o + j, none⟩ := by
  unfold Addr.add
  split
  · rename_i h; subst h; rfl
  · rfl
end Go.Av

/- A slice's object is given up, with what came after it. -/
set_option linter.unusedVariables false
set_option linter.unusedSimpArgs false
namespace Go.Av
open Go Go.RowKit
variable {P : Program} {X : Ctx}
end Go.Av

/- A contract over the world whose answer is a row of its own, as a contract over states. -/
set_option linter.unusedVariables false
set_option linter.unusedSimpArgs false
namespace Go.Av
open Go Go.RowKit
variable {P : Program}
end Go.Av

/- Contracts hold beside objects of which they do not speak. -/
set_option linter.unusedVariables false
set_option linter.unusedSimpArgs false
namespace Go.Av
open Go
variable {P : Program} {X : Ctx}
end Go.Av

/- A region that draws its order, where changes of objects need not stand in order with all else: what the objects are is told of each set of operations that may have been carried out. -/
set_option linter.unusedVariables false
set_option linter.unusedSimpArgs false
namespace Go.Av
open Go
variable {P : Program} {X : Ctx}

def MatS (P : Program) (ob ob2 : List Ob) (op : Op) (m : M) : Prop :=
  ∃ e zs idx, op = .alloc e ∧ zeroT P e = some zs ∧ ob[idx]? = some { ty := e, sz := szOb P e, nil := true, gen := 0, cs := [] } ∧ m = .mp idx 1 0 ∧ ob2 = ob.set idx { ty := e, sz := szOb P e, nil := false, gen := 1, cs := zs }
def StepS (P : Program) (N : Nat) (ops : Array Oper) (ob ob2 : List Ob) (fr : List (Nat × M)) (o : Oper) (m : M) : Prop :=
  dstOK N o = true ∧ ((guardV ops fr o = some false ∧ m = .tup [] ∧ ob2 = ob) ∨ (guardV ops fr o = some true ∧
    ((∃ f args, callOf P ob fr o.op = some (f, args) ∧ Den P f args ob fun r ob' => r = m ∧ ob' = ob2) ∨ (callOf P ob fr o.op = none ∧ (evOp P fr ob o.op o.type = some (m, ob2) ∨ MatS P ob ob2 o.op m)))))
theorem sound_mat {w : World} {E : Env} {ob ob2 : List Ob} {s : Act} (hh : HeapOK w E ob) {o : Oper} {m : M} (h : MatS P ob ob2 o.op m) :
    ∃ v w' E', (execOp s.eval o).run P w = .ok (.value v) w' ∧ RepM w' E' ob2 m v ∧ Step w E ob w' E' ob2 := by
  obtain ⟨dst, op, ty, pos, after, guard⟩ := o
  obtain ⟨e, zs, idx, rfl, hz, hi, rfl, rfl⟩ := h
  obtain ⟨i, z, hi2, hiz, c1, c2, c3⟩ := cells_zero (w := w) (E := E) (ob := ob) hz
  have hlt := (List.getElem?_eq_some_iff.1 hi).1
  refine ⟨.pointer (some ⟨w.heap.size, 0, none⟩), { w with heap := w.heap.push (.cells z.cells e) }, _, ?_, ?_, step_move hh hi rfl zs 1 (by simp) z.cells e rfl c3 rfl rfl rfl rfl⟩
  · simp [execOp, Instr.alloc, run_zero hi2 hiz, newVar, newRow]
  · exact .mp ⟨rfl, _, by rw [getElem?_set, if_pos rfl, if_pos hlt], rfl, Nat.le_refl _, fun _ _ => by simp only [upd_same]⟩
theorem stepS_one {N : Nat} (hN : X.N = N) {ops : Array Oper} {ob ob2 : List Ob} {fr0 fr : List (Nat × M)} {o : Oper} {m : M} {K : Act → World → Prop} {Q : Exit → Act → World → Prop} {a : Act} {w : World}
    (hdst : dstOK N o = true) (hstep : (guardV ops fr0 o = some false ∧ m = .tup [] ∧ ob2 = ob) ∨ (guardV ops fr0 o = some true ∧
    ((∃ f args, callOf P ob fr0 o.op = some (f, args) ∧ Den P f args ob fun r ob' => r = m ∧ ob' = ob2) ∨ (callOf P ob fr0 o.op = none ∧ (evOp P fr0 ob o.op o.type = some (m, ob2) ∨ MatS P ob ob2 o.op m)))))
    (hreads : ∀ t ∈ readsOf o ops, get fr0 t = get fr t) (hrel : Rel X ⟨fr, ob⟩ a w) (hnext : ∀ a' w', Rel X ⟨putO fr o.dst m, ob2⟩ a' w' → K a' w') : wpList P ops (Exit.then K Q) [o] a w := by
  subst hN
  have hg := guardV_congr (ops := ops) hreads
  have hr2 : ∀ t ∈ o.op.operands.toList.flatMap tmpO, get fr0 t = get fr t := fun t ht => hreads t (by unfold readsOf; simp only [List.mem_append]; exact .inl ht)
  obtain ⟨E, h1, h2, h3, h4⟩ := hrel
  have hd : ∀ t, o.dst = some t → t < X.N := fun t ht => by
    unfold dstOK at hdst; rw [ht] at hdst; simpa using hdst
  rw [hg] at hstep
  have hfin : ∀ a' w', Rel X ⟨putO fr o.dst m, ob2⟩ a' w' → wpList P ops (Exit.then K Q) [] a' w' := fun a' w' hr => hnext a' w' hr
  rcases hstep with ⟨hgf, rfl, rfl⟩ | ⟨hgt, hs⟩
  · have hw := wanted_of h1 h2 hgf
    unfold wpList
    rw [hw]
    simp only [Bool.false_eq_true, if_false]
    exact hfin _ _ (rel_put h1 h2 h3 h4 (.refl h4.heap) hd (.tup [] #[] rfl (fun j hj => by simp at hj)))
  · have hw := wanted_of h1 h2 hgt
    unfold wpList
    rw [hw]
    simp only [if_true]
    refine .inl ?_
    rw [callOf_congr hr2] at hs
    rcases hs with ⟨f, args, hc, hden⟩ | ⟨hc, hev⟩
    · obtain ⟨vals, p1, p2, hrun⟩ := callOf_run (w := w) h1 h4.heap hc
      have := hden w E vals p1 p2 h4.heap
      unfold Oper.wp
      rcases this with ⟨hok, this⟩ | ⟨v, w', hv, r, ob', E', ⟨rfl, rfl⟩, hrv, hst⟩
      · rw [hrun, run_callFunc hok, Oper.upon_enter]
        refine this.mono ?_
        rintro e w' ⟨v, rfl, r, ob', E', ⟨rfl, rfl⟩, hrv, hst⟩
        exact hfin _ _ (rel_put h1 h2 h3 h4 hst hd hrv)
      · rw [hrun, hv, Oper.upon_value]
        exact hfin _ _ (rel_put h1 h2 h3 h4 hst hd hrv)
    · rcases hev with hev | hmat
      · rw [evOp_congr hr2] at hev
        obtain ⟨v, w', E', hrun, hrv, hst⟩ := sound_op h1 h4.heap hev
        unfold Oper.wp
        rcases hrun with hrun | ⟨hrun, rfl⟩
        · rw [hrun, Oper.upon_value]
          exact hfin _ _ (rel_put h1 h2 h3 h4 hst hd hrv)
        · rw [hrun, Oper.upon_skip]
          exact hfin _ _ (rel_put h1 h2 h3 h4 hst hd hrv)
      · obtain ⟨v, w', E', hrun, hrv, hst⟩ := sound_mat (s := a) h4.heap hmat
        unfold Oper.wp
        rw [hrun, Oper.upon_value]
        exact hfin _ _ (rel_put h1 h2 h3 h4 hst hd hrv)
theorem any_ofS {l : List Oper} {ms : List M} {fr : List (Nat × M)} {obs : (Nat → Bool) → List Ob} {Q : Exit → Act → World → Prop} (hord : ordOK l = true) (hobs : ∀ p q : Nat → Bool, (∀ j, j < l.length → p j = q j) → obs p = obs q)
    (ht : ∀ (i : Nat) o (p : Nat → Bool), l[i]? = some o → p i = false → (∀ e ∈ clOf l l.length i, p e = true) → (∀ (j : Nat) oj, l[j]? = some oj → p j = true → i ∉ clOf l l.length j) → ∃ m, ms[i]? = some m ∧ StepS P X.N l.toArray (obs p) (obs fun j => p j || j == i) (frP (fun j => decide (j < i)) 0 l ms fr) o m)
    (hQ : ∀ a w, Rel X ⟨frP (fun _ => true) 0 l ms fr, obs (fun _ => true)⟩ a w → Q .normal a w) :
    ∀ (fuel : Nat) (listed : Array Bool) (a : Act) (w : World), listed.size = l.length → Closed l (fun j => listed.getD j false) → (listed.toList.filter (!·)).length ≤ fuel → Rel X ⟨frP (fun j => listed.getD j false) 0 l ms fr, obs (fun j => listed.getD j false)⟩ a w → wpAny P .any l.toArray Q fuel listed a w := by
  have done : ∀ (listed : Array Bool) (a : Act) (w : World), listed.size = l.length → Closed l (fun j => listed.getD j false) → Region.ready .any l.toArray listed = [] → Rel X ⟨frP (fun j => listed.getD j false) 0 l ms fr, obs (fun j => listed.getD j false)⟩ a w → Q .normal a w := by
    intro listed a w hsz hcl hr hrel
    have all : ∀ i, i < l.length → listed.getD i false = true := by
      intro i
      induction i using Nat.strongRecOn with
      | _ i ih =>
        intro hi
        by_cases hl : listed.getD i false = true
        · exact hl
        · exfalso
          have hmem : i ∈ Region.ready .any l.toArray listed := by
            rw [mem_ready]
            refine ⟨?_, l[i], by simp [hi], fun e he hb => ?_⟩
            · have h1 : i < listed.size := by omega
              simp only [Array.getD_eq_getD_getElem?, Array.getElem?_eq_getElem h1, Option.getD_some] at hl ⊢
              simpa using hl
            · have he' : e.on ∈ aftersOf l[i] := by
                unfold aftersOf
                simp only [List.mem_map, List.mem_filter]
                exact ⟨e, ⟨by simpa using he, hb⟩, rfl⟩
              have hlt := ord_afters hord (i := i) (o := l[i]) (by simp [hi]) _ he'
              exact ih _ hlt (by omega)
          rw [hr] at hmem
          simp at hmem
    rw [hobs _ (fun _ => true) (fun j hj => all j hj)] at hrel
    refine hQ a w (hrel.weak ⟨fun t m hg => ?_, rfl⟩)
    simp only at hg ⊢
    rw [← hg]
    exact frP_congr _ _ t l 0 ms fr fr rfl (fun j o hj _ => by
      have := all j (List.getElem?_eq_some_iff.1 hj).1
      simpa using this)
  intro fuel
  induction fuel with
  | zero =>
    intro listed a w hsz hcl hcnt hrel
    have hr : Region.ready .any l.toArray listed = [] := by
      rw [List.eq_nil_iff_forall_not_mem]
      intro i hi
      rw [mem_ready] at hi
      obtain ⟨h1, o, ho, _⟩ := hi
      have hlt : i < listed.size := by
        have := (Array.getElem?_eq_some_iff.1 ho).1
        simp at this
        omega
      have : false ∈ listed.toList.filter (!·) := by
        rw [List.mem_filter]
        simp only [Array.getD_eq_getD_getElem?, Array.getElem?_eq_getElem hlt, Option.getD_some] at h1
        exact ⟨by rw [← h1]; simp, rfl⟩
      have := List.length_pos_of_mem this
      omega
    exact ⟨hr, done listed a w hsz hcl hr hrel⟩
  | succ fuel ih =>
    intro listed a w hsz hcl hcnt hrel
    refine ⟨fun hr => done listed a w hsz hcl hr hrel, fun i hi => ?_⟩
    rw [mem_ready] at hi
    obtain ⟨h1, o, ho, hafter⟩ := hi
    have ho' : l[i]? = some o := by simpa using ho
    have hil : i < l.length := (List.getElem?_eq_some_iff.1 ho').1
    have hlt : i < listed.size := by omega
    have hni : listed.getD i false = false := by
      simp only [Array.getD_eq_getD_getElem?, Array.getElem?_eq_getElem hlt, Option.getD_some] at h1 ⊢
      exact h1
    have hafters : ∀ e ∈ aftersOf o, listed.getD e false = true := by
      intro e he
      unfold aftersOf at he
      simp only [List.mem_map, List.mem_filter] at he
      obtain ⟨x, ⟨hx, hb⟩, rfl⟩ := he
      exact hafter x (by simpa using hx) hb
    have hcli : ∀ j ∈ clOf l l.length i, listed.getD j false = true := cl_listed hcl l.length i o ho' hafters
    have hclj : ∀ (j : Nat) oj, l[j]? = some oj → listed.getD j false = true → i ∉ clOf l l.length j := by
      intro j oj hj hlj hmem
      have := cl_listed hcl l.length j oj hj (hcl j oj hj hlj) i hmem
      rw [hni] at this
      simp at this
    obtain ⟨m, hm, hdst, hstep⟩ := ht i o (fun j => listed.getD j false) ho' hni hcli hclj
    have hreads : ∀ t ∈ readsOf o l.toArray, get (frP (fun j => decide (j < i)) 0 l ms fr) t = get (frP (fun j => listed.getD j false) 0 l ms fr) t := by
      intro t hmem
      refine frP_congr _ _ t l 0 ms fr fr rfl (fun j oj hj hd => ?_)
      simp only [Nat.zero_add]
      by_cases hji : j = i
      · subst hji
        rw [hni]; simp
      · obtain ⟨p1, p2⟩ := ord_at hord ho' hj hji hd (by simp [hmem])
        by_cases hlt2 : j < i
        · rw [hcli j (p1 hlt2)]; simp [hlt2]
        · have : i < j := by omega
          have hn : listed.getD j false = false := by
            cases hb : listed.getD j false with
            | false => rfl
            | true => exact absurd (p2 this) (hclj j oj hj hb)
          rw [hn]; simp [hlt2]
    have haft : obs (fun j => (listed.setIfInBounds i true).getD j false) = obs (fun j => listed.getD j false || j == i) := hobs _ _ fun c _ => by
      simp only [Array.getD_eq_getD_getElem?, Array.getElem?_setIfInBounds]
      by_cases e : i = c
      · subst e; simp [hlt]
      · have e' : (c == i) = false := by simp; omega
        simp [e, e']
    have hnext : ∀ (a' : Act) (w' : World), Rel X ⟨putO (frP (fun j => listed.getD j false) 0 l ms fr) o.dst m, obs (fun j => listed.getD j false || j == i)⟩ a' w' → wpAny P .any l.toArray Q fuel (listed.setIfInBounds i true) a' w' := by
      intro a' w' hrel'
      have hget : ∀ j, (listed.setIfInBounds i true).getD j false = if i = j then true else listed.getD j false := by
        intro j
        simp only [Array.getD_eq_getD_getElem?, Array.getElem?_setIfInBounds]
        by_cases e : i = j
        · subst e; simp [hlt]
        · simp [e]
      refine ih _ a' w' (by simpa using hsz) (fun j oj hj hlj e he => ?_) ?_ (hrel'.weak ⟨fun t q hg => ?_, haft⟩)
      · simp only at hlj ⊢
        rw [hget] at hlj ⊢
        by_cases e1 : i = e
        · rw [if_pos e1]
        · rw [if_neg e1]
          by_cases e2 : i = j
          · subst e2
            obtain rfl := Option.some.inj (ho'.symm.trans hj)
            exact hafters e he
          · rw [if_neg e2] at hlj
            exact hcl j oj hj hlj e he
      · have h2 : listed.toList[i]? = some false := by
          rw [Array.getElem?_toList, Array.getElem?_eq_getElem hlt]
          simp only [Array.getD_eq_getD_getElem?, Array.getElem?_eq_getElem hlt, Option.getD_some] at hni
          rw [hni]
        have := cnt_set listed.toList i h2
        rw [Array.toList_setIfInBounds]
        omega
      · simp only at hg ⊢
        rw [← hg, get_putO]
        by_cases hd : o.dst = some t
        · rw [if_pos hd]
          refine (frP_last _ t l 0 ms fr i o m ho' hm hd (by rw [hget]; simp) (fun j oj hij hj hlj hdj => ?_)).symm
          rw [hget, if_neg (by omega)] at hlj
          simp only [Nat.zero_add] at hlj
          obtain ⟨_, p2⟩ := ord_at hord ho' hj (by omega) hdj (by simp [hd])
          exact hclj j oj hj hlj (p2 hij)
        · rw [if_neg hd]
          refine (frP_congr _ _ t l 0 ms fr fr rfl (fun j oj hj hdj => ?_)).symm
          rw [hget]
          by_cases e : i = 0 + j
          · have : i = j := by omega
            subst this
            obtain rfl := Option.some.inj (ho'.symm.trans hj)
            exact absurd hdj hd
          · rw [if_neg e]
    have one : wpList P l.toArray (Exit.then (wpAny P .any l.toArray Q fuel (listed.setIfInBounds i true)) Q) [o] a w :=
      stepS_one rfl hdst hstep hreads hrel (fun a' w' hr => hnext a' w' hr)
    unfold wpOp
    rw [ho]
    simp only
    unfold wpList at one
    split
    · rename_i hw
      rw [if_pos hw] at one
      exact (upon_then _ _ _ _ _).1 one
    · rename_i hw
      rw [if_neg hw] at one
      exact one


theorem awp_drawS {id : Nat} {l : List Oper} {Q : Exit → St → Prop} {s : St} (N : Nat) (hN : X.N = N) (ts : List Nat) (hm : P.follows .mixedOrders = true) (hord : ordOK l = true) (ms : List M) (obs : (Nat → Bool) → List Ob) (h0 : obs (fun _ => false) = s.ob)
    (hobs : ∀ p q : Nat → Bool, (∀ j, j < l.length → p j = q j) → obs p = obs q)
    (ht : ∀ (i : Nat) o (p : Nat → Bool), l[i]? = some o → p i = false → (∀ e ∈ clOf l l.length i, p e = true) → (∀ (j : Nat) oj, l[j]? = some oj → p j = true → i ∉ clOf l l.length j) → ∃ m, ms[i]? = some m ∧ StepS P N l.toArray (obs p) (obs fun j => p j || j == i) (frP (fun j => decide (j < i)) 0 l ms s.fr) o m)
    (h : KeepF Q ts (frP (fun _ => true) 0 l ms s.fr) (obs fun _ => true)) : Awp P X (.region id l.toArray true) Q s := fun a w hr => by
  subst hN
  refine wp_region_any hm ?_
  obtain ⟨E, h1, h2, h3, h4⟩ := hr
  have hst : Step w E s.ob { w with drawn := w.drawn + 1 } E s.ob := by
    have hext : Ext w E s.ob { w with drawn := w.drawn + 1 } E s.ob := ⟨fun b hb => ⟨hb, rfl⟩, fun i o ho => ⟨o, ho, Nat.le_refl _, rfl, fun _ => rfl, fun _ => ⟨rfl, rfl, rfl, rfl⟩⟩⟩
    exact ⟨⟨fun i o ho => (h4.heap.obj i o ho).keep hext rfl rfl (fun _ => rfl), h4.heap.inj, h4.heap.stb, h4.heap.own⟩, hext, ⟨rfl, rfl, rfl, Nat.le_refl _, fun _ _ _ => rfl, fun _ h => h, fun _ h => .inl h, fun i o ho hn => .inl ⟨i, o, ho, hn, rfl⟩⟩⟩
  have hrel : Rel X s a { w with drawn := w.drawn + 1 } := ⟨E, fun t m hg => ⟨(h1 t m hg).1, (h1 t m hg).2.keep hst.ext⟩, h2, h3, h4.trans hst⟩
  have hfalse : ∀ j, (Array.replicate l.toArray.size false).getD j false = false := fun j => by
    simp only [Array.getD_eq_getD_getElem?, Array.getElem?_replicate]
    split <;> rfl
  refine any_ofS hord hobs ht (Q := lift X Q) (fun a w hr => ⟨_, h, hr.weak (weak_keep ⟨_, _⟩ ts)⟩) _ _ _ _ (by simp) (fun i o ho hp => ?_) (by simp) ?_
  · simp only [hfalse] at hp
    simp at hp
  · simp only [hfalse]
    refine hrel.weak ⟨fun t m hg => ?_, h0⟩
    simp only at hg
    rw [frP_false _ l 0 ms s.fr (fun j _ => rfl)] at hg
    exact hg
end Go.Av
namespace Go.Av
open Go
variable {P : Program} {X : Ctx}
end Go.Av
namespace Go.Av
open Go
variable {P : Program} {X : Ctx}
theorem step_give3 {w w' : World} {E E' : Env} {ob om ext : List Ob} (hle : ob.length ≤ om.length) (hs : Step w E ob w' E' (om ++ ext)) (h0 : ∀ (i : Nat) (o : Ob) (j : Nat) (m : M), om[i]? = some o → o.iter = none → o.cs[j]? = some m → Lt om.length m) :
    Step w E ob w' { E' with st := fun b => E'.st b ∨ ∃ (i : Nat) (o : Ob), ext[i]? = some o ∧ o.nil = false ∧ b = E'.blk (om.length + i) } om := by
  obtain ⟨hh, hx, hb⟩ := hs
  have hinc : ∀ (i : Nat) (q : Ob), om[i]? = some q → (om ++ ext)[i]? = some q := fun i q hq => by
    rw [List.getElem?_append_left (List.getElem?_eq_some_iff.1 hq).1]; exact hq
  have hnew : ∀ (i : Nat) (q : Ob), ext[i]? = some q → (om ++ ext)[om.length + i]? = some q := fun i q hq => by
    rw [List.getElem?_append_right (by omega)]; simpa using hq
  have hne : ∀ (i k : Nat) (q o : Ob), om[i]? = some q → q.nil = false → ext[k]? = some o → o.nil = false → E'.blk i ≠ E'.blk (om.length + k) := fun i k q o hq hqn ho hon he => by
    have h1 := hh.inj i (om.length + k) q o (hinc i q hq) (hnew k o ho) hqn hon he
    have h2 := (List.getElem?_eq_some_iff.1 hq).1
    omega
  have hext : Ext w' E' (om ++ ext) w' { E' with st := fun b => E'.st b ∨ ∃ (i : Nat) (o : Ob), ext[i]? = some o ∧ o.nil = false ∧ b = E'.blk (om.length + i) } (om ++ ext) :=
    ⟨fun b hb => ⟨.inl hb, rfl⟩, fun i q hq => ⟨q, hq, Nat.le_refl _, rfl, fun _ => rfl, fun _ => ⟨rfl, rfl, rfl, rfl⟩⟩⟩
  refine ⟨⟨fun i q hq => ?_, fun i j oi oj hi hj ni nj he => hh.inj i j oi oj (hinc i oi hi) (hinc j oj hj) ni nj he, fun b hb => ?_, fun i q hq hn => ?_⟩, ⟨fun b hb => ⟨.inl (hx.st b hb).1, (hx.st b hb).2⟩, fun i q hq => ?_⟩, ⟨hb.os, hb.tape, hb.output, hb.size, hb.block, fun b h => .inl (hb.st b h), fun b h => ?_, fun i q hq hn => hb.own i q (hinc i q hq) hn⟩⟩
  · have h1 := hh.obj i q (hinc i q hq)
    unfold ObOK at h1 ⊢
    split
    · rename_i q0 hit
      rw [hit] at h1
      exact ⟨(h1.1.keep hext rfl rfl).less (List.getElem?_eq_some_iff.1 hq).1, h1.2⟩
    · rename_i hit
      rw [hit] at h1
      refine ⟨h1.1, fun hn => ?_⟩
      obtain ⟨arr, lo, hi, e1, e2, e3, e4⟩ := h1.2 hn
      refine ⟨arr, lo, hi, e1, e2, e3, fun j m hm => ?_⟩
      obtain ⟨y, hy, q1, q2⟩ := e4 j m hm
      exact ⟨y, hy, q1, rep_lower (q2.keep hext) (h0 i q j m hq hit hm)⟩
  · rcases hb with hb | ⟨i, o, ho, hn, rfl⟩
    · exact hh.stb b hb
    · exact (hh.own _ o (hnew i o ho) hn).2
  · obtain ⟨a, b⟩ := hh.own i q (hinc i q hq) hn
    refine ⟨fun hs => ?_, b⟩
    rcases hs with hs | ⟨k, o, ho, hon, he⟩
    · exact a hs
    · exact hne i k q o hq hn ho hon he
  · obtain ⟨q', hq', r⟩ := hx.ob i q hq
    have hlt := (List.getElem?_eq_some_iff.1 hq).1
    have : om[i]? = some q' := by rw [← hq', List.getElem?_append_left (by omega)]
    exact ⟨q', this, r⟩
  · rcases h with h | ⟨i, o, ho, hn, rfl⟩
    · exact hb.st_of b h
    · rcases hb.own _ o (hnew i o ho) hn with h | hge
      · exact .inr (.inl h)
      · exact .inr (.inr hge)

theorem Den.forget {f : FuncId} {args : List M} {ob ob2 : List Ob} {m : M} (hle : ob.length ≤ ob2.length) (hm : ltB ob2.length m = true) (hom : ob2.all (fun q => q.cs.all (ltB ob2.length)) = true) (h : Den P f args ob fun r ob' => r = m ∧ ∃ e, ob' = ob2 ++ e) : Den P f args ob fun r ob' => r = m ∧ ob' = ob2 := by
  intro w E vals h1 h2 h3
  refine (h w E vals h1 h2 h3).mono ?_
  rintro v w' ⟨r, ob', E', ⟨rfl, e, rfl⟩, hr, hs⟩
  have hst := step_give3 hle hs fun i q j m hi hit hj => lt_of_ltB (List.all_eq_true.1 (List.all_eq_true.1 hom q (List.mem_of_getElem? hi)) m (List.mem_of_getElem? hj))
  refine ⟨_, _, _, ⟨rfl, rfl⟩, rep_lower (ext := e) (hr.keep ?_) (lt_of_ltB hm), hst⟩
  exact ⟨fun b hb => ⟨.inl hb, rfl⟩, fun i q hq => ⟨q, hq, Nat.le_refl _, rfl, fun _ => rfl, fun _ => ⟨rfl, rfl, rfl, rfl⟩⟩⟩
end Go.Av
namespace Go.Av
open Go
variable {P : Program} {X : Ctx}
end Go.Av

/- An argument that reads as a struct is opened field by field. -/
set_option linter.unusedVariables false
namespace Go.Av
open Go
variable {P : Program}
def Seg (P : Program) (t : TypeId) (off k : Nat) {A : Type} (enc : A → List C) (Hyp : A → Prop) : Prop :=
  ∀ (H : Type) (e0 : TypeId × Value → H) (W : World) (fuel : Nat) (cs : List Value) (x : DataW H × List MemPlace), DataW.trod e0 P W 0 (fun _ => true) true fuel t cs = some x → ∃ a, Hyp a ∧ Reads W (enc a) ((cs.drop off).take k)
theorem seg_field {t q : TypeId} {fs : Array Field} (i off k : Nat) (ht : P.underlying t = some (.struct fs)) (hf : (fs[i]?).map (fun f => (f.offset, f.type)) = some (off, q)) (hk : P.cellsOf q = k) {A : Type} {enc : A → List C} {Hyp : A → Prop} (h : Opens P q enc Hyp) : Seg P t off k enc Hyp := fun H e0 W fuel cs x hx => by
  obtain ⟨xs, m, _, _, hlen, hxl, hel⟩ := DataW.trod_struct ht hx
  rw [Option.map_eq_some_iff] at hf
  obtain ⟨f, hf, he⟩ := hf
  simp only [Prod.mk.injEq] at he
  obtain ⟨rfl, rfl⟩ := he
  have hlt := (Array.getElem?_eq_some_iff.1 hf).1
  have h1 := hel i f hf
  rw [List.getElem?_eq_getElem (by omega)] at h1
  rw [← hk]
  exact h H e0 W _ _ _ h1
theorem reads_join {W : World} {es1 es2 : List C} {cs : List Value} (k : Nat) (h1 : Reads W es1 (cs.take k)) (h2 : Reads W es2 (cs.drop k)) (hk : es1.length = k) : Reads W (es1 ++ es2) cs := by
  have hl : k ≤ cs.length := by
    have := h1.1
    rw [hk, List.length_take] at this
    omega
  refine ⟨?_, fun j c y hc hy => ?_⟩
  · have := h2.1
    rw [List.length_drop] at this
    rw [List.length_append]
    omega
  · by_cases hj : j < k
    · rw [List.getElem?_append_left (by omega)] at hc
      exact h1.2 j c y hc (by rw [List.getElem?_take_of_lt hj]; exact hy)
    · rw [List.getElem?_append_right (by omega), hk] at hc
      exact h2.2 (j - k) c y hc (by rw [List.getElem?_drop, show k + (j - k) = j by omega]; exact hy)
theorem Seg.app {t : TypeId} {off k1 k2 : Nat} {A B : Type} {enc1 : A → List C} {enc2 : B → List C} {H1 : A → Prop} {H2 : B → Prop} (h1 : Seg P t off k1 enc1 H1) (h2 : Seg P t (off + k1) k2 enc2 H2) (hl : ∀ a, (enc1 a).length = k1) :
    Seg P t off (k1 + k2) (fun p : A × B => enc1 p.1 ++ enc2 p.2) (fun p => H1 p.1 ∧ H2 p.2) := fun H e0 W fuel cs x hx => by
  obtain ⟨a, ha, ra⟩ := h1 H e0 W fuel cs x hx
  obtain ⟨b, hb, rb⟩ := h2 H e0 W fuel cs x hx
  refine ⟨(a, b), ⟨ha, hb⟩, reads_join k1 ?_ ?_ (hl a)⟩
  · rw [List.take_take, Nat.min_eq_left (by omega)]; exact ra
  · rw [List.drop_take, List.drop_drop, show k1 + k2 - k1 = k2 by omega]
    exact rb
theorem Seg.opens {t : TypeId} {fs : Array Field} {n : Nat} {A : Type} {enc : A → List C} {Hyp : A → Prop} (h : Seg P t 0 n enc Hyp) (ht : P.underlying t = some (.struct fs)) (hn : P.cellsOf t = n) : Opens P t enc Hyp := fun H e0 W fuel cs x hx => by
  obtain ⟨xs, m, _, _, hlen, _, _⟩ := DataW.trod_struct ht hx
  obtain ⟨a, ha, ra⟩ := h H e0 W fuel cs x hx
  refine ⟨a, ha, ?_⟩
  rw [List.drop_zero, List.take_of_length_le (by omega)] at ra
  exact ra
end Go.Av
