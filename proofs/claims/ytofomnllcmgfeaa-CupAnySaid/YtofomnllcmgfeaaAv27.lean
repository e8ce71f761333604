/- Contracts that speak of no object hold beside any; functions carried out on closed data, by computation. -/
import Derived.Test.YtofomnllcmgfeaaAv23
set_option linter.unusedVariables false
set_option linter.unusedSimpArgs false
namespace Go.Av
open Go
variable {P : Program} {X : Ctx}

/-- What is closed is handed in, and comes back: whatever objects there are, they stay as they are. -/
theorem Den.frame {f : FuncId} {args : List M} {m : M} (ha : ltBs 0 args = true) (hm : ltB 0 m = true) (h : Den P f args [] fun r _ => r = m) : DenV P f args m := by
  intro ob w E vals h1 h2 h3
  have h0 : HeapOK w E [] := ⟨fun i o hi => by simp at hi, fun i j a b hi => by simp at hi, h3.stb, fun i o hi => by simp at hi⟩
  refine (h w E vals h1 (fun j m hj => rep_lower (ob := []) (ext := ob) (h2 j m hj) (lt_of_ltBs ha j m hj)) h0).mono ?_
  rintro v w' ⟨r, ob', E', rfl, hr, hs⟩
  have hno : ∀ b, ¬ owns E [] b := fun b ⟨i, o, hi, _⟩ => by simp at hi
  have hblk : ∀ b, b < w.heap.size → w'.heap[b]? = w.heap[b]? := fun b hb => hs.base.block b hb (hno b)
  have hstof : ∀ b, E'.st b → E.st b ∨ w.heap.size ≤ b := fun b hb => by
    rcases hs.base.st_of b hb with h | h | h
    · exact .inl h
    · exact absurd h (hno b)
    · exact .inr h
  have hext : Ext w E ob w' { E' with blk := E.blk, asz := E.asz } ob := ⟨fun b hb => hs.ext.st b hb, fun i o hi => ⟨o, hi, Nat.le_refl _, rfl, fun _ => rfl, fun _ => ⟨rfl, rfl, rfl, rfl⟩⟩⟩
  refine ⟨r, ob, { E' with blk := E.blk, asz := E.asz }, ⟨rfl, rfl⟩, ?_, ⟨⟨fun i o hi => ?_, fun i j a b hi hj => h3.inj i j a b hi hj, fun b hb => hs.heap.stb b hb, fun i o hi hn => ?_⟩, hext, ⟨hs.base.os, hs.base.tape, hs.base.output, hs.base.size, fun b hb _ => hblk b hb, hs.base.st, fun b hb => ?_, fun i o hi hn => .inl ⟨i, o, hi, hn, rfl⟩⟩⟩⟩
  · have hr0 : RepM w' E' [] r v := rep_lower (ob := []) (ext := ob') hr (lt_of_ltB hm)
    exact hr0.keep (E := E') (E' := { E' with blk := E.blk, asz := E.asz }) (ob' := ob) ⟨fun b hb => ⟨hb, rfl⟩, fun i o (hi : ([] : List Ob)[i]? = some o) => by simp at hi⟩
  · exact (h3.obj i o hi).keep hext rfl rfl (fun hn => hblk _ (h3.own i o hi hn).2)
  · have := h3.own i o hi hn
    refine ⟨fun hst => ?_, by have := hs.base.size; simp only; omega⟩
    rcases hstof _ hst with h | h
    · exact this.1 h
    · simp only at h; omega
  · rcases hstof b hb with h | h
    · exact .inl h
    · exact .inr (.inr h)

/-! ### carried out -/
inductive Ex where
  | n
  | x (id : Nat)
  | r
def Ex.to : Ex → Exit
  | .n => .normal
  | .x id => .exit id
  | .r => .ret
def putD (fr : List (Nat × M)) (d : Option Nat) (m : M) : List (Nat × M) :=
  match d with
  | some t => (t, m) :: fr.filter fun p => !(p.1 == t)
  | none => fr
def runOps (P : Program) (N : Nat) (call : FuncId → List M → List Ob → Option (M × List Ob)) (ops : Array Oper) : List Oper → St → Option St
  | [], s => some s
  | o :: rest, s =>
    if dstOK N o then
      match guardV ops s.fr o with
      | none => none
      | some false => runOps P N call ops rest ⟨putD s.fr o.dst (.tup []), s.ob⟩
      | some true => match callOf P s.ob s.fr o.op with
        | some (f, args) => match call f args s.ob with
          | some (m, ob') => runOps P N call ops rest ⟨putD s.fr o.dst m, ob'⟩
          | none => none
        | none => match evOp P s.fr s.ob o.op o.type with
          | some (m, ob') => runOps P N call ops rest ⟨putD s.fr o.dst m, ob'⟩
          | none => none
    else none
def pureOp : Op → Bool
  | .move _ | .assign _ | .pick _ _ _ | .load _ _ | .nilCheck _ | .binOp _ _ _ _ _ | .unOp _ _ _ | .fieldAddr _ _ _ | .field _ _ _ | .indexAddr _ _ _ | .index _ _ _ | .extract _ _ | .build _ _ | .buildSlice _ _ _ | .slice _ _ _ _ _ | .makeInterface _ _ | .typeAssert _ _ _ _ => true
  | .call c => match c.callee with
    | .builtin .len | .builtin .min | .builtin .max | .builtin .cap => true
    | _ => false
  | _ => false
def runDraw (P : Program) (N : Nat) (call : FuncId → List M → List Ob → Option (M × List Ob)) (ops : Array Oper) (cuts : List Nat) : Nat → List Oper → List (Nat × M) → List Ob → Option (List (Nat × M) × List Ob)
  | _, [], fr, ob => some (fr, ob)
  | k, o :: rest, fr, ob =>
    if dstOK N o then
      match guardV ops fr o with
      | none => none
      | some false => runDraw P N call ops cuts (k + 1) rest (putD fr o.dst (.tup [])) ob
      | some true => match callOf P ob fr o.op with
        | some (f, args) => if mayB cuts k then (match call f args ob with
            | some (m, ob') => runDraw P N call ops cuts (k + 1) rest (putD fr o.dst m) ob'
            | none => none) else if ltBs 0 args then (match call f args [] with
            | some (m, _) => if ltB 0 m then runDraw P N call ops cuts (k + 1) rest (putD fr o.dst m) ob else none
            | none => none) else none
        | none => match evOp P fr ob o.op o.type with
          | some (m, ob') => if mayB cuts k then runDraw P N call ops cuts (k + 1) rest (putD fr o.dst m) ob' else if pureOp o.op then runDraw P N call ops cuts (k + 1) rest (putD fr o.dst m) ob else none
          | none => none
    else none
mutual
def runC (P : Program) (N : Nat) : Nat → Code → St → Option (Ex × St)
  | 0, _, _ => none
  | n + 1, c, s => match c with
    | .seq x y => match runC P N n x s with
      | some (.n, s') => runC P N n y s'
      | r => r
    | .cond c x y => match asB (opM s.fr c) with
      | some true => runC P N n x s
      | some false => runC P N n y s
      | none => none
    | .block id c => match runC P N n c s with
      | some (.x id', s') => if id' = id then some (.n, s') else some (.x id', s')
      | r => r
    | .skip => some (.n, s)
    | .label _ => some (.n, s)
    | .exit id => some (.x id, s)
    | .ret => some (.r, s)
    | .scope c => runC P N n c s
    | .loop c => match runC P N n c s with
      | some (.n, s') => runC P N n (.loop c) s'
      | r => r
    | .region _ ⟨l⟩ false => match runOps P N (runF P n) l.toArray l s with
      | some s' => some (.n, s')
      | none => none
    | .region _ ⟨l⟩ true => if P.follows .mixedOrders then (if drawOK l (cutsFrom 0 l) then (match runDraw P N (runF P n) l.toArray (cutsFrom 0 l) 0 l s.fr s.ob with
      | some (fr, ob) => some (.n, ⟨fr, ob⟩)
      | none => none) else none) else none
    | _ => none
def runF (P : Program) : Nat → FuncId → List M → List Ob → Option (M × List Ob)
  | 0, _, _, _ => none
  | n + 1, f, args, ob => match P.funcs[f]? with
    | some fn => if fn.name == "runtime.NumGoroutine" then none else match fn.body with
      | some c => if args.length ≤ fn.ntmps then (match runC P fn.ntmps n c ⟨slots 0 args, ob⟩ with
        | some (.n, s) => (resOf P s.ob s.fr fn.results.toList).map fun m => (m, s.ob)
        | some (.r, s) => (resOf P s.ob s.fr fn.results.toList).map fun m => (m, s.ob)
        | _ => none) else none
      | none => none
    | none => none
end

/-- Frames that tell the same. -/
def SameF (a b : List (Nat × M)) : Prop := ∀ t, get a t = get b t
theorem get_filter (fr : List (Nat × M)) (t u : Nat) (h : t ≠ u) : get (fr.filter fun p => !(p.1 == t)) u = get fr u := by
  induction fr with
  | nil => rfl
  | cons p fr ih =>
    obtain ⟨k, m⟩ := p
    by_cases e : k = t
    · subst e
      simp only [List.filter_cons, beq_self_eq_true, Bool.not_true, Bool.false_eq_true, if_false, get, if_neg h]
      exact ih
    · simp only [List.filter_cons, beq_iff_eq, e, Bool.not_eq_true', decide_eq_false_iff_not, not_false_eq_true, beq_eq_false_iff_ne, ne_eq, if_true, get, ih]
theorem get_putD (fr : List (Nat × M)) (d : Option Nat) (m : M) (u : Nat) : get (putD fr d m) u = get (putO fr d m) u := by
  cases d with
  | none => rfl
  | some t =>
    simp only [putD, putO, get_put, get]
    split
    · rfl
    · rename_i h; exact get_filter fr t u h
theorem putO_same {a b : List (Nat × M)} (h : SameF a b) (d : Option Nat) (m : M) : SameF (putO a d m) (putO b d m) := fun t => by
  cases d with
  | none => exact h t
  | some u => simp only [putO, get_put, h t]
theorem sameF_D {a b : List (Nat × M)} (h : SameF a b) (d : Option Nat) (m : M) : SameF (putO a d m) (putD b d m) := fun t => by
  rw [get_putD]; exact putO_same h d m t
theorem SameF.symm {a b : List (Nat × M)} (h : SameF a b) : SameF b a := fun t => (h t).symm
theorem Awp.same {c : Code} {Q : Exit → St → Prop} {fr fr' : List (Nat × M)} {ob : List Ob} (h : Awp P X c Q ⟨fr', ob⟩) (hs : SameF fr fr') : Awp P X c Q ⟨fr, ob⟩ := h.weak ⟨fun t m hg => by simp only at hg ⊢; rw [hs t]; exact hg, rfl⟩

abbrev CallOK (P : Program) (call : FuncId → List M → List Ob → Option (M × List Ob)) : Prop := ∀ f args ob m ob', call f args ob = some (m, ob') → Den P f args ob fun r ob2 => r = m ∧ ob2 = ob'

theorem runOps_sound {N : Nat} {call : FuncId → List M → List Ob → Option (M × List Ob)} (hc : CallOK P call) {ops : Array Oper} {K : St → Prop} : ∀ (l : List Oper) (fr fr0 : List (Nat × M)) (ob : List Ob) (s' : St), SameF fr fr0 → runOps P N call ops l ⟨fr0, ob⟩ = some s' → (∀ fr', SameF fr' s'.fr → K ⟨fr', s'.ob⟩) → awpOps P N ops K l ⟨fr, ob⟩
  | [], fr, fr0, ob, s', hs, h, hK => by
    simp only [runOps, Option.some.injEq] at h
    subst h
    exact hK fr hs
  | o :: rest, fr, fr0, ob, s', hs, h, hK => by
    simp only [runOps] at h
    unfold awpOps
    have eg : guardV ops fr o = guardV ops fr0 o := guardV_congr fun t _ => hs t
    have ec : callOf P ob fr o.op = callOf P ob fr0 o.op := callOf_congr fun t _ => hs t
    have ee : evOp P fr ob o.op o.type = evOp P fr0 ob o.op o.type := evOp_congr fun t _ => hs t
    split at h
    · rename_i hd
      rw [if_pos hd]
      simp only [eg, ec, ee]
      split at h
      · simp at h
      · rename_i hg
        rw [hg]
        exact runOps_sound hc rest _ _ _ s' (sameF_D hs _ _) h hK
      · rename_i hg
        rw [hg]
        simp only [if_true]
        split at h
        · rename_i f args hcall
          rw [hcall]
          simp only
          split at h
          · rename_i m ob' hr
            refine (hc _ _ _ _ _ hr).mono ?_
            rintro r ob2 ⟨rfl, rfl⟩
            exact runOps_sound hc rest _ _ _ s' (sameF_D hs _ _) h hK
          · simp at h
        · rename_i hcall
          rw [hcall]
          simp only
          split at h
          · rename_i m ob' hr
            rw [hr]
            exact runOps_sound hc rest _ _ _ s' (sameF_D hs _ _) h hK
          · simp at h
    · simp at h
theorem evOp_pure {fr : List (Nat × M)} {ob ob' : List Ob} {o : Op} {ty : TypeId} {m : M} (hp : pureOp o = true) (h : evOp P fr ob o ty = some (m, ob')) : ob' = ob := by
  have w : ∀ {x : Option M}, with_ ob x = some (m, ob') → ob' = ob := fun h => (with_some h).2
  cases o with
  | call c =>
    obtain ⟨callee, args, ts⟩ := c
    cases callee with
    | builtin b =>
      simp only [evOp] at h
      unfold evBuiltin at h
      split at h
      · split at h
        · split at h
          · simp only [Option.some.injEq, Prod.mk.injEq] at h; exact h.2.symm
          · simp at h
        · simp at h
      all_goals first
        | (simp [pureOp] at hp; done)
        | (split at h <;> first | exact w h | (simp at h; done))
        | (simp at h; done)
    | _ => simp [pureOp] at hp
  | pick c a b =>
    simp only [evOp] at h
    split at h
    · split at h <;> exact w h
    · simp at h
  | _ => first
    | (simp [pureOp] at hp; done)
    | (simp only [evOp] at h; exact w h)
    | (simp only [evOp] at h; split at h <;> first | exact w h | (simp at h; done))
    | (simp only [evOp] at h; split at h <;> first | (split at h <;> first | exact w h | (split at h <;> first | exact w h | (simp at h; done)) | (simp at h; done)) | (simp at h; done))
theorem runDraw_sound {N : Nat} {call : FuncId → List M → List Ob → Option (M × List Ob)} (hc : CallOK P call) {ops : Array Oper} {cuts : List Nat} {K : List (Nat × M) → List Ob → Prop} : ∀ (l : List Oper) (k : Nat) (fr fr0 : List (Nat × M)) (ob : List Ob) (frr : List (Nat × M)) (obr : List Ob), SameF fr fr0 → runDraw P N call ops cuts k l fr0 ob = some (frr, obr) → (∀ fr', SameF fr' frr → K fr' obr) → DrawK P N ops cuts K k l fr ob
  | [], k, fr, fr0, ob, frr, obr, hs, h, hK => by
    simp only [runDraw, Option.some.injEq, Prod.mk.injEq] at h
    obtain ⟨rfl, rfl⟩ := h
    exact hK fr hs
  | o :: rest, k, fr, fr0, ob, frr, obr, hs, h, hK => by
    simp only [runDraw] at h
    rw [DrawK_cons]
    have eg : guardV ops fr o = guardV ops fr0 o := guardV_congr fun t _ => hs t
    have ec : callOf P ob fr o.op = callOf P ob fr0 o.op := callOf_congr fun t _ => hs t
    have ee : evOp P fr ob o.op o.type = evOp P fr0 ob o.op o.type := evOp_congr fun t _ => hs t
    split at h
    · rename_i hd
      refine ⟨hd, ?_⟩
      rw [eg]
      split at h
      · simp at h
      · rename_i hg
        rw [hg, DGuard_false]
        exact runDraw_sound hc rest _ _ _ _ frr obr (sameF_D hs _ _) h hK
      · rename_i hg
        rw [hg, DGuard_true, ec]
        split at h
        · rename_i f args hcall
          rw [hcall, DCall_some]
          split at h
          · rename_i hmay
            split at h
            · rename_i m ob' hr
              exact ⟨m, ob', hc _ _ _ _ _ hr, fun hf => by rw [hmay] at hf; simp at hf, runDraw_sound hc rest _ _ _ _ frr obr (sameF_D hs _ _) h hK⟩
            · simp at h
          · split at h
            · rename_i ha
              split at h
              · rename_i m ob' hr
                split at h
                · rename_i hm
                  exact ⟨m, ob, Den.frame ha hm ((hc _ _ _ _ _ hr).mono fun r ob2 h => h.1) ob, fun _ => rfl, runDraw_sound hc rest _ _ _ _ frr obr (sameF_D hs _ _) h hK⟩
                · simp at h
              · simp at h
            · simp at h
        · rename_i hcall
          rw [hcall, DCall_none, ee]
          split at h
          · rename_i m ob' hr
            rw [hr, DEv_some2]
            split at h
            · rename_i hmay
              exact ⟨fun hf => by rw [hmay] at hf; simp at hf, runDraw_sound hc rest _ _ _ _ frr obr (sameF_D hs _ _) h hK⟩
            · split at h
              · rename_i hp
                have e := evOp_pure hp hr
                subst e
                exact ⟨fun _ => rfl, runDraw_sound hc rest _ _ _ _ frr obr (sameF_D hs _ _) h hK⟩
              · simp at h
          · simp at h
    · simp at h

theorem awp_region0 {id : Nat} {l : List Oper} {Q : Exit → St → Prop} {s : St} {N : Nat} (hN : X.N = N) (h : awpOps P N l.toArray (Q .normal) l s) : Awp P X (.region id l.toArray false) Q s := by
  subst hN; exact awp_region h
theorem draw_region0 {id : Nat} {l : List Oper} {Q : Exit → St → Prop} {s : St} {N : Nat} (hN : X.N = N) (hm : P.follows .mixedOrders = true) (hord : drawOK l (cutsFrom 0 l) = true)
    (h : DrawK P N l.toArray (cutsFrom 0 l) (fun fr ob => Q .normal ⟨fr, ob⟩) 0 l s.fr s.ob) : Awp P X (.region id l.toArray true) Q s := by
  have hall : ∀ fr : List (Nat × M), ∃ ts, ∀ t m, get fr t = some m → get (keep fr ts) t = some m := fun fr => ⟨fr.map (·.1), fun t m hg => by
    rw [get_keep, if_pos]
    · exact hg
    · have := get_mem hg
      exact List.mem_map.2 ⟨(t, m), this, rfl⟩⟩
  unfold drawOK at hord
  simp only [Bool.and_eq_true, decide_eq_true_eq] at hord
  obtain ⟨ho, hcu, hnd⟩ := hord
  obtain ⟨ms, f, h0, h1, h2⟩ := drawK_text hnd l 0 s.fr s.ob h
  have hz : nc (cutsFrom 0 l) 0 = 0 := by unfold nc; simp
  rw [hz] at h0
  rw [Nat.zero_add] at h2
  obtain ⟨ts, hts⟩ := hall (frP (fun _ => true) 0 l ms s.fr)
  intro a w hr
  refine wp_mono (awp_draw (Q := fun e s' => e = .normal ∧ s' = ⟨keep (frP (fun _ => true) 0 l ms s.fr) ts, f (nc (cutsFrom 0 l) l.length)⟩) N hN ts _ hm ho hcu ms f h0 h1 ⟨rfl, rfl⟩ a w hr) ?_
  rintro e a' w' ⟨s', ⟨rfl, rfl⟩, r⟩
  exact ⟨_, h2, r.weak ⟨hts, rfl⟩⟩

theorem resM_same {fr fr' : List (Nat × M)} {ob : List Ob} (h : SameF fr fr') : ∀ rs : List ResultVar, resM P ob fr rs = resM P ob fr' rs
  | [] => rfl
  | .tmp t :: r => by simp only [resM, h t, resM_same h r]
  | .cell q t :: r => by simp only [resM, h q, resM_same h r]
theorem resOf_same {fr fr' : List (Nat × M)} {ob : List Ob} (h : SameF fr fr') {rs : List ResultVar} : resOf P ob fr rs = resOf P ob fr' rs := by
  unfold resOf; rw [resM_same h]

theorem run_sound (n : Nat) : (∀ (N : Nat) (X : Ctx) (c : Code) (fr fr0 : List (Nat × M)) (ob : List Ob) (e : Ex) (s' : St), X.N = N → SameF fr fr0 → runC P N n c ⟨fr0, ob⟩ = some (e, s') → ∀ Q : Exit → St → Prop, (∀ fr', SameF fr' s'.fr → Q e.to ⟨fr', s'.ob⟩) → Awp P X c Q ⟨fr, ob⟩) ∧ CallOK P (runF P n) := by
  induction n using Nat.strongRecOn with
  | _ n ih0 =>
  cases n with
  | zero => exact ⟨fun N X c fr fr0 ob e s' _ _ h => by simp [runC] at h, fun f args ob m ob' h => by simp [runF] at h⟩
  | succ n =>
    obtain ⟨ihC, ihF⟩ := ih0 n (by omega)
    refine ⟨fun N X c fr fr0 ob e s' hN hs h Q hQ => ?_, fun f args ob m ob' h => ?_⟩
    · have h00 := h
      unfold runC at h
      cases c with
      | seq x y =>
        simp only at h
        refine awp_seq ?_
        split at h
        · rename_i s1 hr
          refine ihC N X x fr fr0 ob .n s1 hN hs hr _ fun fr' hf => ?_
          exact ihC N X y fr' s1.fr s1.ob e s' hN hf h Q hQ
        · rename_i hne
          cases e with
          | n => exact absurd h (hne _)
          | x id => exact ihC N X x fr fr0 ob (.x id) s' hN hs h _ hQ
          | r => exact ihC N X x fr fr0 ob .r s' hN hs h _ hQ
      | cond c x y =>
        simp only at h
        have ec : opM fr c = opM fr0 c := opM_congr fun t _ => hs t
        split at h
        · rename_i hb
          exact awp_cond (b := true) (by simp only; rw [ec]; exact hb) (by simpa using ihC N X x fr fr0 ob e s' hN hs h Q hQ)
        · rename_i hb
          exact awp_cond (b := false) (by simp only; rw [ec]; exact hb) (by simpa using ihC N X y fr fr0 ob e s' hN hs h Q hQ)
        · simp at h
      | block id c =>
        simp only at h
        refine awp_block ?_
        split at h
        · rename_i id' s1 hr
          refine ihC N X c fr fr0 ob (.x id') s1 hN hs hr _ fun fr' hf => ?_
          simp only [Ex.to, inBlockA]
          split at h
          · rename_i hid
            simp only [Option.some.injEq, Prod.mk.injEq] at h
            obtain ⟨rfl, rfl⟩ := h
            rw [if_pos hid]
            exact hQ fr' hf
          · rename_i hid
            simp only [Option.some.injEq, Prod.mk.injEq] at h
            obtain ⟨rfl, rfl⟩ := h
            rw [if_neg hid]
            exact hQ fr' hf
        · rename_i hne
          cases e with
          | n => exact ihC N X c fr fr0 ob .n s' hN hs h _ hQ
          | x id' => exact absurd h (hne _ _)
          | r => exact ihC N X c fr fr0 ob .r s' hN hs h _ hQ
      | skip =>
        simp only [Option.some.injEq, Prod.mk.injEq] at h
        obtain ⟨rfl, rfl⟩ := h
        exact awp_skip (hQ fr hs)
      | label l =>
        simp only [Option.some.injEq, Prod.mk.injEq] at h
        obtain ⟨rfl, rfl⟩ := h
        exact awp_label (hQ fr hs)
      | exit id =>
        simp only [Option.some.injEq, Prod.mk.injEq] at h
        obtain ⟨rfl, rfl⟩ := h
        exact awp_exit (hQ fr hs)
      | ret =>
        simp only [Option.some.injEq, Prod.mk.injEq] at h
        obtain ⟨rfl, rfl⟩ := h
        exact awp_ret (hQ fr hs)
      | scope c =>
        simp only at h
        refine awp_scope (ihC N X c fr fr0 ob e s' hN hs h _ fun fr' hf => ?_)
        cases e <;> exact hQ fr' hf
      | loop c =>
        refine awp_loop (fun m s1 => m ≤ n + 1 ∧ ∃ fr1, SameF s1.fr fr1 ∧ runC P N m (.loop c) ⟨fr1, s1.ob⟩ = some (e, s')) (n + 1) ⟨Nat.le_refl _, fr0, hs, h00⟩ ?_
        rintro m ⟨fr2, ob2⟩ ⟨hm, fr1, hs1, hr1⟩
        simp only at hs1 hr1
        cases m with
        | zero => simp [runC] at hr1
        | succ m =>
          obtain ⟨ihC', _⟩ := ih0 m (by omega)
          unfold runC at hr1
          simp only at hr1
          split at hr1
          · rename_i s2 hr2
            refine ihC' N X c fr2 fr1 ob2 .n s2 hN hs1 hr2 _ fun fr' hf => ?_
            exact ⟨m, by omega, by omega, s2.fr, hf, hr1⟩
          · rename_i hne
            cases e with
            | n => exact absurd hr1 (hne _)
            | x id => exact ihC' N X c fr2 fr1 ob2 (.x id) s' hN hs1 hr1 _ hQ
            | r => exact ihC' N X c fr2 fr1 ob2 .r s' hN hs1 hr1 _ hQ
      | region id ops b =>
        obtain ⟨l⟩ := ops
        cases b with
        | false =>
          simp only at h
          split at h
          · rename_i s1 hr
            simp only [Option.some.injEq, Prod.mk.injEq] at h
            obtain ⟨rfl, rfl⟩ := h
            exact awp_region0 hN (runOps_sound ihF l fr fr0 ob s1 hs hr hQ)
          · simp at h
        | true =>
          simp only at h
          split at h
          · rename_i hm
            split at h
            · rename_i hd
              split at h
              · rename_i fr1 ob1 hr
                simp only [Option.some.injEq, Prod.mk.injEq] at h
                obtain ⟨rfl, rfl⟩ := h
                exact draw_region0 hN hm hd (runDraw_sound ihF l 0 fr fr0 ob fr1 ob1 hs hr hQ)
              · simp at h
            · simp at h
          · simp at h
      | _ => simp at h
    · unfold runF at h
      split at h
      · rename_i fn hfn
        split at h
        · simp at h
        · rename_i hname
          split at h
          · rename_i c hb
            split at h
            · rename_i hlen
              refine den_of hfn hb (by simpa using hname) hlen fun X hX hO => ?_
              split at h
              · rename_i s hr
                obtain ⟨m', hm, hp⟩ := Option.map_eq_some_iff.1 h
                simp only [Prod.mk.injEq] at hp
                obtain ⟨rfl, rfl⟩ := hp
                refine ihC fn.ntmps X c _ _ ob .n s hX (fun _ => rfl) hr _ fun fr' hf => ?_
                simp only [Ex.to, postOf]
                rw [resOf_same hf, hm]
                simp
              · rename_i s hr
                obtain ⟨m', hm, hp⟩ := Option.map_eq_some_iff.1 h
                simp only [Prod.mk.injEq] at hp
                obtain ⟨rfl, rfl⟩ := hp
                refine ihC fn.ntmps X c _ _ ob .r s hX (fun _ => rfl) hr _ fun fr' hf => ?_
                simp only [Ex.to, postOf]
                rw [resOf_same hf, hm]
                simp
              · simp at h
            · simp at h
          · simp at h
      · simp at h
/-- A function of no arguments, or of closed ones, carried out. -/
theorem den_run {f : FuncId} {args : List M} {m : M} (n : Nat) (ha : ltBs 0 args = true) (hm : ltB 0 m = true) (h : (runF P n f args []).map (·.1) = some m) : DenV P f args m := by
  obtain ⟨⟨r, ob'⟩, hr, rfl⟩ := Option.map_eq_some_iff.1 h
  exact Den.frame ha hm (((run_sound n).2 f args [] r ob' hr).mono fun x ob2 h => h.1)
end Go.Av
