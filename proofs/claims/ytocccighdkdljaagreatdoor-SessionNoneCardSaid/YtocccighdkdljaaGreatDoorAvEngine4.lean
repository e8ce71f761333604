/- 11 texts of the program logic over abstract values, joined: each is proved without any condition beyond its own words. -/
import Derived.Test.YtocccighdkdljaaGreatDoorAvEngine3
import Derived.ScopeJumps
import Derived.Laws.AppendOwn
import GoSem.Op.String
/- Contracts that speak of no object hold beside any; functions carried out on closed data, by computation. -/
set_option linter.unusedVariables false
set_option linter.unusedSimpArgs false
namespace Go.Av
open Go
variable {P : Program} {X : Ctx}

theorem Den.frame {f : FuncId} {args : List M} {m : M} (ha : ltBs 0 args = true) (hm : ltB 0 m = true) (h : Den P f args [] fun r _ => r = m) : DenV P f args m := by
  intro ob w E vals h1 h2 h3
  have h0 : HeapOK w E [] := ⟨fun i o hi => by simp at hi, fun i j a b hi => by simp at hi, h3.stb, fun i o hi => by simp at hi, h3.gl⟩
  refine (h w E vals h1 (fun j m hj => rep_lower (ob := []) (ext := ob) (h2 j m hj) (lt_of_ltBs ha j m hj)) h0).mono ?_
  rintro v w' ⟨r, ob', E', rfl, hr, hs⟩
  have hno : ∀ b, ¬ owns E [] b := fun b ⟨i, o, hi, _⟩ => by simp at hi
  have hblk : ∀ b, b < w.heap.size → w'.heap[b]? = w.heap[b]? := fun b hb => hs.base.block b hb (hno b)
  have hstof : ∀ b, E'.st b → E.st b ∨ w.heap.size ≤ b := fun b hb => by
    rcases hs.base.st_of b hb with h | h | h
    · exact .inl h
    · exact absurd h (hno b)
    · exact .inr h
  have hext : Ext w E ob w' { E' with blk := E.blk, asz := E.asz } ob := ⟨fun b hb => hs.ext.st b hb, fun i o hi => ⟨o, hi, Nat.le_refl _, rfl, fun _ => rfl, fun _ => ⟨rfl, rfl, rfl, rfl⟩⟩⟩
  refine ⟨r, ob, { E' with blk := E.blk, asz := E.asz }, ⟨rfl, rfl⟩, ?_, ⟨⟨fun i o hi => ?_, fun i j a b hi hj => h3.inj i j a b hi hj, fun b hb => hs.heap.stb b hb, fun i o hi hn => ?_, h3.gl.ext hext.st⟩, hext, ⟨hs.base.os, hs.base.tape, hs.base.output, hs.base.size, fun b hb _ => hblk b hb, hs.base.st, fun b hb => ?_, fun i o hi hn => .inl ⟨i, o, hi, hn, rfl⟩⟩⟩⟩
  · have hr0 : RepM w' E' [] r v := rep_lower (ob := []) (ext := ob') hr (lt_of_ltB hm)
    exact hr0.keep (E := E') (E' := { E' with blk := E.blk, asz := E.asz }) (ob' := ob) ⟨fun b hb => ⟨hb, rfl⟩, fun i o (hi : ([] : List Ob)[i]? = some o) => by simp at hi⟩
  · exact (h3.obj i o hi).keep hext rfl rfl (fun hn => hblk _ (h3.own i o hi hn).2)
  · have := h3.own i o hi hn
    refine ⟨fun hst => ?_, by have := hs.base.size; simp only; omega⟩
    rcases hstof _ hst with h | h
    · exact this.1 h
    · simp only at h; omega
  · rcases hstof b hb with h | h
    · exact .inl h
    · exact .inr (.inr h)

inductive Ex where
  | n
  | x (id : Nat)
  | r
def Ex.to : Ex → Exit
  | .n => .normal
  | .x id => .exit id
  | .r => .ret
def putD (fr : List (Nat × M)) (d : Option Nat) (m : M) : List (Nat × M) :=
  match d with
  | some t => (t, m) :: fr.filter fun p => !(p.1 == t)
  | none => fr
def runOps (P : Program) (N : Nat) (call : FuncId → List M → List Ob → Option (M × List Ob)) (ops : Array Oper) : List Oper → St → Option St
  | [], s => some s
  | o :: rest, s =>
    if dstOK N o then
      match guardV ops s.fr o with
      | none => none
      | some false => runOps P N call ops rest ⟨putD s.fr o.dst (.tup []), s.ob⟩
      | some true => match callOf P s.ob s.fr o.op with
        | some (f, args) => match call f args s.ob with
          | some (m, ob') => runOps P N call ops rest ⟨putD s.fr o.dst m, ob'⟩
          | none => none
        | none => match evOp P s.fr s.ob o.op o.type with
          | some (m, ob') => runOps P N call ops rest ⟨putD s.fr o.dst m, ob'⟩
          | none => none
    else none
def pureOp : Op → Bool
  | .move _ | .assign _ | .pick _ _ _ | .load _ _ | .nilCheck _ | .binOp _ _ _ _ _ | .unOp _ _ _ | .fieldAddr _ _ _ | .field _ _ _ | .indexAddr _ _ _ | .index _ _ _ | .extract _ _ | .build _ _ | .slice _ _ _ _ _ | .makeInterface _ _ | .typeAssert _ _ _ _ => true
  | .call c => match c.callee with
    | .builtin .len | .builtin .min | .builtin .max | .builtin .cap => true
    | _ => false
  | _ => false
def runDraw (P : Program) (N : Nat) (call : FuncId → List M → List Ob → Option (M × List Ob)) (ops : Array Oper) (cuts : List Nat) : Nat → List Oper → List (Nat × M) → List Ob → Option (List (Nat × M) × List Ob)
  | _, [], fr, ob => some (fr, ob)
  | k, o :: rest, fr, ob =>
    if dstOK N o then
      match guardV ops fr o with
      | none => none
      | some false => runDraw P N call ops cuts (k + 1) rest (putD fr o.dst (.tup [])) ob
      | some true => match callOf P ob fr o.op with
        | some (f, args) => if mayB cuts k then (match call f args ob with
            | some (m, ob') => runDraw P N call ops cuts (k + 1) rest (putD fr o.dst m) ob'
            | none => none) else if ltBs 0 args then (match call f args [] with
            | some (m, _) => if ltB 0 m then runDraw P N call ops cuts (k + 1) rest (putD fr o.dst m) ob else none
            | none => none) else none
        | none => match evOp P fr ob o.op o.type with
          | some (m, ob') => if mayB cuts k then runDraw P N call ops cuts (k + 1) rest (putD fr o.dst m) ob' else if pureOp o.op then runDraw P N call ops cuts (k + 1) rest (putD fr o.dst m) ob else none
          | none => none
    else none
mutual
def runC (P : Program) (N : Nat) : Nat → Code → St → Option (Ex × St)
  | 0, _, _ => none
  | n + 1, c, s => match c with
    | .seq x y => match runC P N n x s with
      | some (.n, s') => runC P N n y s'
      | r => r
    | .cond c x y => match asB (opM s.fr c) with
      | some true => runC P N n x s
      | some false => runC P N n y s
      | none => none
    | .block id c => match runC P N n c s with
      | some (.x id', s') => if id' = id then some (.n, s') else some (.x id', s')
      | r => r
    | .skip => some (.n, s)
    | .label _ => some (.n, s)
    | .exit id => some (.x id, s)
    | .ret => some (.r, s)
    | .scope c => runC P N n c s
    | .loop c => match runC P N n c s with
      | some (.n, s') => runC P N n (.loop c) s'
      | r => r
    | .region _ ⟨l⟩ false => match runOps P N (runF P n) l.toArray l s with
      | some s' => some (.n, s')
      | none => none
    | .region _ ⟨l⟩ true => if P.follows .mixedOrders then (if drawOK l (cutsFrom 0 l) then (match runDraw P N (runF P n) l.toArray (cutsFrom 0 l) 0 l s.fr s.ob with
      | some (fr, ob) => some (.n, ⟨fr, ob⟩)
      | none => none) else none) else none
    | _ => none
def runF (P : Program) : Nat → FuncId → List M → List Ob → Option (M × List Ob)
  | 0, _, _, _ => none
  | n + 1, f, args, ob => match P.funcs[f]? with
    | some fn => if fn.name == "runtime.NumGoroutine" then none else match fn.body with
      | some c => if args.length ≤ fn.ntmps then (match runC P fn.ntmps n c ⟨slots 0 args, ob⟩ with
        | some (.n, s) => (resOf P s.ob s.fr fn.results.toList).map fun m => (m, s.ob)
        | some (.r, s) => (resOf P s.ob s.fr fn.results.toList).map fun m => (m, s.ob)
        | _ => none) else none
      | none => none
    | none => none
end

def SameF (a b : List (Nat × M)) : Prop := ∀ t, get a t = get b t
theorem get_filter (fr : List (Nat × M)) (t u : Nat) (h : t ≠ u) : get (fr.filter fun p => !(p.1 == t)) u = get fr u := by
  induction fr with
  | nil => rfl
  | cons p fr ih =>
    obtain ⟨k, m⟩ := p
    by_cases e : k = t
    · subst e
      simp only [List.filter_cons, beq_self_eq_true, Bool.not_true, Bool.false_eq_true, if_false, get, if_neg h]
      exact ih
    · simp only [List.filter_cons, beq_iff_eq, e, Bool.not_eq_true', decide_eq_false_iff_not, not_false_eq_true, beq_eq_false_iff_ne, ne_eq, if_true, get, ih]
theorem get_putD (fr : List (Nat × M)) (d : Option Nat) (m : M) (u : Nat) : get (putD fr d m) u = get (putO fr d m) u := by
  cases d with
  | none => rfl
  | some t =>
    simp only [putD, putO, get_put, get]
    split
    · rfl
    · rename_i h; exact get_filter fr t u h
theorem putO_same {a b : List (Nat × M)} (h : SameF a b) (d : Option Nat) (m : M) : SameF (putO a d m) (putO b d m) := fun t => by
  cases d with
  | none => exact h t
  | some u => simp only [putO, get_put, h t]
theorem sameF_D {a b : List (Nat × M)} (h : SameF a b) (d : Option Nat) (m : M) : SameF (putO a d m) (putD b d m) := fun t => by
  rw [get_putD]; exact putO_same h d m t
theorem SameF.symm {a b : List (Nat × M)} (h : SameF a b) : SameF b a := fun t => (h t).symm
theorem Awp.same {c : Code} {Q : Exit → St → Prop} {fr fr' : List (Nat × M)} {ob : List Ob} (h : Awp P X c Q ⟨fr', ob⟩) (hs : SameF fr fr') : Awp P X c Q ⟨fr, ob⟩ := h.weak ⟨fun t m hg => by simp only at hg ⊢; rw [hs t]; exact hg, rfl⟩

abbrev CallOK (P : Program) (call : FuncId → List M → List Ob → Option (M × List Ob)) : Prop := ∀ f args ob m ob', call f args ob = some (m, ob') → Den P f args ob fun r ob2 => r = m ∧ ob2 = ob'

theorem runOps_sound {N : Nat} {call : FuncId → List M → List Ob → Option (M × List Ob)} (hc : CallOK P call) {ops : Array Oper} {K : St → Prop} : ∀ (l : List Oper) (fr fr0 : List (Nat × M)) (ob : List Ob) (s' : St), SameF fr fr0 → runOps P N call ops l ⟨fr0, ob⟩ = some s' → (∀ fr', SameF fr' s'.fr → K ⟨fr', s'.ob⟩) → awpOps P N ops K l ⟨fr, ob⟩
  | [], fr, fr0, ob, s', hs, h, hK => by
    simp only [runOps, Option.some.injEq] at h
    subst h
    exact hK fr hs
  | o :: rest, fr, fr0, ob, s', hs, h, hK => by
    simp only [runOps] at h
    unfold awpOps
    have eg : guardV ops fr o = guardV ops fr0 o := guardV_congr fun t _ => hs t
    have ec : callOf P ob fr o.op = callOf P ob fr0 o.op := callOf_congr fun t _ => hs t
    have ee : evOp P fr ob o.op o.type = evOp P fr0 ob o.op o.type := evOp_congr fun t _ => hs t
    split at h
    · rename_i hd
      rw [if_pos hd]
      simp only [eg, ec, ee]
      split at h
      · simp at h
      · rename_i hg
        rw [hg]
        exact runOps_sound hc rest _ _ _ s' (sameF_D hs _ _) h hK
      · rename_i hg
        rw [hg]
        simp only [if_true]
        split at h
        · rename_i f args hcall
          rw [hcall]
          simp only
          split at h
          · rename_i m ob' hr
            refine (hc _ _ _ _ _ hr).mono ?_
            rintro r ob2 ⟨rfl, rfl⟩
            exact runOps_sound hc rest _ _ _ s' (sameF_D hs _ _) h hK
          · simp at h
        · rename_i hcall
          rw [hcall]
          simp only
          split at h
          · rename_i m ob' hr
            have hnb := nextB_of_ev hr
            rw [hr]
            simp only [hnb, Bool.false_eq_true, if_false]
            exact runOps_sound hc rest _ _ _ s' (sameF_D hs _ _) h hK
          · simp at h
    · simp at h
theorem evOp_pure {fr : List (Nat × M)} {ob ob' : List Ob} {o : Op} {ty : TypeId} {m : M} (hp : pureOp o = true) (h : evOp P fr ob o ty = some (m, ob')) : ob' = ob := by
  have w : ∀ {x : Option M}, with_ ob x = some (m, ob') → ob' = ob := fun h => (with_some h).2
  cases o with
  | call c =>
    obtain ⟨callee, args, ts⟩ := c
    cases callee with
    | builtin b =>
      simp only [evOp] at h
      unfold evBuiltin at h
      split at h
      · split at h
        · split at h
          · simp only [Option.some.injEq, Prod.mk.injEq] at h; exact h.2.symm
          · simp at h
        · simp at h
      all_goals first
        | (simp [pureOp] at hp; done)
        | (split at h <;> first | exact w h | (simp at h; done))
        | (simp at h; done)
    | _ => simp [pureOp] at hp
  | pick c a b =>
    simp only [evOp] at h
    split at h
    · split at h <;> exact w h
    · simp at h
  | _ => first
    | (simp [pureOp] at hp; done)
    | (simp only [evOp] at h; exact w h)
    | (simp only [evOp] at h; split at h <;> first | exact w h | (simp at h; done))
    | (simp only [evOp] at h; split at h <;> first | (split at h <;> first | exact w h | (split at h <;> first | exact w h | (simp at h; done)) | (simp at h; done)) | (simp at h; done))
theorem runDraw_sound {N : Nat} {call : FuncId → List M → List Ob → Option (M × List Ob)} (hc : CallOK P call) {ops : Array Oper} {cuts : List Nat} {K : List (Nat × M) → List Ob → Prop} : ∀ (l : List Oper) (k : Nat) (fr fr0 : List (Nat × M)) (ob : List Ob) (frr : List (Nat × M)) (obr : List Ob), SameF fr fr0 → runDraw P N call ops cuts k l fr0 ob = some (frr, obr) → (∀ fr', SameF fr' frr → K fr' obr) → DrawK P N ops cuts K k l fr ob
  | [], k, fr, fr0, ob, frr, obr, hs, h, hK => by
    simp only [runDraw, Option.some.injEq, Prod.mk.injEq] at h
    obtain ⟨rfl, rfl⟩ := h
    exact hK fr hs
  | o :: rest, k, fr, fr0, ob, frr, obr, hs, h, hK => by
    simp only [runDraw] at h
    rw [DrawK_cons]
    have eg : guardV ops fr o = guardV ops fr0 o := guardV_congr fun t _ => hs t
    have ec : callOf P ob fr o.op = callOf P ob fr0 o.op := callOf_congr fun t _ => hs t
    have ee : evOp P fr ob o.op o.type = evOp P fr0 ob o.op o.type := evOp_congr fun t _ => hs t
    split at h
    · rename_i hd
      refine ⟨hd, ?_⟩
      rw [eg]
      split at h
      · simp at h
      · rename_i hg
        rw [hg, DGuard_false]
        exact runDraw_sound hc rest _ _ _ _ frr obr (sameF_D hs _ _) h hK
      · rename_i hg
        rw [hg, DGuard_true, ec]
        split at h
        · rename_i f args hcall
          rw [hcall, DCall_some]
          split at h
          · rename_i hmay
            split at h
            · rename_i m ob' hr
              exact ⟨m, ob', hc _ _ _ _ _ hr, fun hf => by rw [hmay] at hf; simp at hf, runDraw_sound hc rest _ _ _ _ frr obr (sameF_D hs _ _) h hK⟩
            · simp at h
          · split at h
            · rename_i ha
              split at h
              · rename_i m ob' hr
                split at h
                · rename_i hm
                  exact ⟨m, ob, Den.frame ha hm ((hc _ _ _ _ _ hr).mono fun r ob2 h => h.1) ob, fun _ => rfl, runDraw_sound hc rest _ _ _ _ frr obr (sameF_D hs _ _) h hK⟩
                · simp at h
              · simp at h
            · simp at h
        · rename_i hcall
          rw [hcall, DCall_none, ee]
          split at h
          · rename_i m ob' hr
            rw [hr, DEv_some2]
            split at h
            · rename_i hmay
              exact ⟨fun hf => by rw [hmay] at hf; simp at hf, runDraw_sound hc rest _ _ _ _ frr obr (sameF_D hs _ _) h hK⟩
            · split at h
              · rename_i hp
                have e := evOp_pure hp hr
                subst e
                exact ⟨fun _ => rfl, runDraw_sound hc rest _ _ _ _ frr obr (sameF_D hs _ _) h hK⟩
              · simp at h
          · simp at h
    · simp at h

theorem awp_region0 {id : Nat} {l : List Oper} {Q : Exit → St → Prop} {s : St} {N : Nat} (hN : X.N = N) (h : awpOps P N l.toArray (Q .normal) l s) : Awp P X (.region id l.toArray false) Q s := by
  subst hN; exact awp_region h
theorem draw_region0 {id : Nat} {l : List Oper} {Q : Exit → St → Prop} {s : St} {N : Nat} (hN : X.N = N) (hm : P.follows .mixedOrders = true) (hord : drawOK l (cutsFrom 0 l) = true)
    (h : DrawK P N l.toArray (cutsFrom 0 l) (fun fr ob => Q .normal ⟨fr, ob⟩) 0 l s.fr s.ob) : Awp P X (.region id l.toArray true) Q s := by
  have hall : ∀ fr : List (Nat × M), ∃ ts, ∀ t m, get fr t = some m → get (keep fr ts) t = some m := fun fr => ⟨fr.map (·.1), fun t m hg => by
    rw [get_keep, if_pos]
    · exact hg
    · have := get_mem hg
      exact List.mem_map.2 ⟨(t, m), this, rfl⟩⟩
  unfold drawOK at hord
  simp only [Bool.and_eq_true, decide_eq_true_eq] at hord
  obtain ⟨ho, hcu, hnd⟩ := hord
  obtain ⟨ms, f, h0, h1, h2⟩ := drawK_text hnd l 0 s.fr s.ob h
  have hz : nc (cutsFrom 0 l) 0 = 0 := by unfold nc; simp
  rw [hz] at h0
  rw [Nat.zero_add] at h2
  obtain ⟨ts, hts⟩ := hall (frP (fun _ => true) 0 l ms s.fr)
  intro a w hr
  refine wp_mono (awp_draw (Q := fun e s' => e = .normal ∧ s' = ⟨keep (frP (fun _ => true) 0 l ms s.fr) ts, f (nc (cutsFrom 0 l) l.length)⟩) N hN ts _ hm ho hcu ms f h0 h1 ⟨rfl, rfl⟩ a w hr) ?_
  rintro e a' w' ⟨s', ⟨rfl, rfl⟩, r⟩
  exact ⟨_, h2, r.weak ⟨hts, rfl⟩⟩

theorem resM_same {fr fr' : List (Nat × M)} {ob : List Ob} (h : SameF fr fr') : ∀ rs : List ResultVar, resM P ob fr rs = resM P ob fr' rs
  | [] => rfl
  | .tmp t :: r => by simp only [resM, h t, resM_same h r]
  | .cell q t :: r => by simp only [resM, h q, resM_same h r]
theorem resOf_same {fr fr' : List (Nat × M)} {ob : List Ob} (h : SameF fr fr') {rs : List ResultVar} : resOf P ob fr rs = resOf P ob fr' rs := by
  unfold resOf; rw [resM_same h]

theorem run_sound (n : Nat) : (∀ (N : Nat) (X : Ctx) (c : Code) (fr fr0 : List (Nat × M)) (ob : List Ob) (e : Ex) (s' : St), X.N = N → SameF fr fr0 → runC P N n c ⟨fr0, ob⟩ = some (e, s') → ∀ Q : Exit → St → Prop, (∀ fr', SameF fr' s'.fr → Q e.to ⟨fr', s'.ob⟩) → Awp P X c Q ⟨fr, ob⟩) ∧ CallOK P (runF P n) := by
  induction n using Nat.strongRecOn with
  | _ n ih0 =>
  cases n with
  | zero => exact ⟨fun N X c fr fr0 ob e s' _ _ h => by simp [runC] at h, fun f args ob m ob' h => by simp [runF] at h⟩
  | succ n =>
    obtain ⟨ihC, ihF⟩ := ih0 n (by omega)
    refine ⟨fun N X c fr fr0 ob e s' hN hs h Q hQ => ?_, fun f args ob m ob' h => ?_⟩
    · have h00 := h
      unfold runC at h
      cases c with
      | seq x y =>
        simp only at h
        refine awp_seq ?_
        split at h
        · rename_i s1 hr
          refine ihC N X x fr fr0 ob .n s1 hN hs hr _ fun fr' hf => ?_
          exact ihC N X y fr' s1.fr s1.ob e s' hN hf h Q hQ
        · rename_i hne
          cases e with
          | n => exact absurd h (hne _)
          | x id => exact ihC N X x fr fr0 ob (.x id) s' hN hs h _ hQ
          | r => exact ihC N X x fr fr0 ob .r s' hN hs h _ hQ
      | cond c x y =>
        simp only at h
        have ec : opM fr c = opM fr0 c := opM_congr fun t _ => hs t
        split at h
        · rename_i hb
          exact awp_cond (b := true) (by simp only; rw [ec]; exact hb) (by simpa using ihC N X x fr fr0 ob e s' hN hs h Q hQ)
        · rename_i hb
          exact awp_cond (b := false) (by simp only; rw [ec]; exact hb) (by simpa using ihC N X y fr fr0 ob e s' hN hs h Q hQ)
        · simp at h
      | block id c =>
        simp only at h
        refine awp_block ?_
        split at h
        · rename_i id' s1 hr
          refine ihC N X c fr fr0 ob (.x id') s1 hN hs hr _ fun fr' hf => ?_
          simp only [Ex.to, inBlockA]
          split at h
          · rename_i hid
            simp only [Option.some.injEq, Prod.mk.injEq] at h
            obtain ⟨rfl, rfl⟩ := h
            rw [if_pos hid]
            exact hQ fr' hf
          · rename_i hid
            simp only [Option.some.injEq, Prod.mk.injEq] at h
            obtain ⟨rfl, rfl⟩ := h
            rw [if_neg hid]
            exact hQ fr' hf
        · rename_i hne
          cases e with
          | n => exact ihC N X c fr fr0 ob .n s' hN hs h _ hQ
          | x id' => exact absurd h (hne _ _)
          | r => exact ihC N X c fr fr0 ob .r s' hN hs h _ hQ
      | skip =>
        simp only [Option.some.injEq, Prod.mk.injEq] at h
        obtain ⟨rfl, rfl⟩ := h
        exact awp_skip (hQ fr hs)
      | label l =>
        simp only [Option.some.injEq, Prod.mk.injEq] at h
        obtain ⟨rfl, rfl⟩ := h
        exact awp_label (hQ fr hs)
      | exit id =>
        simp only [Option.some.injEq, Prod.mk.injEq] at h
        obtain ⟨rfl, rfl⟩ := h
        exact awp_exit (hQ fr hs)
      | ret =>
        simp only [Option.some.injEq, Prod.mk.injEq] at h
        obtain ⟨rfl, rfl⟩ := h
        exact awp_ret (hQ fr hs)
      | scope c =>
        simp only at h
        refine awp_scope (ihC N X c fr fr0 ob e s' hN hs h _ fun fr' hf => ?_)
        cases e <;> exact hQ fr' hf
      | loop c =>
        refine awp_loop (fun m s1 => m ≤ n + 1 ∧ ∃ fr1, SameF s1.fr fr1 ∧ runC P N m (.loop c) ⟨fr1, s1.ob⟩ = some (e, s')) (n + 1) ⟨Nat.le_refl _, fr0, hs, h00⟩ ?_
        rintro m ⟨fr2, ob2⟩ ⟨hm, fr1, hs1, hr1⟩
        simp only at hs1 hr1
        cases m with
        | zero => simp [runC] at hr1
        | succ m =>
          obtain ⟨ihC', _⟩ := ih0 m (by omega)
          unfold runC at hr1
          simp only at hr1
          split at hr1
          · rename_i s2 hr2
            refine ihC' N X c fr2 fr1 ob2 .n s2 hN hs1 hr2 _ fun fr' hf => ?_
            exact ⟨m, by omega, by omega, s2.fr, hf, hr1⟩
          · rename_i hne
            cases e with
            | n => exact absurd hr1 (hne _)
            | x id => exact ihC' N X c fr2 fr1 ob2 (.x id) s' hN hs1 hr1 _ hQ
            | r => exact ihC' N X c fr2 fr1 ob2 .r s' hN hs1 hr1 _ hQ
      | region id ops b =>
        obtain ⟨l⟩ := ops
        cases b with
        | false =>
          simp only at h
          split at h
          · rename_i s1 hr
            simp only [Option.some.injEq, Prod.mk.injEq] at h
            obtain ⟨rfl, rfl⟩ := h
            exact awp_region0 hN (runOps_sound ihF l fr fr0 ob s1 hs hr hQ)
          · simp at h
        | true =>
          simp only at h
          split at h
          · rename_i hm
            split at h
            · rename_i hd
              split at h
              · rename_i fr1 ob1 hr
                simp only [Option.some.injEq, Prod.mk.injEq] at h
                obtain ⟨rfl, rfl⟩ := h
                exact draw_region0 hN hm hd (runDraw_sound ihF l 0 fr fr0 ob fr1 ob1 hs hr hQ)
              · simp at h
            · simp at h
          · simp at h
      | _ => simp at h
    · unfold runF at h
      split at h
      · rename_i fn hfn
        split at h
        · simp at h
        · rename_i hname
          split at h
          · rename_i c hb
            split at h
            · rename_i hlen
              refine den_of hfn hb (by simpa using hname) hlen fun X hX hO => ?_
              split at h
              · rename_i s hr
                obtain ⟨m', hm, hp⟩ := Option.map_eq_some_iff.1 h
                simp only [Prod.mk.injEq] at hp
                obtain ⟨rfl, rfl⟩ := hp
                refine ihC fn.ntmps X c _ _ ob .n s hX (fun _ => rfl) hr _ fun fr' hf => ?_
                simp only [Ex.to, postOf]
                rw [resOf_same hf, hm]
                simp
              · rename_i s hr
                obtain ⟨m', hm, hp⟩ := Option.map_eq_some_iff.1 h
                simp only [Prod.mk.injEq] at hp
                obtain ⟨rfl, rfl⟩ := hp
                refine ihC fn.ntmps X c _ _ ob .r s hX (fun _ => rfl) hr _ fun fr' hf => ?_
                simp only [Ex.to, postOf]
                rw [resOf_same hf, hm]
                simp
              · simp at h
            · simp at h
          · simp at h
      · simp at h
theorem den_run {f : FuncId} {args : List M} {m : M} (n : Nat) (ha : ltBs 0 args = true) (hm : ltB 0 m = true) (h : (runF P n f args []).map (·.1) = some m) : DenV P f args m := by
  obtain ⟨⟨r, ob'⟩, hr, rfl⟩ := Option.map_eq_some_iff.1 h
  exact Den.frame ha hm (((run_sound n).2 f args [] r ob' hr).mono fun x ob2 h => h.1)
end Go.Av

/- Numbers: what wraps, and bits, by words. -/
set_option linter.unusedVariables false
set_option linter.unusedSimpArgs false
namespace Go.Av
open Go

theorem wrapU32 (x : Int) (h : 0 ≤ x ∧ x < 4294967296) : IntKind.u32.wrap x = x := by simp [IntKind.wrap, IntKind.signed, IntKind.bits]; omega
theorem wrapU64 (x : Int) (h : 0 ≤ x ∧ x < 18446744073709551616) : IntKind.u64.wrap x = x := by simp [IntKind.wrap, IntKind.signed, IntKind.bits]; omega
theorem modU8 (x : Int) : IntKind.u8.wrap x = x % 256 := by simp [IntKind.wrap, IntKind.signed, IntKind.bits]
theorem modU32 (x : Int) : IntKind.u32.wrap x = x % 4294967296 := by simp [IntKind.wrap, IntKind.signed, IntKind.bits]
theorem modU64 (x : Int) : IntKind.u64.wrap x = x % 18446744073709551616 := by simp [IntKind.wrap, IntKind.signed, IntKind.bits]

theorem mul_pow2 (x n : Nat) : (x : Int) * 2 ^ n = ((x * 2 ^ n : Nat) : Int) := by rw [Int.natCast_mul, Int.natCast_pow]; rfl
theorem fdiv_pow (x n : Nat) : ((x : Int)).fdiv (2 ^ n) = ((x / 2 ^ n : Nat) : Int) := by
  rw [Int.fdiv_eq_ediv_of_nonneg _ (by have : (0 : Int) < 2 ^ n := Int.pow_pos (by omega); omega)]
  norm_cast
theorem fdiv_nat (x n : Nat) : ((x : Int)).fdiv (n : Int) = ((x / n : Nat) : Int) := by
  rw [Int.fdiv_eq_ediv_of_nonneg _ (by omega)]
  norm_cast
def w32 (x : BitVec 32) : C := .v (.int .u32 (x.toNat : Int))
def w64 (x : BitVec 64) : C := .v (.int .u64 (x.toNat : Int))
theorem ofI32 (x : BitVec 32) : BitVec.ofInt IntKind.u32.bits (x.toNat : Int) = x := by
  show BitVec.ofInt 32 (x.toNat : Int) = x
  rw [BitVec.ofInt_natCast, BitVec.ofNat_toNat, BitVec.setWidth_eq]
theorem toI32 (x : BitVec 32) : IntKind.u32.wrap (x.toNat : Int) = (x.toNat : Int) := wrapU32 _ (by have := x.isLt; omega)
theorem add32 (x y : BitVec 32) : IntKind.u32.wrap ((x.toNat : Int) + (y.toNat : Int)) = ((x + y).toNat : Int) := by rw [modU32, BitVec.toNat_add]; omega
theorem and32 (x y : BitVec 32) : andI .u32 (x.toNat : Int) (y.toNat : Int) = ((x &&& y).toNat : Int) := by unfold andI; rw [ofI32, ofI32]; exact toI32 _
theorem or32 (x y : BitVec 32) : orI .u32 (x.toNat : Int) (y.toNat : Int) = ((x ||| y).toNat : Int) := by unfold orI; rw [ofI32, ofI32]; exact toI32 _
theorem xor32 (x y : BitVec 32) : xorI .u32 (x.toNat : Int) (y.toNat : Int) = ((x ^^^ y).toNat : Int) := by unfold xorI; rw [ofI32, ofI32]; exact toI32 _
theorem not32 (x : BitVec 32) : IntKind.u32.wrap ((BitVec.ofInt IntKind.u32.bits IntKind.u32.max ^^^ BitVec.ofInt IntKind.u32.bits (x.toNat : Int)).toNat : Int) = ((~~~ x).toNat : Int) := by
  rw [ofI32]
  show IntKind.u32.wrap (((BitVec.ofInt 32 IntKind.u32.max ^^^ x : BitVec 32)).toNat : Int) = _
  rw [show BitVec.ofInt 32 IntKind.u32.max = BitVec.allOnes 32 from by decide, BitVec.allOnes_xor]
  exact toI32 _
theorem shr32 (x : BitVec 32) (n : Nat) : ((x.toNat : Int)).fdiv (2 ^ n) = ((x >>> n).toNat : Int) := by rw [fdiv_pow, BitVec.toNat_ushiftRight, Nat.shiftRight_eq_div_pow]
theorem shl32 (x : BitVec 32) (n : Nat) : IntKind.u32.wrap ((x.toNat : Int) * 2 ^ n) = ((x <<< n).toNat : Int) := by
  rw [modU32, BitVec.toNat_shiftLeft, Nat.shiftLeft_eq, mul_pow2]
  generalize x.toNat * 2 ^ n = m
  omega
theorem andN (k : IntKind) (a b : Nat) (ha : a < 2 ^ k.bits) (hb : b < 2 ^ k.bits) (hs : k.signed = true → a < 2 ^ (k.bits - 1)) : andI k (a : Int) (b : Int) = ((a &&& b : Nat) : Int) := by
  unfold andI
  rw [BitVec.ofInt_natCast, BitVec.ofInt_natCast, BitVec.toNat_and, BitVec.toNat_ofNat, BitVec.toNat_ofNat, Nat.mod_eq_of_lt ha, Nat.mod_eq_of_lt hb]
  have hle : a &&& b ≤ a := Nat.and_le_left
  have hp : ((2 : Int) ^ k.bits) = ((2 ^ k.bits : Nat) : Int) := by norm_cast
  have hq : ((2 : Int) ^ (k.bits - 1)) = ((2 ^ (k.bits - 1) : Nat) : Int) := by norm_cast
  have hm : (((a &&& b : Nat) : Int)) % 2 ^ k.bits = ((a &&& b : Nat) : Int) := by rw [hp]; exact Int.emod_eq_of_lt (by omega) (by omega)
  simp only [IntKind.wrap, hm]
  split
  · rename_i h
    simp only [Bool.and_eq_true, decide_eq_true_eq] at h
    have := hs h.1
    rw [hq] at h
    omega
  · rfl
theorem orU (k : IntKind) (a b : Nat) (ha : a < 2 ^ k.bits) (hb : b < 2 ^ k.bits) (hs : k.signed = false) : orI k (a : Int) (b : Int) = ((a ||| b : Nat) : Int) := by
  unfold orI
  rw [BitVec.ofInt_natCast, BitVec.ofInt_natCast, BitVec.toNat_or, BitVec.toNat_ofNat, BitVec.toNat_ofNat, Nat.mod_eq_of_lt ha, Nat.mod_eq_of_lt hb]
  have hlt : a ||| b < 2 ^ k.bits := Nat.or_lt_two_pow ha hb
  have hp : ((2 : Int) ^ k.bits) = ((2 ^ k.bits : Nat) : Int) := by norm_cast
  have hm : (((a ||| b : Nat) : Int)) % 2 ^ k.bits = ((a ||| b : Nat) : Int) := by rw [hp]; exact Int.emod_eq_of_lt (by omega) (by omega)
  simp only [IntKind.wrap, hm, hs, Bool.false_and, Bool.false_eq_true, if_false]
theorem or_byte (a b : Nat) (h : b < 256) : (a * 256) ||| b = a * 256 + b := by
  have := Nat.shiftLeft_add_eq_or_of_lt (i := 8) (b := b) (by omega) a
  rw [Nat.shiftLeft_eq] at this
  exact this.symm
end Go.Av
namespace Go.Av
@[simp] theorem bytesM_cons (n : Int) (cs : List C) : bytesM (up (.v (.int .u8 n) :: cs)) = (bytesM (up cs)).map (UInt8.ofNat n.toNat :: ·) := rfl
end Go.Av
namespace Go.Av
open Go
def wI (x : BitVec 32) : Int := (x.toNat : Int)
def wC (x : BitVec 32) : C := .v (.int .u32 (wI x))
theorem wI_add (x y : BitVec 32) : IntKind.u32.wrap (wI x + wI y) = wI (x + y) := add32 x y
theorem wI_and (x y : BitVec 32) : andI .u32 (wI x) (wI y) = wI (x &&& y) := and32 x y
theorem wI_or (x y : BitVec 32) : orI .u32 (wI x) (wI y) = wI (x ||| y) := or32 x y
theorem wI_xor (x y : BitVec 32) : xorI .u32 (wI x) (wI y) = wI (x ^^^ y) := xor32 x y
theorem wI_not (x : BitVec 32) : notI .u32 (wI x) = wI (~~~ x) := not32 x
theorem wI_shr (x : BitVec 32) (n : Nat) : (wI x).fdiv (2 ^ n) = wI (x >>> n) := shr32 x n
theorem wI_shr' (x : BitVec 32) (n : Nat) : (wI x) >>> n = wI (x >>> n) := by
  have : (wI x) >>> n = (wI x).fdiv (2 ^ n) := by
    unfold wI
    rw [fdiv_pow, Int.shiftRight_eq_div_pow]
    norm_cast
  rw [this, wI_shr]
theorem wI_shl (x : BitVec 32) (n : Nat) : IntKind.u32.wrap (wI x * 2 ^ n) = wI (x <<< n) := shl32 x n
end Go.Av
namespace Go.Av
open Go
variable {P : Program}
theorem Den.at_ {f : FuncId} {args : List M} {ob : List Ob} {K : M → List Ob → Prop} (h : Den P f args ob K) : Den P f args ob K := h
theorem drawn_at {f : FuncId} {args : List M} {ob : List Ob} {A : M → List Ob → Prop} (h : ∃ m ob2, Den P f args ob (fun r ob' => r = m ∧ ob' = ob2) ∧ A m ob2) : ∃ m ob2, Den P f args ob (fun r ob' => r = m ∧ ob' = ob2) ∧ A m ob2 := h
end Go.Av
namespace Go.Av
@[simp] theorem lay_up1 (cs : List C) (off : Nat) (a : C) : lay (up cs) off (up [a]) = up (cs.set off a) := by simp [up, lay_one, List.map_set]
@[simp] theorem lay_up2 (cs : List C) (off : Nat) (a b : C) (r : List C) : lay (up cs) off (up (a :: b :: r)) = up (cs.take off ++ ((a :: b :: r) ++ cs.drop (off + (a :: b :: r).length))) := by
  show lay (up cs) off (M.c a :: M.c b :: up r) = _
  rw [lay_two]
  simp [up]
end Go.Av

/- Contracts of the library that are proved over the world, as contracts over states. -/
set_option linter.unusedVariables false
set_option linter.unusedSimpArgs false
namespace Go.Av
open Go Go.RowKit
variable {P : Program}

theorem Den.of_below {f : FuncId} {args : List M} {x : Value} (hok : okF P f = true) (ha : ltBs 0 args = true)
    (h : ∀ (w : World) (E : Env) (vals : Array Value), vals.size = args.length → (∀ (j : Nat) m, args[j]? = some m → RepM w E [] m (vals.getD j undef)) → (∀ b, E.st b → b < w.heap.size) →
      Calls P f vals w fun e w' => e = .returned x ∧ Below w.heap.size w w') : DenV P f args (.c (.v x)) := by
  refine Den.frame ha rfl ?_
  intro w E vals h1 h2 h3
  refine .inl ⟨hok, (h w E vals h1 h2 h3.stb).mono ?_⟩
  rintro e w' ⟨rfl, hb⟩
  refine ⟨x, rfl, .c (.v x), [], E, rfl, .c (.v x), ⟨⟨fun i o hi => by simp at hi, fun i j a b hi => by simp at hi, fun b hb' => Nat.lt_of_lt_of_le (h3.stb b hb') hb.size, fun i o hi => by simp at hi, h3.gl.ext (fun b hb' => ⟨hb', hb.block b (h3.stb b hb')⟩)⟩, ⟨fun b hb' => ⟨hb', hb.block b (h3.stb b hb')⟩, fun i o hi => by simp at hi⟩, ⟨hb.os, hb.tape, hb.output, hb.size, fun b hb' _ => hb.block b hb', fun _ h => h, fun _ h => .inl h, fun i o hi => by simp at hi⟩⟩⟩
theorem arg_v {w : World} {E : Env} {ob : List Ob} {x y : Value} (h : RepM w E ob (.c (.v x)) y) : y = x := by
  cases h with
  | c h => cases h; rfl
theorem arg_row {w : World} {E : Env} {ob : List Ob} {vs : List Value} {n : Nat} {full : Bool} {y : Value} (hn : vs.length = n) (h : RepM w E ob (.c (.sl (vs.map C.v) n full)) y) :
    (n = 0 ∧ y = .slice none 0 0) ∨ ∃ (a : Addr) (cap : Nat), y = .slice (some a) n cap ∧ n ≤ cap ∧ ∀ (j : Nat) v, vs[j]? = some v → E.st a.block ∧ w.cell? (a.add j) = some v := by
  generalize hcs : vs.map C.v = cs0 at h
  cases h with
  | c h =>
    cases h with
    | nl => exact .inl ⟨rfl, rfl⟩
    | sl cs n full a cap ys hf hn' h1 h2 =>
      refine .inr ⟨a, cap, rfl, hn', fun j v hv => ?_⟩
      have hc : cs0[j]? = some (.v v) := by rw [← hcs]; simp [hv]
      obtain ⟨q1, q2, q3⟩ := h1 j _ hc
      have := h2 j _ hc
      cases this
      exact ⟨q1, q3⟩
theorem plain_of_cell {w : World} {a : Addr} {v : Value} (h : w.cell? a = some v) : a = ⟨a.block, a.off, none⟩ := by
  unfold World.cell? at h
  split at h
  · split at h
    · simp at h
    · rename_i hs
      obtain ⟨b, o, s⟩ := a
      cases s with
      | none => rfl
      | some s => simp at hs
  · simp at h
theorem add_plain (b o j : Nat) : (⟨b, o, none⟩ : Addr).add j = ⟨b, o + j, none⟩ := by
  unfold Addr.add
  split
  · rename_i h; subst h; rfl
  · rfl
end Go.Av

/- A scope in which the run jumps back to one label. -/
set_option linter.unusedVariables false
namespace Go.Av
open Go
variable {P : Program} {X : Ctx}
def jumpA (l : Nat) (J : St → Prop) (Q : Exit → St → Prop) : Exit → St → Prop
  | .goto l', s => l' = l ∧ J s
  | e, s => Q e s
attribute [simp] jumpA
@[reducible] def isG : Exit → Bool
  | .goto _ => true
  | _ => false
end Go.Av

/- A slice's object is given up, with what came after it. -/
set_option linter.unusedVariables false
set_option linter.unusedSimpArgs false
namespace Go.Av
open Go Go.RowKit
variable {P : Program} {X : Ctx}
theorem awp_frz2 {c : Code} {Q : Exit → St → Prop} {fr : List (Nat × M)} {S : List Ob} (t : Nat) (ob mid suf : List Ob) (o : Ob) (cs : List C) (n : Nat) (hX : X.ob = ob ∧ HeapOK X.w X.E X.ob) (hS : S = ob ++ (mid ++ o :: suf))
    (hg : get fr t = some (.ms (ob.length + mid.length) o.gen 0 n)) (hcs : o.cs = up cs) (hfr : fr.all (fun p => p.1 == t || ltB (ob.length + mid.length) p.2) = true) (hmid : mid.all (fun q => q.cs.all (ltB (ob.length + mid.length))) = true)
    (h : Awp P X c Q ⟨put fr t (.c (.sl cs n false)), ob ++ mid⟩) : Awp P X c Q ⟨fr, S⟩ := fun a w hr => by
  obtain ⟨E, h1, h2, h3, h4⟩ := hr
  simp only at h1 h4
  subst hS
  obtain ⟨hXo, hXh⟩ := hX
  rw [← List.append_assoc] at h1 h4
  rw [hXo] at hXh
  have hlt : ∀ (i : Nat) (q : Ob) (j : Nat) (m : M), (ob ++ mid)[i]? = some q → q.iter = none → q.cs[j]? = some m → Lt (ob ++ mid).length m := by
    intro i q j m hi hit hj
    by_cases hlt : i < ob.length
    · rw [List.getElem?_append_left hlt] at hi
      exact lt_mono (by simp) (cells_lt hXh i q j m hi hj hit)
    · rw [List.getElem?_append_right (by omega)] at hi
      have hq := List.all_eq_true.1 hmid q (List.mem_of_getElem? hi)
      have hm := List.all_eq_true.1 hq m (List.mem_of_getElem? hj)
      have := lt_of_ltB hm
      rwa [List.length_append]
  have h4' : Step X.w X.E ob w E ((ob ++ mid) ++ o :: suf) := by rw [← hXo]; rw [← hXo] at h4; exact h4
  have hst := step_give2 h4' hlt
  refine h a w ⟨_, fun u m hu => ?_, h2, h3, by rw [hXo]; exact hst⟩
  simp only [get_put] at hu
  split at hu
  · rename_i e
    subst e
    obtain rfl := Option.some.inj hu
    obtain ⟨p, q⟩ := h1 _ _ hg
    refine ⟨p, ?_⟩
    refine rep_frozen (k := 0) (o := o) (g := o.gen) h4.heap rfl rfl hcs (by simpa using q) false (by simp) (fun hn => ?_)
    have hob := h4.heap.obj (ob ++ mid).length o (by rw [List.getElem?_append_right (by omega)]; simp)
    unfold ObOK at hob
    split at hob
    · rw [hob.2] at hn; simp at hn
    · have := hob.1 hn
      rw [hcs] at this
      simpa [up] using this
  · rename_i hne
    obtain ⟨p, q⟩ := h1 u m hu
    refine ⟨p, ?_⟩
    have hb := List.all_eq_true.1 hfr (u, m) (get_mem hu)
    have hb : ltB (ob.length + mid.length) m = true := by
      simp only [Bool.or_eq_true, beq_iff_eq] at hb
      rcases hb with hb | hb
      · exact absurd hb.symm hne
      · exact hb
    refine rep_lower (ext := o :: suf) (q.keep ?_) (by rw [List.length_append]; exact lt_of_ltB hb)
    exact ⟨fun b hb => ⟨.inl hb, rfl⟩, fun i q hq => ⟨q, hq, Nat.le_refl _, rfl, fun _ => rfl, fun _ => ⟨rfl, rfl, rfl, rfl⟩⟩⟩

end Go.Av

/- A contract over the world whose answer is a row of its own, as a contract over states. -/
set_option linter.unusedVariables false
set_option linter.unusedSimpArgs false
namespace Go.Av
open Go Go.RowKit
variable {P : Program}
end Go.Av

/- Contracts hold beside objects of which they do not speak. -/
set_option linter.unusedVariables false
set_option linter.unusedSimpArgs false
namespace Go.Av
open Go
variable {P : Program} {X : Ctx}
theorem Den.frameS {f : FuncId} {args : List M} {ob : List Ob} {Q : M → List Ob → Prop} (suf : List Ob) (ha : ltBs ob.length args = true) (hc : ob.all (fun o => o.cs.all (ltB ob.length)) = true)
    (hq : ∀ r ob', Q r ob' → ob'.length = ob.length) (h : Den P f args ob Q) : Den P f args (ob ++ suf) (fun r ob' => ∃ ob2, Q r ob2 ∧ ob' = ob2 ++ suf) := by
  intro w E vals h1 h2 h3
  have hlow : ∀ (i : Nat) (o : Ob), ob[i]? = some o → ∀ (j : Nat) m, o.cs[j]? = some m → Lt ob.length m := fun i o hi j m hj =>
    lt_of_ltB (List.all_eq_true.1 (List.all_eq_true.1 hc o (List.mem_of_getElem? hi)) m (List.mem_of_getElem? hj))
  have hup : ∀ (i : Nat) (o : Ob), ob[i]? = some o → (ob ++ suf)[i]? = some o := fun i o hi => by
    rw [List.getElem?_append_left (List.getElem?_eq_some_iff.1 hi).1]; exact hi
  have h0 : HeapOK w E ob := by
    refine ⟨fun i o hi => ?_, fun i j a b hi hj => h3.inj i j a b (hup _ _ hi) (hup _ _ hj), h3.stb, fun i o hi => h3.own i o (hup _ _ hi), h3.gl⟩
    have := h3.obj i o (hup i o hi)
    unfold ObOK at this ⊢
    split
    · rename_i q0 hit
      rw [hit] at this
      exact ⟨this.1.less (List.getElem?_eq_some_iff.1 hi).1, this.2⟩
    · rename_i hit
      rw [hit] at this
      refine ⟨this.1, fun hn => ?_⟩
      obtain ⟨arr, lo, hi', e1, e2, e3, e4⟩ := this.2 hn
      refine ⟨arr, lo, hi', e1, e2, e3, fun j m hm => ?_⟩
      obtain ⟨y, y1, y2, y3⟩ := e4 j m hm
      exact ⟨y, y1, y2, rep_lower y3 (hlow i o hi j m hm)⟩
  refine (h w E vals h1 (fun j m hj => rep_lower (h2 j m hj) (lt_of_ltBs ha j m hj)) h0).mono ?_
  rintro v w' ⟨r, ob2, E', hQ, hr, hs⟩
  have hlen := hq r ob2 hQ
  have hsuf : ∀ (i : Nat) (o : Ob), ¬ i < ob.length → (ob2 ++ suf)[i]? = some o → (ob ++ suf)[i]? = some o := fun i o hi ho => by
    rw [List.getElem?_append_right (by omega)] at ho ⊢
    rw [← hlen]; exact ho
  have hfar : ∀ (i : Nat) (o : Ob), ¬ i < ob.length → (ob ++ suf)[i]? = some o → o.nil = false → ¬ owns E ob (E.blk i) := fun i o hi ho hn ⟨k, q, hk, hqn, he⟩ => by
    have := h3.inj k i q o (hup _ _ hk) ho hqn hn he
    have := (List.getElem?_eq_some_iff.1 hk).1
    omega
  obtain ⟨E2, hE2⟩ : ∃ E2 : Env, E2 = ⟨E'.st, fun i => if i < ob.length then E'.blk i else E.blk i, fun i => if i < ob.length then E'.asz i else E.asz i⟩ := ⟨_, rfl⟩
  have b1 : ∀ i, i < ob.length → E2.blk i = E'.blk i ∧ E2.asz i = E'.asz i := fun i hi => by rw [hE2]; simp [hi]
  have b2 : ∀ i, ¬ i < ob.length → E2.blk i = E.blk i ∧ E2.asz i = E.asz i := fun i hi => by rw [hE2]; simp [hi]
  have b3 : E2.st = E'.st := by rw [hE2]
  have k1 : Ext w' E' ob2 w' E2 (ob2 ++ suf) := ⟨fun b hb => ⟨by rw [b3]; exact hb, rfl⟩, fun i o hi => by
    have hl := (List.getElem?_eq_some_iff.1 hi).1
    obtain ⟨e1, e2⟩ := b1 i (by omega)
    exact ⟨o, by rw [List.getElem?_append_left hl]; exact hi, Nat.le_refl _, rfl, fun _ => e1, fun _ => ⟨rfl, rfl, e1, e2⟩⟩⟩
  have k2 : Ext w E (ob ++ suf) w' E2 (ob2 ++ suf) := ⟨fun b hb => by rw [b3]; exact hs.ext.st b hb, fun i o hi => by
    by_cases hl : i < ob.length
    · rw [List.getElem?_append_left hl] at hi
      obtain ⟨o', q1, q2, q3, q4, q5⟩ := hs.ext.ob i o hi
      obtain ⟨e1, e2⟩ := b1 i hl
      have hl2 := (List.getElem?_eq_some_iff.1 q1).1
      refine ⟨o', by rw [List.getElem?_append_left hl2]; exact q1, q2, q3, fun h => e1.trans (q4 h), fun h => ?_⟩
      obtain ⟨p1, p2, p3, p4⟩ := q5 h
      exact ⟨p1, p2, e1.trans p3, e2.trans p4⟩
    · obtain ⟨e1, e2⟩ := b2 i hl
      refine ⟨o, ?_, Nat.le_refl _, rfl, fun _ => e1, fun _ => ⟨rfl, rfl, e1, e2⟩⟩
      rw [List.getElem?_append_right (by omega)] at hi ⊢
      rw [hlen]; exact hi⟩
  have hstof : ∀ b, E2.st b → E.st b ∨ owns E ob b ∨ w.heap.size ≤ b := fun b hb => hs.base.st_of b (by rw [← b3]; exact hb)
  refine ⟨r, ob2 ++ suf, E2, ⟨ob2, hQ, rfl⟩, hr.keep k1, ⟨⟨fun i o hi => ?_, fun i j oi oj hi hj ni nj he => ?_, fun b hb => hs.heap.stb b (by rw [← b3]; exact hb), fun i o hi hn => ?_, hs.heap.gl.ext k1.st⟩, k2, ⟨hs.base.os, hs.base.tape, hs.base.output, hs.base.size, fun b hb hn => ?_, fun b hb => by rw [b3]; exact hs.base.st b hb, fun b hb => ?_, fun i o hi hn => ?_⟩⟩⟩
  · by_cases hl : i < ob.length
    · rw [List.getElem?_append_left (by omega)] at hi
      obtain ⟨e1, e2⟩ := b1 i hl
      exact (hs.heap.obj i o hi).keep k1 e1 e2 (fun _ => rfl)
    · obtain ⟨e1, e2⟩ := b2 i hl
      have ho := hsuf i o hl hi
      exact (h3.obj i o ho).keep k2 e1 e2 (fun hn => hs.base.block _ (h3.own i o ho hn).2 (hfar i o hl ho hn))
  · have cross : ∀ (i j : Nat) (oi oj : Ob), i < ob.length → ¬ j < ob.length → (ob2 ++ suf)[i]? = some oi → (ob2 ++ suf)[j]? = some oj → oi.nil = false → oj.nil = false → E2.blk i = E2.blk j → False := fun i j oi oj hl hl2 hi hj ni nj he => by
      have hoj := hsuf j oj hl2 hj
      rw [(b1 i hl).1, (b2 j hl2).1] at he
      rw [List.getElem?_append_left (by omega)] at hi
      rcases hs.base.own i oi hi ni with h | h
      · rw [he] at h; exact hfar j oj hl2 hoj nj h
      · have := (h3.own j oj hoj nj).2
        omega
    by_cases hl : i < ob.length <;> by_cases hl2 : j < ob.length
    · rw [List.getElem?_append_left (by omega)] at hi hj
      rw [(b1 i hl).1, (b1 j hl2).1] at he
      exact hs.heap.inj i j oi oj hi hj ni nj he
    · exact (cross i j oi oj hl hl2 hi hj ni nj he).elim
    · exact (cross j i oj oi hl2 hl hj hi nj ni he.symm).elim
    · rw [(b2 i hl).1, (b2 j hl2).1] at he
      exact h3.inj i j oi oj (hsuf i oi hl hi) (hsuf j oj hl2 hj) ni nj he
  · by_cases hl : i < ob.length
    · rw [List.getElem?_append_left (by omega)] at hi
      rw [(b1 i hl).1, b3]
      exact hs.heap.own i o hi hn
    · have ho := hsuf i o hl hi
      rw [(b2 i hl).1]
      have hown := h3.own i o ho hn
      refine ⟨fun hst => ?_, Nat.lt_of_lt_of_le hown.2 hs.base.size⟩
      rcases hstof _ hst with h | h | h
      · exact hown.1 h
      · exact hfar i o hl ho hn h
      · omega
  · exact hs.base.block b hb (fun ⟨k, q, hk, hqn, he⟩ => hn ⟨k, q, hup _ _ hk, hqn, he⟩)
  · rcases hstof b hb with h | ⟨k, q, hk, hqn, he⟩ | h
    · exact .inl h
    · exact .inr (.inl ⟨k, q, hup _ _ hk, hqn, he⟩)
    · exact .inr (.inr h)
  · by_cases hl : i < ob.length
    · rw [List.getElem?_append_left (by omega)] at hi
      rw [(b1 i hl).1]
      rcases hs.base.own i o hi hn with ⟨k, q, hk, hqn, he⟩ | h
      · exact .inl ⟨k, q, hup _ _ hk, hqn, he⟩
      · exact .inr h
    · rw [(b2 i hl).1]
      exact .inl ⟨i, o, hsuf i o hl hi, hn, rfl⟩
theorem Den.frame1 {f : FuncId} {args : List M} {ob ob2 : List Ob} {m : M} (suf : List Ob) (ha : ltBs ob.length args = true) (hc : ob.all (fun o => o.cs.all (ltB ob.length)) = true) (hl : ob2.length = ob.length)
    (h : Den P f args ob fun r ob' => r = m ∧ ob' = ob2) : Den P f args (ob ++ suf) (fun r ob' => r = m ∧ ob' = ob2 ++ suf) :=
  (Den.frameS suf ha hc (fun r ob' h => by rw [h.2]; exact hl) h).mono fun r ob' ⟨q, ⟨h1, h2⟩, h3⟩ => ⟨h1, by rw [h3, h2]⟩
end Go.Av

/- A region that draws its order, where changes of objects need not stand in order with all else: what the objects are is told of each set of operations that may have been carried out. -/
set_option linter.unusedVariables false
set_option linter.unusedSimpArgs false
namespace Go.Av
open Go
variable {P : Program} {X : Ctx}

def MatS (P : Program) (ob ob2 : List Ob) (op : Op) (m : M) : Prop :=
  ∃ e zs idx, op = .alloc e ∧ zeroT P e = some zs ∧ ob[idx]? = some { ty := e, sz := szOb P e, nil := true, gen := 0, cs := [] } ∧ m = .mp idx 1 0 ∧ ob2 = ob.set idx { ty := e, sz := szOb P e, nil := false, gen := 1, cs := zs }
def StepS (P : Program) (N : Nat) (ops : Array Oper) (ob ob2 : List Ob) (fr : List (Nat × M)) (o : Oper) (m : M) : Prop :=
  dstOK N o = true ∧ ((guardV ops fr o = some false ∧ m = .tup [] ∧ ob2 = ob) ∨ (guardV ops fr o = some true ∧
    ((∃ f args, callOf P ob fr o.op = some (f, args) ∧ Den P f args ob fun r ob' => r = m ∧ ob' = ob2) ∨ (callOf P ob fr o.op = none ∧ (evOp P fr ob o.op o.type = some (m, ob2) ∨ MatS P ob ob2 o.op m)))))
theorem sound_mat {w : World} {E : Env} {ob ob2 : List Ob} {s : Act} (hh : HeapOK w E ob) {o : Oper} {m : M} (h : MatS P ob ob2 o.op m) :
    ∃ v w' E', (execOp s.eval o).run P w = .ok (.value v) w' ∧ RepM w' E' ob2 m v ∧ Step w E ob w' E' ob2 := by
  obtain ⟨dst, op, ty, pos, after, guard⟩ := o
  obtain ⟨e, zs, idx, rfl, hz, hi, rfl, rfl⟩ := h
  obtain ⟨i, z, hi2, hiz, c1, c2, c3⟩ := cells_zero (w := w) (E := E) (ob := ob) hz
  have hlt := (List.getElem?_eq_some_iff.1 hi).1
  refine ⟨.pointer (some ⟨w.heap.size, 0, none⟩), { w with heap := w.heap.push (.cells z.cells e) }, _, ?_, ?_, step_move hh hi rfl zs 1 (by simp) z.cells e rfl c3 rfl rfl rfl rfl⟩
  · simp [execOp, Instr.alloc, run_zero hi2 hiz, newVar, newRow]
  · exact .mp ⟨rfl, _, by rw [getElem?_set, if_pos rfl, if_pos hlt], rfl, Nat.le_refl _, fun _ _ => by simp only [upd_same]⟩
theorem stepS_one {N : Nat} (hN : X.N = N) {ops : Array Oper} {ob ob2 : List Ob} {fr0 fr : List (Nat × M)} {o : Oper} {m : M} {K : Act → World → Prop} {Q : Exit → Act → World → Prop} {a : Act} {w : World}
    (hdst : dstOK N o = true) (hstep : (guardV ops fr0 o = some false ∧ m = .tup [] ∧ ob2 = ob) ∨ (guardV ops fr0 o = some true ∧
    ((∃ f args, callOf P ob fr0 o.op = some (f, args) ∧ Den P f args ob fun r ob' => r = m ∧ ob' = ob2) ∨ (callOf P ob fr0 o.op = none ∧ (evOp P fr0 ob o.op o.type = some (m, ob2) ∨ MatS P ob ob2 o.op m)))))
    (hreads : ∀ t ∈ readsOf o ops, get fr0 t = get fr t) (hrel : Rel X ⟨fr, ob⟩ a w) (hnext : ∀ a' w', Rel X ⟨putO fr o.dst m, ob2⟩ a' w' → K a' w') : wpList P ops (Exit.then K Q) [o] a w := by
  subst hN
  have hg := guardV_congr (ops := ops) hreads
  have hr2 : ∀ t ∈ o.op.operands.toList.flatMap tmpO, get fr0 t = get fr t := fun t ht => hreads t (by unfold readsOf; simp only [List.mem_append]; exact .inl ht)
  obtain ⟨E, h1, h2, h3, h4⟩ := hrel
  have hd : ∀ t, o.dst = some t → t < X.N := fun t ht => by
    unfold dstOK at hdst; rw [ht] at hdst; simpa using hdst
  rw [hg] at hstep
  have hfin : ∀ a' w', Rel X ⟨putO fr o.dst m, ob2⟩ a' w' → wpList P ops (Exit.then K Q) [] a' w' := fun a' w' hr => hnext a' w' hr
  rcases hstep with ⟨hgf, rfl, rfl⟩ | ⟨hgt, hs⟩
  · have hw := wanted_of h1 h2 hgf
    unfold wpList
    rw [hw]
    simp only [Bool.false_eq_true, if_false]
    exact hfin _ _ (rel_put h1 h2 h3 h4 (.refl h4.heap) hd (.tup [] #[] rfl (fun j hj => by simp at hj)))
  · have hw := wanted_of h1 h2 hgt
    unfold wpList
    rw [hw]
    simp only [if_true]
    refine .inl ?_
    rw [callOf_congr hr2] at hs
    rcases hs with ⟨f, args, hc, hden⟩ | ⟨hc, hev⟩
    · obtain ⟨vals, p1, p2, hrun⟩ := callOf_run (w := w) h1 h4.heap hc
      have := hden w E vals p1 p2 h4.heap
      unfold Oper.wp
      rcases this with ⟨hok, this⟩ | ⟨v, w', hv, r, ob', E', ⟨rfl, rfl⟩, hrv, hst⟩
      · rw [hrun, run_callFunc hok, Oper.upon_enter]
        refine this.mono ?_
        rintro e w' ⟨v, rfl, r, ob', E', ⟨rfl, rfl⟩, hrv, hst⟩
        exact hfin _ _ (rel_put h1 h2 h3 h4 hst hd hrv)
      · rw [hrun, hv, Oper.upon_value]
        exact hfin _ _ (rel_put h1 h2 h3 h4 hst hd hrv)
    · rcases hev with hev | hmat
      · rw [evOp_congr hr2] at hev
        obtain ⟨v, w', E', hrun, hrv, hst⟩ := sound_op h1 h4.heap hev
        unfold Oper.wp
        rcases hrun with hrun | ⟨hrun, rfl⟩
        · rw [hrun, Oper.upon_value]
          exact hfin _ _ (rel_put h1 h2 h3 h4 hst hd hrv)
        · rw [hrun, Oper.upon_skip]
          exact hfin _ _ (rel_put h1 h2 h3 h4 hst hd hrv)
      · obtain ⟨v, w', E', hrun, hrv, hst⟩ := sound_mat (s := a) h4.heap hmat
        unfold Oper.wp
        rw [hrun, Oper.upon_value]
        exact hfin _ _ (rel_put h1 h2 h3 h4 hst hd hrv)
theorem any_ofS {l : List Oper} {ms : List M} {fr : List (Nat × M)} {obs : (Nat → Bool) → List Ob} {Q : Exit → Act → World → Prop} (hord : ordOK l = true) (hobs : ∀ p q : Nat → Bool, (∀ j, j < l.length → p j = q j) → obs p = obs q)
    (ht : ∀ (i : Nat) o (p : Nat → Bool), l[i]? = some o → p i = false → (∀ e ∈ clOf l l.length i, p e = true) → (∀ (j : Nat) oj, l[j]? = some oj → p j = true → i ∉ clOf l l.length j) → ∃ m, ms[i]? = some m ∧ StepS P X.N l.toArray (obs p) (obs fun j => p j || j == i) (frP (fun j => decide (j < i)) 0 l ms fr) o m)
    (hQ : ∀ a w, Rel X ⟨frP (fun _ => true) 0 l ms fr, obs (fun _ => true)⟩ a w → Q .normal a w) :
    ∀ (fuel : Nat) (listed : Array Bool) (a : Act) (w : World), listed.size = l.length → Closed l (fun j => listed.getD j false) → (listed.toList.filter (!·)).length ≤ fuel → Rel X ⟨frP (fun j => listed.getD j false) 0 l ms fr, obs (fun j => listed.getD j false)⟩ a w → wpAny P .any l.toArray Q fuel listed a w := by
  have done : ∀ (listed : Array Bool) (a : Act) (w : World), listed.size = l.length → Closed l (fun j => listed.getD j false) → Region.ready .any l.toArray listed = [] → Rel X ⟨frP (fun j => listed.getD j false) 0 l ms fr, obs (fun j => listed.getD j false)⟩ a w → Q .normal a w := by
    intro listed a w hsz hcl hr hrel
    have all : ∀ i, i < l.length → listed.getD i false = true := by
      intro i
      induction i using Nat.strongRecOn with
      | _ i ih =>
        intro hi
        by_cases hl : listed.getD i false = true
        · exact hl
        · exfalso
          have hmem : i ∈ Region.ready .any l.toArray listed := by
            rw [mem_ready]
            refine ⟨?_, l[i], by simp [hi], fun e he hb => ?_⟩
            · have h1 : i < listed.size := by omega
              simp only [Array.getD_eq_getD_getElem?, Array.getElem?_eq_getElem h1, Option.getD_some] at hl ⊢
              simpa using hl
            · have he' : e.on ∈ aftersOf l[i] := by
                unfold aftersOf
                simp only [List.mem_map, List.mem_filter]
                exact ⟨e, ⟨by simpa using he, hb⟩, rfl⟩
              have hlt := ord_afters hord (i := i) (o := l[i]) (by simp [hi]) _ he'
              exact ih _ hlt (by omega)
          rw [hr] at hmem
          simp at hmem
    rw [hobs _ (fun _ => true) (fun j hj => all j hj)] at hrel
    refine hQ a w (hrel.weak ⟨fun t m hg => ?_, rfl⟩)
    simp only at hg ⊢
    rw [← hg]
    exact frP_congr _ _ t l 0 ms fr fr rfl (fun j o hj _ => by
      have := all j (List.getElem?_eq_some_iff.1 hj).1
      simpa using this)
  intro fuel
  induction fuel with
  | zero =>
    intro listed a w hsz hcl hcnt hrel
    have hr : Region.ready .any l.toArray listed = [] := by
      rw [List.eq_nil_iff_forall_not_mem]
      intro i hi
      rw [mem_ready] at hi
      obtain ⟨h1, o, ho, _⟩ := hi
      have hlt : i < listed.size := by
        have := (Array.getElem?_eq_some_iff.1 ho).1
        simp at this
        omega
      have : false ∈ listed.toList.filter (!·) := by
        rw [List.mem_filter]
        simp only [Array.getD_eq_getD_getElem?, Array.getElem?_eq_getElem hlt, Option.getD_some] at h1
        exact ⟨by rw [← h1]; simp, rfl⟩
      have := List.length_pos_of_mem this
      omega
    exact ⟨hr, done listed a w hsz hcl hr hrel⟩
  | succ fuel ih =>
    intro listed a w hsz hcl hcnt hrel
    refine ⟨fun hr => done listed a w hsz hcl hr hrel, fun i hi => ?_⟩
    rw [mem_ready] at hi
    obtain ⟨h1, o, ho, hafter⟩ := hi
    have ho' : l[i]? = some o := by simpa using ho
    have hil : i < l.length := (List.getElem?_eq_some_iff.1 ho').1
    have hlt : i < listed.size := by omega
    have hni : listed.getD i false = false := by
      simp only [Array.getD_eq_getD_getElem?, Array.getElem?_eq_getElem hlt, Option.getD_some] at h1 ⊢
      exact h1
    have hafters : ∀ e ∈ aftersOf o, listed.getD e false = true := by
      intro e he
      unfold aftersOf at he
      simp only [List.mem_map, List.mem_filter] at he
      obtain ⟨x, ⟨hx, hb⟩, rfl⟩ := he
      exact hafter x (by simpa using hx) hb
    have hcli : ∀ j ∈ clOf l l.length i, listed.getD j false = true := cl_listed hcl l.length i o ho' hafters
    have hclj : ∀ (j : Nat) oj, l[j]? = some oj → listed.getD j false = true → i ∉ clOf l l.length j := by
      intro j oj hj hlj hmem
      have := cl_listed hcl l.length j oj hj (hcl j oj hj hlj) i hmem
      rw [hni] at this
      simp at this
    obtain ⟨m, hm, hdst, hstep⟩ := ht i o (fun j => listed.getD j false) ho' hni hcli hclj
    have hreads : ∀ t ∈ readsOf o l.toArray, get (frP (fun j => decide (j < i)) 0 l ms fr) t = get (frP (fun j => listed.getD j false) 0 l ms fr) t := by
      intro t hmem
      refine frP_congr _ _ t l 0 ms fr fr rfl (fun j oj hj hd => ?_)
      simp only [Nat.zero_add]
      by_cases hji : j = i
      · subst hji
        rw [hni]; simp
      · obtain ⟨p1, p2⟩ := ord_at hord ho' hj hji hd (by simp [hmem])
        by_cases hlt2 : j < i
        · rw [hcli j (p1 hlt2)]; simp [hlt2]
        · have : i < j := by omega
          have hn : listed.getD j false = false := by
            cases hb : listed.getD j false with
            | false => rfl
            | true => exact absurd (p2 this) (hclj j oj hj hb)
          rw [hn]; simp [hlt2]
    have haft : obs (fun j => (listed.setIfInBounds i true).getD j false) = obs (fun j => listed.getD j false || j == i) := hobs _ _ fun c _ => by
      simp only [Array.getD_eq_getD_getElem?, Array.getElem?_setIfInBounds]
      by_cases e : i = c
      · subst e; simp [hlt]
      · have e' : (c == i) = false := by simp; omega
        simp [e, e']
    have hnext : ∀ (a' : Act) (w' : World), Rel X ⟨putO (frP (fun j => listed.getD j false) 0 l ms fr) o.dst m, obs (fun j => listed.getD j false || j == i)⟩ a' w' → wpAny P .any l.toArray Q fuel (listed.setIfInBounds i true) a' w' := by
      intro a' w' hrel'
      have hget : ∀ j, (listed.setIfInBounds i true).getD j false = if i = j then true else listed.getD j false := by
        intro j
        simp only [Array.getD_eq_getD_getElem?, Array.getElem?_setIfInBounds]
        by_cases e : i = j
        · subst e; simp [hlt]
        · simp [e]
      refine ih _ a' w' (by simpa using hsz) (fun j oj hj hlj e he => ?_) ?_ (hrel'.weak ⟨fun t q hg => ?_, haft⟩)
      · simp only at hlj ⊢
        rw [hget] at hlj ⊢
        by_cases e1 : i = e
        · rw [if_pos e1]
        · rw [if_neg e1]
          by_cases e2 : i = j
          · subst e2
            obtain rfl := Option.some.inj (ho'.symm.trans hj)
            exact hafters e he
          · rw [if_neg e2] at hlj
            exact hcl j oj hj hlj e he
      · have h2 : listed.toList[i]? = some false := by
          rw [Array.getElem?_toList, Array.getElem?_eq_getElem hlt]
          simp only [Array.getD_eq_getD_getElem?, Array.getElem?_eq_getElem hlt, Option.getD_some] at hni
          rw [hni]
        have := cnt_set listed.toList i h2
        rw [Array.toList_setIfInBounds]
        omega
      · simp only at hg ⊢
        rw [← hg, get_putO]
        by_cases hd : o.dst = some t
        · rw [if_pos hd]
          refine (frP_last _ t l 0 ms fr i o m ho' hm hd (by rw [hget]; simp) (fun j oj hij hj hlj hdj => ?_)).symm
          rw [hget, if_neg (by omega)] at hlj
          simp only [Nat.zero_add] at hlj
          obtain ⟨_, p2⟩ := ord_at hord ho' hj (by omega) hdj (by simp [hd])
          exact hclj j oj hj hlj (p2 hij)
        · rw [if_neg hd]
          refine (frP_congr _ _ t l 0 ms fr fr rfl (fun j oj hj hdj => ?_)).symm
          rw [hget]
          by_cases e : i = 0 + j
          · have : i = j := by omega
            subst this
            obtain rfl := Option.some.inj (ho'.symm.trans hj)
            exact absurd hdj hd
          · rw [if_neg e]
    have one : wpList P l.toArray (Exit.then (wpAny P .any l.toArray Q fuel (listed.setIfInBounds i true)) Q) [o] a w :=
      stepS_one rfl hdst hstep hreads hrel (fun a' w' hr => hnext a' w' hr)
    unfold wpOp
    rw [ho]
    simp only
    unfold wpList at one
    split
    · rename_i hw
      rw [if_pos hw] at one
      exact (upon_then _ _ _ _ _).1 one
    · rename_i hw
      rw [if_neg hw] at one
      exact one


theorem awp_drawS {id : Nat} {l : List Oper} {Q : Exit → St → Prop} {s : St} (N : Nat) (hN : X.N = N) (ts : List Nat) (hm : P.follows .mixedOrders = true) (hord : ordOK l = true) (ms : List M) (obs : (Nat → Bool) → List Ob) (h0 : obs (fun _ => false) = s.ob)
    (hobs : ∀ p q : Nat → Bool, (∀ j, j < l.length → p j = q j) → obs p = obs q)
    (ht : ∀ (i : Nat) o (p : Nat → Bool), l[i]? = some o → p i = false → (∀ e ∈ clOf l l.length i, p e = true) → (∀ (j : Nat) oj, l[j]? = some oj → p j = true → i ∉ clOf l l.length j) → ∃ m, ms[i]? = some m ∧ StepS P N l.toArray (obs p) (obs fun j => p j || j == i) (frP (fun j => decide (j < i)) 0 l ms s.fr) o m)
    (h : KeepF Q ts (frP (fun _ => true) 0 l ms s.fr) (obs fun _ => true)) : Awp P X (.region id l.toArray true) Q s := fun a w hr => by
  subst hN
  refine wp_region_any hm ?_
  obtain ⟨E, h1, h2, h3, h4⟩ := hr
  have hst : Step w E s.ob { w with drawn := w.drawn + 1 } E s.ob := by
    have hext : Ext w E s.ob { w with drawn := w.drawn + 1 } E s.ob := ⟨fun b hb => ⟨hb, rfl⟩, fun i o ho => ⟨o, ho, Nat.le_refl _, rfl, fun _ => rfl, fun _ => ⟨rfl, rfl, rfl, rfl⟩⟩⟩
    exact ⟨⟨fun i o ho => (h4.heap.obj i o ho).keep hext rfl rfl (fun _ => rfl), h4.heap.inj, h4.heap.stb, h4.heap.own, h4.heap.gl.ext hext.st⟩, hext, ⟨rfl, rfl, rfl, Nat.le_refl _, fun _ _ _ => rfl, fun _ h => h, fun _ h => .inl h, fun i o ho hn => .inl ⟨i, o, ho, hn, rfl⟩⟩⟩
  have hrel : Rel X s a { w with drawn := w.drawn + 1 } := ⟨E, fun t m hg => ⟨(h1 t m hg).1, (h1 t m hg).2.keep hst.ext⟩, h2, h3, h4.trans hst⟩
  have hfalse : ∀ j, (Array.replicate l.toArray.size false).getD j false = false := fun j => by
    simp only [Array.getD_eq_getD_getElem?, Array.getElem?_replicate]
    split <;> rfl
  refine any_ofS hord hobs ht (Q := lift X Q) (fun a w hr => ⟨_, h, hr.weak (weak_keep ⟨_, _⟩ ts)⟩) _ _ _ _ (by simp) (fun i o ho hp => ?_) (by simp) ?_
  · simp only [hfalse] at hp
    simp at hp
  · simp only [hfalse]
    refine hrel.weak ⟨fun t m hg => ?_, h0⟩
    simp only at hg
    rw [frP_false _ l 0 ms s.fr (fun j _ => rfl)] at hg
    exact hg
end Go.Av
namespace Go.Av
open Go
variable {P : Program} {X : Ctx}
theorem awp_nilO {c : Code} {Q : Exit → St → Prop} {fr : List (Nat × M)} {ob : List Ob} (e sz : Nat) (h : Awp P X c Q ⟨fr, ob ++ [{ ty := e, sz := sz, nil := true, gen := 0, cs := [] }]⟩) : Awp P X c Q ⟨fr, ob⟩ := fun a w hr => by
  obtain ⟨E, h1, h2, h3, h4⟩ := hr
  have hst := step_nil h4.heap e sz
  refine h a w ⟨E, fun u m hu => ?_, h2, h3, h4.trans hst⟩
  obtain ⟨p, q⟩ := h1 u m hu
  exact ⟨p, q.keep hst.ext⟩
end Go.Av
namespace Go.Av
open Go
variable {P : Program} {X : Ctx}
theorem step_give3 {w w' : World} {E E' : Env} {ob om ext : List Ob} (hle : ob.length ≤ om.length) (hs : Step w E ob w' E' (om ++ ext)) (h0 : ∀ (i : Nat) (o : Ob) (j : Nat) (m : M), om[i]? = some o → o.iter = none → o.cs[j]? = some m → Lt om.length m) :
    Step w E ob w' { E' with st := fun b => E'.st b ∨ ∃ (i : Nat) (o : Ob), ext[i]? = some o ∧ o.nil = false ∧ b = E'.blk (om.length + i) } om := by
  obtain ⟨hh, hx, hb⟩ := hs
  have hinc : ∀ (i : Nat) (q : Ob), om[i]? = some q → (om ++ ext)[i]? = some q := fun i q hq => by
    rw [List.getElem?_append_left (List.getElem?_eq_some_iff.1 hq).1]; exact hq
  have hnew : ∀ (i : Nat) (q : Ob), ext[i]? = some q → (om ++ ext)[om.length + i]? = some q := fun i q hq => by
    rw [List.getElem?_append_right (by omega)]; simpa using hq
  have hne : ∀ (i k : Nat) (q o : Ob), om[i]? = some q → q.nil = false → ext[k]? = some o → o.nil = false → E'.blk i ≠ E'.blk (om.length + k) := fun i k q o hq hqn ho hon he => by
    have h1 := hh.inj i (om.length + k) q o (hinc i q hq) (hnew k o ho) hqn hon he
    have h2 := (List.getElem?_eq_some_iff.1 hq).1
    omega
  have hext : Ext w' E' (om ++ ext) w' { E' with st := fun b => E'.st b ∨ ∃ (i : Nat) (o : Ob), ext[i]? = some o ∧ o.nil = false ∧ b = E'.blk (om.length + i) } (om ++ ext) :=
    ⟨fun b hb => ⟨.inl hb, rfl⟩, fun i q hq => ⟨q, hq, Nat.le_refl _, rfl, fun _ => rfl, fun _ => ⟨rfl, rfl, rfl, rfl⟩⟩⟩
  refine ⟨⟨fun i q hq => ?_, fun i j oi oj hi hj ni nj he => hh.inj i j oi oj (hinc i oi hi) (hinc j oj hj) ni nj he, fun b hb => ?_, fun i q hq hn => ?_, hh.gl.ext hext.st⟩, ⟨fun b hb => ⟨.inl (hx.st b hb).1, (hx.st b hb).2⟩, fun i q hq => ?_⟩, ⟨hb.os, hb.tape, hb.output, hb.size, hb.block, fun b h => .inl (hb.st b h), fun b h => ?_, fun i q hq hn => hb.own i q (hinc i q hq) hn⟩⟩
  · have h1 := hh.obj i q (hinc i q hq)
    unfold ObOK at h1 ⊢
    split
    · rename_i q0 hit
      rw [hit] at h1
      exact ⟨(h1.1.keep hext rfl rfl).less (List.getElem?_eq_some_iff.1 hq).1, h1.2⟩
    · rename_i hit
      rw [hit] at h1
      refine ⟨h1.1, fun hn => ?_⟩
      obtain ⟨arr, lo, hi, e1, e2, e3, e4⟩ := h1.2 hn
      refine ⟨arr, lo, hi, e1, e2, e3, fun j m hm => ?_⟩
      obtain ⟨y, hy, q1, q2⟩ := e4 j m hm
      exact ⟨y, hy, q1, rep_lower (q2.keep hext) (h0 i q j m hq hit hm)⟩
  · rcases hb with hb | ⟨i, o, ho, hn, rfl⟩
    · exact hh.stb b hb
    · exact (hh.own _ o (hnew i o ho) hn).2
  · obtain ⟨a, b⟩ := hh.own i q (hinc i q hq) hn
    refine ⟨fun hs => ?_, b⟩
    rcases hs with hs | ⟨k, o, ho, hon, he⟩
    · exact a hs
    · exact hne i k q o hq hn ho hon he
  · obtain ⟨q', hq', r⟩ := hx.ob i q hq
    have hlt := (List.getElem?_eq_some_iff.1 hq).1
    have : om[i]? = some q' := by rw [← hq', List.getElem?_append_left (by omega)]
    exact ⟨q', this, r⟩
  · rcases h with h | ⟨i, o, ho, hn, rfl⟩
    · exact hb.st_of b h
    · rcases hb.own _ o (hnew i o ho) hn with h | hge
      · exact .inr (.inl h)
      · exact .inr (.inr hge)

theorem awp_drop {c : Code} {Q : Exit → St → Prop} {fr : List (Nat × M)} {S : List Ob} (om suf : List Ob) (hle : X.ob.length ≤ om.length) (hS : S = om ++ suf)
    (hfr : fr.all (fun p => ltB om.length p.2) = true) (hom : om.all (fun q => q.cs.all (ltB om.length)) = true)
    (h : Awp P X c Q ⟨fr, om⟩) : Awp P X c Q ⟨fr, S⟩ := fun a w hr => by
  obtain ⟨E, h1, h2, h3, h4⟩ := hr
  simp only at h1 h4
  subst hS
  have hst := step_give3 hle h4 fun i q j m hi hit hj => lt_of_ltB (List.all_eq_true.1 (List.all_eq_true.1 hom q (List.mem_of_getElem? hi)) m (List.mem_of_getElem? hj))
  refine h a w ⟨_, fun u m hu => ?_, h2, h3, hst⟩
  obtain ⟨p, q⟩ := h1 u m hu
  refine ⟨p, ?_⟩
  have hb := List.all_eq_true.1 hfr (u, m) (get_mem hu)
  refine rep_lower (ext := suf) (q.keep ?_) (lt_of_ltB hb)
  exact ⟨fun b hb => ⟨.inl hb, rfl⟩, fun i q hq => ⟨q, hq, Nat.le_refl _, rfl, fun _ => rfl, fun _ => ⟨rfl, rfl, rfl, rfl⟩⟩⟩
theorem Den.forget {f : FuncId} {args : List M} {ob ob2 : List Ob} {m : M} (hle : ob.length ≤ ob2.length) (hm : ltB ob2.length m = true) (hom : ob2.all (fun q => q.cs.all (ltB ob2.length)) = true) (h : Den P f args ob fun r ob' => r = m ∧ ∃ e, ob' = ob2 ++ e) : Den P f args ob fun r ob' => r = m ∧ ob' = ob2 := by
  intro w E vals h1 h2 h3
  refine (h w E vals h1 h2 h3).mono ?_
  rintro v w' ⟨r, ob', E', ⟨rfl, e, rfl⟩, hr, hs⟩
  have hst := step_give3 hle hs fun i q j m hi hit hj => lt_of_ltB (List.all_eq_true.1 (List.all_eq_true.1 hom q (List.mem_of_getElem? hi)) m (List.mem_of_getElem? hj))
  refine ⟨_, _, _, ⟨rfl, rfl⟩, rep_lower (ext := e) (hr.keep ?_) (lt_of_ltB hm), hst⟩
  exact ⟨fun b hb => ⟨.inl hb, rfl⟩, fun i q hq => ⟨q, hq, Nat.le_refl _, rfl, fun _ => rfl, fun _ => ⟨rfl, rfl, rfl, rfl⟩⟩⟩
end Go.Av
namespace Go.Av
open Go
variable {P : Program} {X : Ctx}
end Go.Av

/- Heaps in rows, as container/heap keeps them: plain laws. -/
set_option linter.unusedVariables false
set_option linter.unusedSectionVars false
namespace Go.Hp
variable {α : Type} [Inhabited α]

def at' (l : List α) (i : Nat) : α := l.getD i default
theorem at'_of {l : List α} {i : Nat} {x : α} (h : l[i]? = some x) : at' l i = x := by simp [at', List.getD, h]
theorem at'_some {l : List α} {i : Nat} (h : i < l.length) : l[i]? = some (at' l i) := by simp [at', List.getD, h]
def swp (l : List α) (i j : Nat) : List α := (l.set i (at' l j)).set j (at' l i)
theorem swp_len (l : List α) (i j : Nat) : (swp l i j).length = l.length := by simp [swp]
theorem swp_perm (l : List α) {i j : Nat} (hi : i < l.length) (hj : j < l.length) : (swp l i j).Perm l := by
  have := List.set_set_perm (as := l) hi hj
  unfold swp
  rw [at'_of (List.getElem?_eq_getElem hi), at'_of (List.getElem?_eq_getElem hj)]
  exact this
theorem swp_at (l : List α) {i j k : Nat} (hi : i < l.length) (hj : j < l.length) : at' (swp l i j) k = if k = j then at' l i else if k = i then at' l j else at' l k := by
  unfold swp
  by_cases hk : k < l.length
  · refine at'_of ?_
    rw [List.getElem?_set, List.getElem?_set]
    simp only [List.length_set]
    by_cases h1 : k = j
    · subst h1; simp [hj]
    · by_cases h2 : k = i
      · subst h2; simp [hi, Ne.symm h1, h1]
      · simp [Ne.symm h1, Ne.symm h2, h1, h2, at'_some hk]
  · have h1 : k ≠ j := by omega
    have h2 : k ≠ i := by omega
    have e : ∀ m : List α, m.length = l.length → at' m k = default := fun m hm => by
      simp [at', List.getD, List.getElem?_eq_none (show m.length ≤ k by omega)]
    rw [if_neg h1, if_neg h2, e _ (by simp), e l rfl]

variable (lt : α → α → Bool)
structure Ord : Prop where
  tr : ∀ a b c, lt b a = false → lt c b = false → lt c a = false
  tot : ∀ a b, lt b a = false ∨ lt a b = false
variable {lt}
theorem Ord.of_lt (O : Ord lt) {a b : α} (h : lt a b = true) : lt b a = false := by
  rcases O.tot a b with h1 | h1
  · exact h1
  · rw [h] at h1; simp at h1
theorem Ord.refl (O : Ord lt) (a : α) : lt a a = false := (O.tot a a).elim id id

def par (i : Nat) : Nat := (i - 1) / 2
variable (lt)
def Heap (l : List α) (n : Nat) : Prop := ∀ i, 0 < i → i < n → lt (at' l i) (at' l (par i)) = false
def InvUp (l : List α) (j : Nat) : Prop := (∀ i, 0 < i → i < l.length → i ≠ j → lt (at' l i) (at' l (par i)) = false) ∧ (∀ i, 0 < i → i < l.length → par i = j → 0 < j → lt (at' l i) (at' l (par j)) = false)
def InvDn (l : List α) (i n : Nat) : Prop := (∀ k, 0 < k → k < n → par k ≠ i → lt (at' l k) (at' l (par k)) = false) ∧ (∀ k, 0 < k → k < n → par k = i → 0 < i → lt (at' l k) (at' l (par i)) = false)
variable {lt}
theorem heap_root (O : Ord lt) {l : List α} {n : Nat} (h : Heap lt l n) : ∀ i, i < n → lt (at' l i) (at' l 0) = false := by
  intro i
  induction i using Nat.strongRecOn with
  | _ i ih =>
    intro hi
    by_cases h0 : i = 0
    · subst h0; exact O.refl _
    · have hp : par i < i := by unfold par; omega
      exact O.tr _ _ _ (ih (par i) hp (by omega)) (h i (by omega) hi)
theorem up_start {l : List α} {x : α} (h : Heap lt l l.length) : InvUp lt (l ++ [x]) l.length := by
  refine ⟨fun i h0 hi hne => ?_, fun i h0 hi hp _ => ?_⟩
  · rw [List.length_append] at hi
    have hi' : i < l.length := by simp at hi; omega
    have e : ∀ k, k < l.length → at' (l ++ [x]) k = at' l k := fun k hk => at'_of (by rw [List.getElem?_append_left hk]; exact at'_some hk)
    rw [e i hi', e _ (by unfold par; omega)]
    exact h i h0 hi'
  · rw [List.length_append] at hi
    simp at hi
    unfold par at hp; omega
theorem up_end {l : List α} {j : Nat} (h : InvUp lt l j) (hj : j < l.length) (hx : par j = j ∨ lt (at' l j) (at' l (par j)) = false) : Heap lt l l.length := by
  intro i h0 hi
  by_cases hij : i = j
  · subst hij
    rcases hx with hx | hx
    · unfold par at hx; omega
    · exact hx
  · exact h.1 i h0 hi hij
theorem up_step (O : Ord lt) {l : List α} {j : Nat} (h : InvUp lt l j) (hj : j < l.length) (hlt : lt (at' l j) (at' l (par j)) = true) : InvUp lt (swp l (par j) j) (par j) ∧ par j < j := by
  have hj0 : 0 < j := by
    by_cases e : j = 0
    · subst e
      rw [show par 0 = 0 from rfl, O.refl] at hlt
      simp at hlt
    · omega
  have hpj : par j < j := by unfold par; omega
  have hpl : par j < l.length := by omega
  refine ⟨⟨fun i h0 hi hne => ?_, fun i h0 hi hp hp0 => ?_⟩, hpj⟩
  · rw [swp_len] at hi
    have hpi : par i < i := by unfold par; omega
    rw [swp_at l hpl hj, swp_at l hpl hj]
    by_cases e1 : i = j
    · subst e1
      rw [if_pos rfl, if_neg (by omega), if_pos rfl]
      exact O.of_lt hlt
    · rw [if_neg e1, if_neg hne]
      by_cases e2 : par i = j
      · rw [if_pos e2]
        exact h.2 i h0 hi e2 hj0
      · rw [if_neg e2]
        by_cases e3 : par i = par j
        · rw [if_pos e3]
          have := h.1 i h0 hi e1
          rw [e3] at this
          exact O.tr _ _ _ (O.of_lt hlt) this
        · rw [if_neg e3]
          exact h.1 i h0 hi e1
  · rw [swp_len] at hi
    have hpp : par (par j) < par j := by unfold par at *; omega
    have hpi : par i < i := by unfold par; omega
    rw [swp_at l hpl hj, swp_at l hpl hj, if_neg (show par (par j) ≠ j by omega), if_neg (show par (par j) ≠ par j by omega)]
    have hq := h.1 (par j) hp0 hpl (by omega)
    by_cases e1 : i = j
    · subst e1
      rw [if_pos rfl]
      exact hq
    · rw [if_neg e1, if_neg (by omega)]
      have := h.1 i h0 hi e1
      rw [hp] at this
      exact O.tr _ _ _ hq this
theorem dn_end {l : List α} {i n : Nat} (h : InvDn lt l i n) (hx : ∀ k, 0 < k → k < n → par k = i → lt (at' l k) (at' l i) = false) : Heap lt l n := by
  intro k h0 hk
  by_cases e : par k = i
  · rw [e]; exact hx k h0 hk e
  · exact h.1 k h0 hk e
theorem dn_step (O : Ord lt) {l : List α} {i n j : Nat} (h : InvDn lt l i n) (hn : n ≤ l.length) (hi : i < n) (hj : j < n) (hj0 : 0 < j) (hp : par j = i) (hmin : ∀ k, 0 < k → k < n → par k = i → lt (at' l k) (at' l j) = false) (hlt : lt (at' l j) (at' l i) = true) :
    InvDn lt (swp l i j) j n := by
  have hij : i < j := by rw [← hp]; unfold par; omega
  refine ⟨fun k h0 hk hne => ?_, fun k h0 hk hpk _ => ?_⟩
  · have hpk : par k < k := by unfold par; omega
    rw [swp_at l (by omega) (by omega), swp_at l (by omega) (by omega)]
    rw [if_neg hne]
    by_cases e1 : par k = i
    · rw [if_pos e1]
      by_cases e2 : k = j
      · rw [if_pos e2]; exact O.of_lt hlt
      · rw [if_neg e2, if_neg (by omega)]
        exact hmin k h0 hk e1
    · rw [if_neg e1]
      by_cases e2 : k = j
      · subst e2; exact absurd hp e1
      · rw [if_neg e2]
        by_cases e3 : k = i
        · subst e3
          rw [if_pos rfl]
          exact h.2 j hj0 hj hp h0
        · rw [if_neg e3]
          exact h.1 k h0 hk e1
  · have hpk' : par k < k := by unfold par; omega
    rw [swp_at l (by omega) (by omega), swp_at l (by omega) (by omega), hp, if_neg (by omega), if_neg (by omega), if_neg (by omega), if_pos rfl]
    have := h.1 k h0 hk (by omega)
    rw [hpk] at this
    exact this
end Go.Hp

/- The order of texts by their bytes; heaps put to use: what comes out of one is sorted. -/
set_option linter.unusedVariables false
set_option linter.unusedSectionVars false
namespace Go.Hp
open Go
theorem bl_irr : ∀ a : List UInt8, Op.bytesLess a a = false
  | [] => rfl
  | x :: a => by simp [Op.bytesLess, bl_irr a]
theorem bl_asym : ∀ a b : List UInt8, Op.bytesLess a b = true → Op.bytesLess b a = false
  | _, [], h => by simp [Op.bytesLess] at h
  | [], y :: b, _ => rfl
  | x :: a, y :: b, h => by
    simp only [Op.bytesLess, Bool.or_eq_true, decide_eq_true_eq, Bool.and_eq_true, beq_iff_eq] at h
    simp only [Op.bytesLess, Bool.or_eq_false_iff, decide_eq_false_iff_not, Bool.and_eq_false_iff]
    rcases h with h | ⟨rfl, h⟩
    · exact ⟨fun h' => absurd (UInt8.lt_trans h h') (UInt8.lt_irrefl _), .inl (by simp; intro e; subst e; exact absurd h (UInt8.lt_irrefl _))⟩
    · exact ⟨UInt8.lt_irrefl _, .inr (bl_asym a b h)⟩
theorem bl_eq : ∀ a b : List UInt8, Op.bytesLess a b = false → Op.bytesLess b a = false → a = b
  | [], [], _, _ => rfl
  | [], _ :: _, h, _ => by simp [Op.bytesLess] at h
  | _ :: _, [], _, h => by simp [Op.bytesLess] at h
  | x :: a, y :: b, h, h' => by
    simp only [Op.bytesLess, Bool.or_eq_false_iff, decide_eq_false_iff_not, Bool.and_eq_false_iff, beq_eq_false_iff_ne] at h h'
    have e : x = y := UInt8.le_antisymm (UInt8.not_lt.1 h'.1) (UInt8.not_lt.1 h.1)
    subst e
    rw [bl_eq a b (h.2.resolve_left (by simp)) (h'.2.resolve_left (by simp))]
theorem bl_trans : ∀ a b c : List UInt8, Op.bytesLess a b = true → Op.bytesLess b c = true → Op.bytesLess a c = true
  | _, [], _, h, _ => by simp [Op.bytesLess] at h
  | _, _ :: _, [], _, h => by simp [Op.bytesLess] at h
  | [], _ :: _, _ :: _, _, _ => rfl
  | x :: a, y :: b, z :: c, h, h' => by
    simp only [Op.bytesLess, Bool.or_eq_true, decide_eq_true_eq, Bool.and_eq_true, beq_iff_eq] at h h' ⊢
    rcases h with h | ⟨rfl, h⟩
    · rcases h' with h' | ⟨rfl, _⟩
      · exact .inl (UInt8.lt_trans h h')
      · exact .inl h
    · rcases h' with h' | ⟨rfl, h'⟩
      · exact .inl h'
      · exact .inr ⟨rfl, bl_trans a b c h h'⟩
variable {α : Type} [Inhabited α] (lt : α → α → Bool)
def upF : Nat → List α → Nat → List α
  | 0, l, _ => l
  | f + 1, l, j => if par j = j then l else if lt (at' l j) (at' l (par j)) = true then upF f (swp l (par j) j) (par j) else l
def pushL (l : List α) (x : α) : List α := upF lt (l.length + 1) (l ++ [x]) l.length
def child (l : List α) (n i : Nat) : Nat := if 2 * i + 1 + 1 < n then (if lt (at' l (2 * i + 1 + 1)) (at' l (2 * i + 1)) = true then 2 * i + 1 + 1 else 2 * i + 1) else 2 * i + 1
def dnF (n : Nat) : Nat → List α → Nat → List α
  | 0, l, _ => l
  | f + 1, l, i => if n ≤ 2 * i + 1 then l else if lt (at' l (child lt l n i)) (at' l i) = true then dnF n f (swp l i (child lt l n i)) (child lt l n i) else l
def popL (l : List α) (n : Nat) : List α := dnF lt n (n + 1) (swp l 0 n) 0
variable {lt}
theorem par_lt {j : Nat} (h : ¬ par j = j) : par j < j := by unfold par at *; omega
theorem upF_len (f : Nat) : ∀ (l : List α) (j : Nat), (upF lt f l j).length = l.length := by
  induction f with
  | zero => intro l j; rfl
  | succ f ih =>
    intro l j
    unfold upF
    split
    · rfl
    · split
      · rw [ih, swp_len]
      · rfl
theorem upF_ok (O : Ord lt) (f : Nat) : ∀ (l : List α) (j : Nat), j < f → j < l.length → InvUp lt l j → Heap lt (upF lt f l j) l.length ∧ (upF lt f l j).Perm l := by
  induction f with
  | zero => intro l j h; omega
  | succ f ih =>
    intro l j hf hj hi
    unfold upF
    split
    · rename_i h
      exact ⟨up_end hi hj (.inl h), .refl _⟩
    · rename_i h
      split
      · rename_i hlt
        obtain ⟨h1, h2⟩ := up_step O hi hj hlt
        obtain ⟨k1, k2⟩ := ih (swp l (par j) j) (par j) (by omega) (by rw [swp_len]; omega) h1
        rw [swp_len] at k1
        exact ⟨k1, k2.trans (swp_perm l (by omega) hj)⟩
      · rename_i hlt
        exact ⟨up_end hi hj (.inr (by simpa using hlt)), .refl _⟩
theorem pushL_ok (O : Ord lt) {l : List α} {x : α} (h : Heap lt l l.length) : Heap lt (pushL lt l x) (l.length + 1) ∧ (pushL lt l x).Perm (l ++ [x]) ∧ (pushL lt l x).length = l.length + 1 := by
  obtain ⟨h1, h2⟩ := upF_ok O (l.length + 1) (l ++ [x]) l.length (by omega) (by simp) (up_start h)
  rw [List.length_append] at h1
  exact ⟨h1, h2, by unfold pushL; rw [upF_len]; simp⟩
theorem child_of (l : List α) (n i : Nat) (h : 2 * i + 1 < n) : child lt l n i < n ∧ 0 < child lt l n i ∧ par (child lt l n i) = i ∧ i < child lt l n i := by
  unfold child par
  split
  · split <;> omega
  · omega
theorem child_min (O : Ord lt) (l : List α) (n i : Nat) : ∀ k, 0 < k → k < n → par k = i → lt (at' l k) (at' l (child lt l n i)) = false := by
  intro k h0 hk hp
  have hk2 : k = 2 * i + 1 ∨ k = 2 * i + 1 + 1 := by unfold par at hp; omega
  unfold child
  split
  · split
    · rename_i h
      rcases hk2 with rfl | rfl
      · exact O.of_lt h
      · exact O.refl _
    · rename_i h
      rcases hk2 with rfl | rfl
      · exact O.refl _
      · simpa using h
  · rcases hk2 with rfl | rfl
    · exact O.refl _
    · omega
theorem dnF_len (n f : Nat) : ∀ (l : List α) (i : Nat), (dnF lt n f l i).length = l.length := by
  induction f with
  | zero => intro l j; rfl
  | succ f ih =>
    intro l j
    unfold dnF
    split
    · rfl
    · split
      · rw [ih, swp_len]
      · rfl
theorem perm_take_swp (l : List α) {n i j : Nat} (hn : n ≤ l.length) (hi : i < n) (hj : j < n) : ((swp l i j).take n).Perm (l.take n) ∧ ∀ k, n ≤ k → at' (swp l i j) k = at' l k := by
  refine ⟨?_, fun k hk => by rw [swp_at l (by omega) (by omega), if_neg (by omega), if_neg (by omega)]⟩
  have e : (swp l i j).take n = swp (l.take n) i j := by
    have ea : ∀ k, k < n → at' (l.take n) k = at' l k := fun k hk => at'_of (by rw [List.getElem?_take_of_lt hk]; exact at'_some (by omega))
    unfold swp
    rw [ea i hi, ea j hj, List.take_set, List.take_set]
  rw [e]
  exact swp_perm _ (by simp; omega) (by simp; omega)
theorem dnF_ok (O : Ord lt) (n f : Nat) : ∀ (l : List α) (i : Nat), n ≤ i + f → n ≤ l.length → (0 < n → i < n) → InvDn lt l i n → Heap lt (dnF lt n f l i) n ∧ ((dnF lt n f l i).take n).Perm (l.take n) ∧ ∀ k, n ≤ k → at' (dnF lt n f l i) k = at' l k := by
  induction f with
  | zero =>
    intro l i h1 h2 h3 h
    have : n = 0 := by omega
    subst this
    exact ⟨fun k _ hk => by omega, .refl _, fun k _ => rfl⟩
  | succ f ih =>
    intro l i h1 h2 h3 h
    unfold dnF
    split
    · rename_i hle
      exact ⟨dn_end h (fun k h0 hk hp => by unfold par at hp; omega), .refl _, fun k _ => rfl⟩
    · rename_i hle
      obtain ⟨c1, c2, c3, c4⟩ := child_of (lt := lt) l n i (by omega)
      split
      · rename_i hlt
        have hs := dn_step O h h2 (by omega) c1 c2 c3 (child_min O l n i) hlt
        obtain ⟨k1, k2, k3⟩ := ih (swp l i (child lt l n i)) (child lt l n i) (by omega) (by rw [swp_len]; exact h2) (fun _ => c1) hs
        obtain ⟨p1, p2⟩ := perm_take_swp l h2 (show i < n by omega) c1
        exact ⟨k1, k2.trans p1, fun k hk => (k3 k hk).trans (p2 k hk)⟩
      · rename_i hlt
        refine ⟨dn_end h (fun k h0 hk hp => ?_), .refl _, fun k _ => rfl⟩
        have := child_min O l n i k h0 hk hp
        exact O.tr _ _ _ (by simpa using hlt) this
theorem popL_len (l : List α) (n : Nat) : (popL lt l n).length = l.length := by unfold popL; rw [dnF_len, swp_len]
theorem popL_ok (O : Ord lt) {l : List α} {n : Nat} (hn : n + 1 ≤ l.length) (h : Heap lt l (n + 1)) :
    Heap lt (popL lt l n) n ∧ at' (popL lt l n) n = at' l 0 ∧ ((popL lt l n).take n ++ [at' l 0]).Perm (l.take (n + 1)) ∧ ∀ x ∈ l.take (n + 1), lt x (at' l 0) = false := by
  have hd : InvDn lt (swp l 0 n) 0 n := by
    refine ⟨fun k h0 hk hp => ?_, fun k _ _ _ h => by omega⟩
    have hpk : par k < k := by unfold par; omega
    rw [swp_at l (by omega) (by omega), swp_at l (by omega) (by omega), if_neg (by omega), if_neg (by omega), if_neg (by omega), if_neg hp]
    exact h k h0 (by omega)
  obtain ⟨h1, h2, h3⟩ := dnF_ok O n (n + 1) (swp l 0 n) 0 (by omega) (by rw [swp_len]; omega) (by omega) hd
  have e0 : at' (popL lt l n) n = at' l 0 := by
    unfold popL
    rw [h3 n (Nat.le_refl _), swp_at l (by omega) (by omega), if_pos rfl]
  have e1 : (swp l 0 n).take (n + 1) = (swp l 0 n).take n ++ [at' l 0] := by
    rw [List.take_add_one, at'_some (by rw [swp_len]; omega), swp_at l (by omega) (by omega), if_pos rfl]
    rfl
  refine ⟨h1, e0, ?_, fun x hx => ?_⟩
  · have hp := (perm_take_swp l hn (show 0 < n + 1 by omega) (show n < n + 1 by omega)).1
    rw [e1] at hp
    exact (h2.append (.refl _)).trans hp
  · obtain ⟨k, hk⟩ := List.getElem?_of_mem hx
    have hlt := (List.getElem?_eq_some_iff.1 hk).1
    rw [List.length_take] at hlt
    rw [List.getElem?_take_of_lt (by omega)] at hk
    rw [← at'_of hk]
    exact heap_root O h k (by omega)
structure Out (lt : α → α → Bool) (l0 o l : List α) (n : Nat) : Prop where
  heap : Heap lt l n
  len : n ≤ l.length
  perm : (o ++ l.take n).Perm l0
  sorted : o.Pairwise fun a b => lt b a = false
  low : ∀ a ∈ o, ∀ b ∈ l.take n, lt b a = false
theorem out_start {l : List α} (h : Heap lt l l.length) {l0 : List α} (hp : l.Perm l0) : Out lt l0 [] l l.length := ⟨h, Nat.le_refl _, by simpa using hp, .nil, fun a h => by simp at h⟩
theorem out_step (O : Ord lt) {l0 o l : List α} {n : Nat} (h : Out lt l0 o l (n + 1)) : Out lt l0 (o ++ [at' l 0]) (popL lt l n) n ∧ at' (popL lt l n) n = at' l 0 := by
  obtain ⟨h1, h2, h3, h4⟩ := popL_ok O h.len h.heap
  have hmem : ∀ x ∈ (popL lt l n).take n, x ∈ l.take (n + 1) := fun x hx => h3.subset (List.mem_append_left _ hx)
  have h0 : at' l 0 ∈ l.take (n + 1) := h3.subset (List.mem_append_right _ (by simp))
  refine ⟨⟨h1, by rw [popL_len]; have := h.len; omega, ?_, ?_, ?_⟩, h2⟩
  · rw [List.append_assoc]
    exact ((List.Perm.refl o).append ((List.perm_append_comm).trans h3)).trans h.perm
  · rw [List.pairwise_append]
    exact ⟨h.sorted, List.pairwise_singleton _ _, fun a ha b hb => by simp at hb; subst hb; exact h.low a ha _ h0⟩
  · intro a ha b hb
    rcases List.mem_append.1 ha with ha | ha
    · exact h.low a ha b (hmem b hb)
    · simp at ha; subst ha
      exact h4 b (hmem b hb)
theorem out_end {l0 o l : List α} (h : Out lt l0 o l 0) : o.Perm l0 ∧ o.Pairwise fun a b => lt b a = false := ⟨by simpa using h.perm, h.sorted⟩
theorem sorted_one (hant : ∀ a b, lt a b = false → lt b a = false → a = b) {a b : List α} (ha : a.Pairwise fun x y => lt y x = false) (hb : b.Pairwise fun x y => lt y x = false) (h : a.Perm b) : a = b :=
  h.eq_of_pairwise (fun x y _ _ h1 h2 => hant x y h2 h1) ha hb
end Go.Hp

/- An argument that reads as a struct is opened field by field. -/
set_option linter.unusedVariables false
namespace Go.Av
open Go
variable {P : Program}
def Seg (P : Program) (t : TypeId) (off k : Nat) {A : Type} (enc : A → List C) (Hyp : A → Prop) : Prop :=
  ∀ (H : Type) (e0 : TypeId × Value → H) (W : World) (fuel : Nat) (cs : List Value) (x : DataW H × List MemPlace), DataW.trod e0 P W 0 (fun _ => true) true fuel t cs = some x → ∃ a, Hyp a ∧ Reads W (enc a) ((cs.drop off).take k)
theorem seg_field {t q : TypeId} {fs : Array Field} (i off k : Nat) (ht : P.underlying t = some (.struct fs)) (hf : (fs[i]?).map (fun f => (f.offset, f.type)) = some (off, q)) (hk : P.cellsOf q = k) {A : Type} {enc : A → List C} {Hyp : A → Prop} (h : Opens P q enc Hyp) : Seg P t off k enc Hyp := fun H e0 W fuel cs x hx => by
  obtain ⟨xs, m, _, _, hlen, hxl, hel⟩ := DataW.trod_struct ht hx
  rw [Option.map_eq_some_iff] at hf
  obtain ⟨f, hf, he⟩ := hf
  simp only [Prod.mk.injEq] at he
  obtain ⟨rfl, rfl⟩ := he
  have hlt := (Array.getElem?_eq_some_iff.1 hf).1
  have h1 := hel i f hf
  rw [List.getElem?_eq_getElem (by omega)] at h1
  rw [← hk]
  exact h H e0 W _ _ _ h1
theorem reads_join {W : World} {es1 es2 : List C} {cs : List Value} (k : Nat) (h1 : Reads W es1 (cs.take k)) (h2 : Reads W es2 (cs.drop k)) (hk : es1.length = k) : Reads W (es1 ++ es2) cs := by
  have hl : k ≤ cs.length := by
    have := h1.1
    rw [hk, List.length_take] at this
    omega
  refine ⟨?_, fun j c y hc hy => ?_⟩
  · have := h2.1
    rw [List.length_drop] at this
    rw [List.length_append]
    omega
  · by_cases hj : j < k
    · rw [List.getElem?_append_left (by omega)] at hc
      exact h1.2 j c y hc (by rw [List.getElem?_take_of_lt hj]; exact hy)
    · rw [List.getElem?_append_right (by omega), hk] at hc
      exact h2.2 (j - k) c y hc (by rw [List.getElem?_drop, show k + (j - k) = j by omega]; exact hy)
theorem Seg.app {t : TypeId} {off k1 k2 : Nat} {A B : Type} {enc1 : A → List C} {enc2 : B → List C} {H1 : A → Prop} {H2 : B → Prop} (h1 : Seg P t off k1 enc1 H1) (h2 : Seg P t (off + k1) k2 enc2 H2) (hl : ∀ a, (enc1 a).length = k1) :
    Seg P t off (k1 + k2) (fun p : A × B => enc1 p.1 ++ enc2 p.2) (fun p => H1 p.1 ∧ H2 p.2) := fun H e0 W fuel cs x hx => by
  obtain ⟨a, ha, ra⟩ := h1 H e0 W fuel cs x hx
  obtain ⟨b, hb, rb⟩ := h2 H e0 W fuel cs x hx
  refine ⟨(a, b), ⟨ha, hb⟩, reads_join k1 ?_ ?_ (hl a)⟩
  · rw [List.take_take, Nat.min_eq_left (by omega)]; exact ra
  · rw [List.drop_take, List.drop_drop, show k1 + k2 - k1 = k2 by omega]
    exact rb
theorem Seg.opens {t : TypeId} {fs : Array Field} {n : Nat} {A : Type} {enc : A → List C} {Hyp : A → Prop} (h : Seg P t 0 n enc Hyp) (ht : P.underlying t = some (.struct fs)) (hn : P.cellsOf t = n) : Opens P t enc Hyp := fun H e0 W fuel cs x hx => by
  obtain ⟨xs, m, _, _, hlen, _, _⟩ := DataW.trod_struct ht hx
  obtain ⟨a, ha, ra⟩ := h H e0 W fuel cs x hx
  refine ⟨a, ha, ?_⟩
  rw [List.drop_zero, List.take_of_length_le (by omega)] at ra
  exact ra
end Go.Av
