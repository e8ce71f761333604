/- A region that draws its order, where changes of objects need not stand in order with all else: what the objects are is told of each set of operations that may have been carried out. -/
import Derived.Test.YtofomnllcmgfeaaAv35
set_option linter.unusedVariables false
set_option linter.unusedSimpArgs false
namespace Go.Av
open Go
variable {P : Program} {X : Ctx}

/-- A new variable, into a place that was kept for it. -/
def MatS (P : Program) (ob ob2 : List Ob) (op : Op) (m : M) : Prop :=
  ∃ e zs idx, op = .alloc e ∧ zeroT P e = some zs ∧ ob[idx]? = some { ty := e, sz := szOb P e, nil := true, gen := 0, cs := [] } ∧ m = .mp idx 1 0 ∧ ob2 = ob.set idx { ty := e, sz := szOb P e, nil := false, gen := 1, cs := zs }
def StepS (P : Program) (N : Nat) (ops : Array Oper) (ob ob2 : List Ob) (fr : List (Nat × M)) (o : Oper) (m : M) : Prop :=
  dstOK N o = true ∧ ((guardV ops fr o = some false ∧ m = .tup [] ∧ ob2 = ob) ∨ (guardV ops fr o = some true ∧
    ((∃ f args, callOf P ob fr o.op = some (f, args) ∧ Den P f args ob fun r ob' => r = m ∧ ob' = ob2) ∨ (callOf P ob fr o.op = none ∧ (evOp P fr ob o.op o.type = some (m, ob2) ∨ MatS P ob ob2 o.op m)))))
theorem sound_mat {w : World} {E : Env} {ob ob2 : List Ob} {s : Act} (hh : HeapOK w E ob) {o : Oper} {m : M} (h : MatS P ob ob2 o.op m) :
    ∃ v w' E', (execOp s.eval o).run P w = .ok (.value v) w' ∧ RepM w' E' ob2 m v ∧ Step w E ob w' E' ob2 := by
  obtain ⟨dst, op, ty, pos, after, guard⟩ := o
  obtain ⟨e, zs, idx, rfl, hz, hi, rfl, rfl⟩ := h
  obtain ⟨i, z, hi2, hiz, c1, c2, c3⟩ := cells_zero (w := w) (E := E) (ob := ob) hz
  have hlt := (List.getElem?_eq_some_iff.1 hi).1
  refine ⟨.pointer (some ⟨w.heap.size, 0, none⟩), { w with heap := w.heap.push (.cells z.cells e) }, _, ?_, ?_, step_move hh hi rfl zs 1 (by simp) z.cells e rfl c3 rfl rfl rfl rfl⟩
  · simp [execOp, Instr.alloc, run_zero hi2 hiz, newVar, newRow]
  · exact .mp ⟨rfl, _, by rw [getElem?_set, if_pos rfl, if_pos hlt], rfl, Nat.le_refl _, fun _ _ => by simp only [upd_same]⟩
theorem stepS_one {N : Nat} (hN : X.N = N) {ops : Array Oper} {ob ob2 : List Ob} {fr0 fr : List (Nat × M)} {o : Oper} {m : M} {K : Act → World → Prop} {Q : Exit → Act → World → Prop} {a : Act} {w : World}
    (hdst : dstOK N o = true) (hstep : (guardV ops fr0 o = some false ∧ m = .tup [] ∧ ob2 = ob) ∨ (guardV ops fr0 o = some true ∧
    ((∃ f args, callOf P ob fr0 o.op = some (f, args) ∧ Den P f args ob fun r ob' => r = m ∧ ob' = ob2) ∨ (callOf P ob fr0 o.op = none ∧ (evOp P fr0 ob o.op o.type = some (m, ob2) ∨ MatS P ob ob2 o.op m)))))
    (hreads : ∀ t ∈ readsOf o ops, get fr0 t = get fr t) (hrel : Rel X ⟨fr, ob⟩ a w) (hnext : ∀ a' w', Rel X ⟨putO fr o.dst m, ob2⟩ a' w' → K a' w') : wpList P ops (Exit.then K Q) [o] a w := by
  subst hN
  have hg := guardV_congr (ops := ops) hreads
  have hr2 : ∀ t ∈ o.op.operands.toList.flatMap tmpO, get fr0 t = get fr t := fun t ht => hreads t (by unfold readsOf; simp only [List.mem_append]; exact .inl ht)
  obtain ⟨E, h1, h2, h3, h4⟩ := hrel
  have hd : ∀ t, o.dst = some t → t < X.N := fun t ht => by
    unfold dstOK at hdst; rw [ht] at hdst; simpa using hdst
  rw [hg] at hstep
  have hfin : ∀ a' w', Rel X ⟨putO fr o.dst m, ob2⟩ a' w' → wpList P ops (Exit.then K Q) [] a' w' := fun a' w' hr => hnext a' w' hr
  rcases hstep with ⟨hgf, rfl, rfl⟩ | ⟨hgt, hs⟩
  · have hw := wanted_of h1 h2 hgf
    unfold wpList
    rw [hw]
    simp only [Bool.false_eq_true, if_false]
    exact hfin _ _ (rel_put h1 h2 h3 h4 (.refl h4.heap) hd (.tup [] #[] rfl (fun j hj => by simp at hj)))
  · have hw := wanted_of h1 h2 hgt
    unfold wpList
    rw [hw]
    simp only [if_true]
    refine .inl ?_
    rw [callOf_congr hr2] at hs
    rcases hs with ⟨f, args, hc, hden⟩ | ⟨hc, hev⟩
    · obtain ⟨vals, p1, p2, hrun⟩ := callOf_run (w := w) h1 h4.heap hc
      have := hden w E vals p1 p2 h4.heap
      unfold Oper.wp
      rcases this with ⟨hok, this⟩ | ⟨v, w', hv, r, ob', E', ⟨rfl, rfl⟩, hrv, hst⟩
      · rw [hrun, run_callFunc hok, Oper.upon_enter]
        refine this.mono ?_
        rintro e w' ⟨v, rfl, r, ob', E', ⟨rfl, rfl⟩, hrv, hst⟩
        exact hfin _ _ (rel_put h1 h2 h3 h4 hst hd hrv)
      · rw [hrun, hv, Oper.upon_value]
        exact hfin _ _ (rel_put h1 h2 h3 h4 hst hd hrv)
    · rcases hev with hev | hmat
      · rw [evOp_congr hr2] at hev
        obtain ⟨v, w', E', hrun, hrv, hst⟩ := sound_op h1 h4.heap hev
        unfold Oper.wp
        rcases hrun with hrun | ⟨hrun, rfl⟩
        · rw [hrun, Oper.upon_value]
          exact hfin _ _ (rel_put h1 h2 h3 h4 hst hd hrv)
        · rw [hrun, Oper.upon_skip]
          exact hfin _ _ (rel_put h1 h2 h3 h4 hst hd hrv)
      · obtain ⟨v, w', E', hrun, hrv, hst⟩ := sound_mat (s := a) h4.heap hmat
        unfold Oper.wp
        rw [hrun, Oper.upon_value]
        exact hfin _ _ (rel_put h1 h2 h3 h4 hst hd hrv)
theorem any_ofS {l : List Oper} {ms : List M} {fr : List (Nat × M)} {obs : (Nat → Bool) → List Ob} {Q : Exit → Act → World → Prop} (hord : ordOK l = true) (hobs : ∀ p q : Nat → Bool, (∀ j, j < l.length → p j = q j) → obs p = obs q)
    (ht : ∀ (i : Nat) o (p : Nat → Bool), l[i]? = some o → p i = false → (∀ e ∈ clOf l l.length i, p e = true) → (∀ (j : Nat) oj, l[j]? = some oj → p j = true → i ∉ clOf l l.length j) → ∃ m, ms[i]? = some m ∧ StepS P X.N l.toArray (obs p) (obs fun j => p j || j == i) (frP (fun j => decide (j < i)) 0 l ms fr) o m)
    (hQ : ∀ a w, Rel X ⟨frP (fun _ => true) 0 l ms fr, obs (fun _ => true)⟩ a w → Q .normal a w) :
    ∀ (fuel : Nat) (listed : Array Bool) (a : Act) (w : World), listed.size = l.length → Closed l (fun j => listed.getD j false) → (listed.toList.filter (!·)).length ≤ fuel → Rel X ⟨frP (fun j => listed.getD j false) 0 l ms fr, obs (fun j => listed.getD j false)⟩ a w → wpAny P .any l.toArray Q fuel listed a w := by
  have done : ∀ (listed : Array Bool) (a : Act) (w : World), listed.size = l.length → Closed l (fun j => listed.getD j false) → Region.ready .any l.toArray listed = [] → Rel X ⟨frP (fun j => listed.getD j false) 0 l ms fr, obs (fun j => listed.getD j false)⟩ a w → Q .normal a w := by
    intro listed a w hsz hcl hr hrel
    have all : ∀ i, i < l.length → listed.getD i false = true := by
      intro i
      induction i using Nat.strongRecOn with
      | _ i ih =>
        intro hi
        by_cases hl : listed.getD i false = true
        · exact hl
        · exfalso
          have hmem : i ∈ Region.ready .any l.toArray listed := by
            rw [mem_ready]
            refine ⟨?_, l[i], by simp [hi], fun e he hb => ?_⟩
            · have h1 : i < listed.size := by omega
              simp only [Array.getD_eq_getD_getElem?, Array.getElem?_eq_getElem h1, Option.getD_some] at hl ⊢
              simpa using hl
            · have he' : e.on ∈ aftersOf l[i] := by
                unfold aftersOf
                simp only [List.mem_map, List.mem_filter]
                exact ⟨e, ⟨by simpa using he, hb⟩, rfl⟩
              have hlt := ord_afters hord (i := i) (o := l[i]) (by simp [hi]) _ he'
              exact ih _ hlt (by omega)
          rw [hr] at hmem
          simp at hmem
    rw [hobs _ (fun _ => true) (fun j hj => all j hj)] at hrel
    refine hQ a w (hrel.weak ⟨fun t m hg => ?_, rfl⟩)
    simp only at hg ⊢
    rw [← hg]
    exact frP_congr _ _ t l 0 ms fr fr rfl (fun j o hj _ => by
      have := all j (List.getElem?_eq_some_iff.1 hj).1
      simpa using this)
  intro fuel
  induction fuel with
  | zero =>
    intro listed a w hsz hcl hcnt hrel
    have hr : Region.ready .any l.toArray listed = [] := by
      rw [List.eq_nil_iff_forall_not_mem]
      intro i hi
      rw [mem_ready] at hi
      obtain ⟨h1, o, ho, _⟩ := hi
      have hlt : i < listed.size := by
        have := (Array.getElem?_eq_some_iff.1 ho).1
        simp at this
        omega
      have : false ∈ listed.toList.filter (!·) := by
        rw [List.mem_filter]
        simp only [Array.getD_eq_getD_getElem?, Array.getElem?_eq_getElem hlt, Option.getD_some] at h1
        exact ⟨by rw [← h1]; simp, rfl⟩
      have := List.length_pos_of_mem this
      omega
    exact ⟨hr, done listed a w hsz hcl hr hrel⟩
  | succ fuel ih =>
    intro listed a w hsz hcl hcnt hrel
    refine ⟨fun hr => done listed a w hsz hcl hr hrel, fun i hi => ?_⟩
    rw [mem_ready] at hi
    obtain ⟨h1, o, ho, hafter⟩ := hi
    have ho' : l[i]? = some o := by simpa using ho
    have hil : i < l.length := (List.getElem?_eq_some_iff.1 ho').1
    have hlt : i < listed.size := by omega
    have hni : listed.getD i false = false := by
      simp only [Array.getD_eq_getD_getElem?, Array.getElem?_eq_getElem hlt, Option.getD_some] at h1 ⊢
      exact h1
    have hafters : ∀ e ∈ aftersOf o, listed.getD e false = true := by
      intro e he
      unfold aftersOf at he
      simp only [List.mem_map, List.mem_filter] at he
      obtain ⟨x, ⟨hx, hb⟩, rfl⟩ := he
      exact hafter x (by simpa using hx) hb
    have hcli : ∀ j ∈ clOf l l.length i, listed.getD j false = true := cl_listed hcl l.length i o ho' hafters
    have hclj : ∀ (j : Nat) oj, l[j]? = some oj → listed.getD j false = true → i ∉ clOf l l.length j := by
      intro j oj hj hlj hmem
      have := cl_listed hcl l.length j oj hj (hcl j oj hj hlj) i hmem
      rw [hni] at this
      simp at this
    -- the frame as the text has it, for what this operation reads
    obtain ⟨m, hm, hdst, hstep⟩ := ht i o (fun j => listed.getD j false) ho' hni hcli hclj
    have hreads : ∀ t ∈ readsOf o l.toArray, get (frP (fun j => decide (j < i)) 0 l ms fr) t = get (frP (fun j => listed.getD j false) 0 l ms fr) t := by
      intro t hmem
      refine frP_congr _ _ t l 0 ms fr fr rfl (fun j oj hj hd => ?_)
      simp only [Nat.zero_add]
      by_cases hji : j = i
      · subst hji
        rw [hni]; simp
      · obtain ⟨p1, p2⟩ := ord_at hord ho' hj hji hd (by simp [hmem])
        by_cases hlt2 : j < i
        · rw [hcli j (p1 hlt2)]; simp [hlt2]
        · have : i < j := by omega
          have hn : listed.getD j false = false := by
            cases hb : listed.getD j false with
            | false => rfl
            | true => exact absurd (p2 this) (hclj j oj hj hb)
          rw [hn]; simp [hlt2]
    have haft : obs (fun j => (listed.setIfInBounds i true).getD j false) = obs (fun j => listed.getD j false || j == i) := hobs _ _ fun c _ => by
      simp only [Array.getD_eq_getD_getElem?, Array.getElem?_setIfInBounds]
      by_cases e : i = c
      · subst e; simp [hlt]
      · have e' : (c == i) = false := by simp; omega
        simp [e, e']
    -- what it leaves
    have hnext : ∀ (a' : Act) (w' : World), Rel X ⟨putO (frP (fun j => listed.getD j false) 0 l ms fr) o.dst m, obs (fun j => listed.getD j false || j == i)⟩ a' w' → wpAny P .any l.toArray Q fuel (listed.setIfInBounds i true) a' w' := by
      intro a' w' hrel'
      have hget : ∀ j, (listed.setIfInBounds i true).getD j false = if i = j then true else listed.getD j false := by
        intro j
        simp only [Array.getD_eq_getD_getElem?, Array.getElem?_setIfInBounds]
        by_cases e : i = j
        · subst e; simp [hlt]
        · simp [e]
      refine ih _ a' w' (by simpa using hsz) (fun j oj hj hlj e he => ?_) ?_ (hrel'.weak ⟨fun t q hg => ?_, haft⟩)
      · simp only at hlj ⊢
        rw [hget] at hlj ⊢
        by_cases e1 : i = e
        · rw [if_pos e1]
        · rw [if_neg e1]
          by_cases e2 : i = j
          · subst e2
            obtain rfl := Option.some.inj (ho'.symm.trans hj)
            exact hafters e he
          · rw [if_neg e2] at hlj
            exact hcl j oj hj hlj e he
      · have h2 : listed.toList[i]? = some false := by
          rw [Array.getElem?_toList, Array.getElem?_eq_getElem hlt]
          simp only [Array.getD_eq_getD_getElem?, Array.getElem?_eq_getElem hlt, Option.getD_some] at hni
          rw [hni]
        have := cnt_set listed.toList i h2
        rw [Array.toList_setIfInBounds]
        omega
      · simp only at hg ⊢
        rw [← hg, get_putO]
        by_cases hd : o.dst = some t
        · rw [if_pos hd]
          refine (frP_last _ t l 0 ms fr i o m ho' hm hd (by rw [hget]; simp) (fun j oj hij hj hlj hdj => ?_)).symm
          rw [hget, if_neg (by omega)] at hlj
          simp only [Nat.zero_add] at hlj
          obtain ⟨_, p2⟩ := ord_at hord ho' hj (by omega) hdj (by simp [hd])
          exact hclj j oj hj hlj (p2 hij)
        · rw [if_neg hd]
          refine (frP_congr _ _ t l 0 ms fr fr rfl (fun j oj hj hdj => ?_)).symm
          rw [hget]
          by_cases e : i = 0 + j
          · have : i = j := by omega
            subst this
            obtain rfl := Option.some.inj (ho'.symm.trans hj)
            exact absurd hdj hd
          · rw [if_neg e]
    -- the operation itself, as a walk of one
    have one : wpList P l.toArray (Exit.then (wpAny P .any l.toArray Q fuel (listed.setIfInBounds i true)) Q) [o] a w :=
      stepS_one rfl hdst hstep hreads hrel (fun a' w' hr => hnext a' w' hr)
    unfold wpOp
    rw [ho]
    simp only
    unfold wpList at one
    split
    · rename_i hw
      rw [if_pos hw] at one
      exact (upon_then _ _ _ _ _).1 one
    · rename_i hw
      rw [if_neg hw] at one
      exact one


/-- A region that draws its order: what the objects are, told of each set of operations that have been carried out. -/
theorem awp_drawS {id : Nat} {l : List Oper} {Q : Exit → St → Prop} {s : St} (N : Nat) (hN : X.N = N) (ts : List Nat) (hm : P.follows .mixedOrders = true) (hord : ordOK l = true) (ms : List M) (obs : (Nat → Bool) → List Ob) (h0 : obs (fun _ => false) = s.ob)
    (hobs : ∀ p q : Nat → Bool, (∀ j, j < l.length → p j = q j) → obs p = obs q)
    (ht : ∀ (i : Nat) o (p : Nat → Bool), l[i]? = some o → p i = false → (∀ e ∈ clOf l l.length i, p e = true) → (∀ (j : Nat) oj, l[j]? = some oj → p j = true → i ∉ clOf l l.length j) → ∃ m, ms[i]? = some m ∧ StepS P N l.toArray (obs p) (obs fun j => p j || j == i) (frP (fun j => decide (j < i)) 0 l ms s.fr) o m)
    (h : KeepF Q ts (frP (fun _ => true) 0 l ms s.fr) (obs fun _ => true)) : Awp P X (.region id l.toArray true) Q s := fun a w hr => by
  subst hN
  refine wp_region_any hm ?_
  obtain ⟨E, h1, h2, h3, h4⟩ := hr
  have hst : Step w E s.ob { w with drawn := w.drawn + 1 } E s.ob := by
    have hext : Ext w E s.ob { w with drawn := w.drawn + 1 } E s.ob := ⟨fun b hb => ⟨hb, rfl⟩, fun i o ho => ⟨o, ho, Nat.le_refl _, rfl, fun _ => rfl, fun _ => ⟨rfl, rfl, rfl, rfl⟩⟩⟩
    exact ⟨⟨fun i o ho => (h4.heap.obj i o ho).keep hext rfl rfl (fun _ => rfl), h4.heap.inj, h4.heap.stb, h4.heap.own⟩, hext, ⟨rfl, rfl, rfl, Nat.le_refl _, fun _ _ _ => rfl, fun _ h => h, fun _ h => .inl h, fun i o ho hn => .inl ⟨i, o, ho, hn, rfl⟩⟩⟩
  have hrel : Rel X s a { w with drawn := w.drawn + 1 } := ⟨E, fun t m hg => ⟨(h1 t m hg).1, (h1 t m hg).2.keep hst.ext⟩, h2, h3, h4.trans hst⟩
  have hfalse : ∀ j, (Array.replicate l.toArray.size false).getD j false = false := fun j => by
    simp only [Array.getD_eq_getD_getElem?, Array.getElem?_replicate]
    split <;> rfl
  refine any_ofS hord hobs ht (Q := lift X Q) (fun a w hr => ⟨_, h, hr.weak (weak_keep ⟨_, _⟩ ts)⟩) _ _ _ _ (by simp) (fun i o ho hp => ?_) (by simp) ?_
  · simp only [hfalse] at hp
    simp at hp
  · simp only [hfalse]
    refine hrel.weak ⟨fun t m hg => ?_, h0⟩
    simp only at hg
    rw [frP_false _ l 0 ms s.fr (fun j _ => rfl)] at hg
    exact hg
end Go.Av
namespace Go.Av
open Go
variable {P : Program} {X : Ctx}
/-- A place is kept for a variable that is to come. -/
theorem awp_nilO {c : Code} {Q : Exit → St → Prop} {fr : List (Nat × M)} {ob : List Ob} (e sz : Nat) (h : Awp P X c Q ⟨fr, ob ++ [{ ty := e, sz := sz, nil := true, gen := 0, cs := [] }]⟩) : Awp P X c Q ⟨fr, ob⟩ := fun a w hr => by
  obtain ⟨E, h1, h2, h3, h4⟩ := hr
  have hst := step_nil h4.heap e sz
  refine h a w ⟨E, fun u m hu => ?_, h2, h3, h4.trans hst⟩
  obtain ⟨p, q⟩ := h1 u m hu
  exact ⟨p, q.keep hst.ext⟩
end Go.Av
namespace Go.Av
open Go
variable {P : Program} {X : Ctx}
theorem step_give3 {w w' : World} {E E' : Env} {ob om ext : List Ob} (hle : ob.length ≤ om.length) (hs : Step w E ob w' E' (om ++ ext)) (h0 : ∀ (i : Nat) (o : Ob) (j : Nat) (m : M), om[i]? = some o → o.iter = none → o.cs[j]? = some m → Lt om.length m) :
    Step w E ob w' { E' with st := fun b => E'.st b ∨ ∃ (i : Nat) (o : Ob), ext[i]? = some o ∧ o.nil = false ∧ b = E'.blk (om.length + i) } om := by
  obtain ⟨hh, hx, hb⟩ := hs
  have hinc : ∀ (i : Nat) (q : Ob), om[i]? = some q → (om ++ ext)[i]? = some q := fun i q hq => by
    rw [List.getElem?_append_left (List.getElem?_eq_some_iff.1 hq).1]; exact hq
  have hnew : ∀ (i : Nat) (q : Ob), ext[i]? = some q → (om ++ ext)[om.length + i]? = some q := fun i q hq => by
    rw [List.getElem?_append_right (by omega)]; simpa using hq
  have hne : ∀ (i k : Nat) (q o : Ob), om[i]? = some q → q.nil = false → ext[k]? = some o → o.nil = false → E'.blk i ≠ E'.blk (om.length + k) := fun i k q o hq hqn ho hon he => by
    have h1 := hh.inj i (om.length + k) q o (hinc i q hq) (hnew k o ho) hqn hon he
    have h2 := (List.getElem?_eq_some_iff.1 hq).1
    omega
  have hext : Ext w' E' (om ++ ext) w' { E' with st := fun b => E'.st b ∨ ∃ (i : Nat) (o : Ob), ext[i]? = some o ∧ o.nil = false ∧ b = E'.blk (om.length + i) } (om ++ ext) :=
    ⟨fun b hb => ⟨.inl hb, rfl⟩, fun i q hq => ⟨q, hq, Nat.le_refl _, rfl, fun _ => rfl, fun _ => ⟨rfl, rfl, rfl, rfl⟩⟩⟩
  refine ⟨⟨fun i q hq => ?_, fun i j oi oj hi hj ni nj he => hh.inj i j oi oj (hinc i oi hi) (hinc j oj hj) ni nj he, fun b hb => ?_, fun i q hq hn => ?_⟩, ⟨fun b hb => ⟨.inl (hx.st b hb).1, (hx.st b hb).2⟩, fun i q hq => ?_⟩, ⟨hb.os, hb.tape, hb.output, hb.size, hb.block, fun b h => .inl (hb.st b h), fun b h => ?_, fun i q hq hn => hb.own i q (hinc i q hq) hn⟩⟩
  · have h1 := hh.obj i q (hinc i q hq)
    unfold ObOK at h1 ⊢
    split
    · rename_i s p hit
      rw [hit] at h1
      exact h1
    · rename_i hit
      rw [hit] at h1
      refine ⟨h1.1, fun hn => ?_⟩
      obtain ⟨arr, lo, hi, e1, e2, e3, e4⟩ := h1.2 hn
      refine ⟨arr, lo, hi, e1, e2, e3, fun j m hm => ?_⟩
      obtain ⟨y, hy, q1, q2⟩ := e4 j m hm
      exact ⟨y, hy, q1, rep_lower (q2.keep hext) (h0 i q j m hq hit hm)⟩
  · rcases hb with hb | ⟨i, o, ho, hn, rfl⟩
    · exact hh.stb b hb
    · exact (hh.own _ o (hnew i o ho) hn).2
  · obtain ⟨a, b⟩ := hh.own i q (hinc i q hq) hn
    refine ⟨fun hs => ?_, b⟩
    rcases hs with hs | ⟨k, o, ho, hon, he⟩
    · exact a hs
    · exact hne i k q o hq hn ho hon he
  · obtain ⟨q', hq', r⟩ := hx.ob i q hq
    have hlt := (List.getElem?_eq_some_iff.1 hq).1
    have : om[i]? = some q' := by rw [← hq', List.getElem?_append_left (by omega)]
    exact ⟨q', this, r⟩
  · rcases h with h | ⟨i, o, ho, hn, rfl⟩
    · exact hb.st_of b h
    · rcases hb.own _ o (hnew i o ho) hn with h | hge
      · exact .inr (.inl h)
      · exact .inr (.inr hge)

/-- Objects to which nothing leads any more are forgotten. -/
theorem awp_drop {c : Code} {Q : Exit → St → Prop} {fr : List (Nat × M)} {S : List Ob} (om suf : List Ob) (hle : X.ob.length ≤ om.length) (hS : S = om ++ suf)
    (hfr : fr.all (fun p => ltB om.length p.2) = true) (hom : om.all (fun q => q.cs.all (ltB om.length)) = true)
    (h : Awp P X c Q ⟨fr, om⟩) : Awp P X c Q ⟨fr, S⟩ := fun a w hr => by
  obtain ⟨E, h1, h2, h3, h4⟩ := hr
  simp only at h1 h4
  subst hS
  have hst := step_give3 hle h4 fun i q j m hi hit hj => lt_of_ltB (List.all_eq_true.1 (List.all_eq_true.1 hom q (List.mem_of_getElem? hi)) m (List.mem_of_getElem? hj))
  refine h a w ⟨_, fun u m hu => ?_, h2, h3, hst⟩
  obtain ⟨p, q⟩ := h1 u m hu
  refine ⟨p, ?_⟩
  have hb := List.all_eq_true.1 hfr (u, m) (get_mem hu)
  refine rep_lower (ext := suf) (q.keep ?_) (lt_of_ltB hb)
  exact ⟨fun b hb => ⟨.inl hb, rfl⟩, fun i q hq => ⟨q, hq, Nat.le_refl _, rfl, fun _ => rfl, fun _ => ⟨rfl, rfl, rfl, rfl⟩⟩⟩
/-- The same, of a contract. -/
theorem Den.forget {f : FuncId} {args : List M} {ob ob2 : List Ob} {m : M} (hle : ob.length ≤ ob2.length) (hm : ltB ob2.length m = true) (hom : ob2.all (fun q => q.cs.all (ltB ob2.length)) = true) (h : Den P f args ob fun r ob' => r = m ∧ ∃ e, ob' = ob2 ++ e) : Den P f args ob fun r ob' => r = m ∧ ob' = ob2 := by
  intro w E vals h1 h2 h3
  refine (h w E vals h1 h2 h3).mono ?_
  rintro v w' ⟨r, ob', E', ⟨rfl, e, rfl⟩, hr, hs⟩
  have hst := step_give3 hle hs fun i q j m hi hit hj => lt_of_ltB (List.all_eq_true.1 (List.all_eq_true.1 hom q (List.mem_of_getElem? hi)) m (List.mem_of_getElem? hj))
  refine ⟨_, _, _, ⟨rfl, rfl⟩, rep_lower (ext := e) (hr.keep ?_) (lt_of_ltB hm), hst⟩
  exact ⟨fun b hb => ⟨.inl hb, rfl⟩, fun i q hq => ⟨q, hq, Nat.le_refl _, rfl, fun _ => rfl, fun _ => ⟨rfl, rfl, rfl, rfl⟩⟩⟩
end Go.Av
namespace Go.Av
open Go
variable {P : Program} {X : Ctx}
/-- All slots but these are forgotten. -/
theorem awp_keep {c : Code} {Q : Exit → St → Prop} {fr : List (Nat × M)} {ob : List Ob} (ts : List Nat) (h : Awp P X c Q ⟨keep fr ts, ob⟩) : Awp P X c Q ⟨fr, ob⟩ := fun a w hr => h a w (hr.weak (weak_keep ⟨fr, ob⟩ ts))
end Go.Av
