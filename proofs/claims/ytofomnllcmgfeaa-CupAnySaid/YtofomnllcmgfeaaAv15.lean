/- Rules that proofs use: regions that forget, scopes, tests, nil slices that will grow, results given up. -/
import Derived.Test.YtofomnllcmgfeaaAv14
set_option linter.unusedVariables false
namespace Go.Av
open Go

variable {P : Program} {X : Ctx}

def noGotoA (Q : Exit → St → Prop) : Exit → St → Prop
  | .goto _, _ => False
  | e, s => Q e s
attribute [simp] noGotoA
theorem awp_scope {c : Code} {Q : Exit → St → Prop} {s : St} (h : Awp P X c (noGotoA Q) s) : Awp P X (.scope c) Q s := fun a w hr => by
  refine wp_scope_straight (wp_mono (h a w hr) ?_)
  rintro e a' w' ⟨s', q, r⟩
  cases e with
  | goto l => exact q.elim
  | _ => exact ⟨s', q, r⟩
def KeepK (Q : Exit → St → Prop) (ts : List Nat) (s : St) : Prop := Q .normal ⟨keep s.fr ts, s.ob⟩
@[simp] theorem KeepK_mk (Q : Exit → St → Prop) (ts : List Nat) (fr : List (Nat × M)) (ob : List Ob) : KeepK Q ts ⟨fr, ob⟩ = Q .normal ⟨keep fr ts, ob⟩ := rfl
/-- A region; what no later region reads is forgotten. -/
theorem awp_reg {id : Nat} {l : List Oper} {Q : Exit → St → Prop} {s : St} (N : Nat) (hN : X.N = N) (ts : List Nat) (h : awpOps P N l.toArray (KeepK Q ts) l s) : Awp P X (.region id l.toArray false) Q s := fun a w hr => by
  subst hN
  exact wp_region_lit (awpOps_sound (K := KeepK Q ts) (fun s a w hk hr => ⟨_, hk, hr.weak (weak_keep s ts)⟩) l s a w h hr)
theorem awp_if {c : Operand} {x y : Code} {Q : Exit → St → Prop} {s : St} {p : Prop} [Decidable p] (hb : asB (opM s.fr c) = some (decide p)) (ht : p → Awp P X x Q s) (hf : ¬ p → Awp P X y Q s) : Awp P X (.cond c x y) Q s := by
  refine awp_cond hb ?_
  by_cases h : p
  · simpa [h] using ht h
  · simpa [h] using hf h
theorem awp_if_b {c : Operand} {x y : Code} {Q : Exit → St → Prop} {s : St} {b : Bool} (hb : asB (opM s.fr c) = some b) (ht : b = true → Awp P X x Q s) (hf : b = false → Awp P X y Q s) : Awp P X (.cond c x y) Q s := by
  refine awp_cond hb ?_
  cases b with
  | true => simpa using ht rfl
  | false => simpa using hf rfl
theorem GuardK_b {P : Program} {N : Nat} {ops : Array Oper} {K : St → Prop} {o : Oper} {rest : List Oper} {s : St} {b : Bool} (ht : b = true → GuardK P N ops K o rest s (some true)) (hf : b = false → GuardK P N ops K o rest s (some false)) : GuardK P N ops K o rest s (some b) := by
  cases b with
  | true => exact ht rfl
  | false => exact hf rfl
theorem GuardK_if {P : Program} {N : Nat} {ops : Array Oper} {K : St → Prop} {o : Oper} {rest : List Oper} {s : St} {p : Prop} [Decidable p] (ht : p → GuardK P N ops K o rest s (some true)) (hf : ¬ p → GuardK P N ops K o rest s (some false)) : GuardK P N ops K o rest s (some (decide p)) := by
  by_cases h : p
  · simpa [h] using ht h
  · simpa [h] using hf h
@[simp] theorem EvK_if {P : Program} {N : Nat} {ops : Array Oper} {K : St → Prop} {o : Oper} {rest : List Oper} {s : St} {p : Prop} [Decidable p] (x : Option (M × List Ob)) : EvK P N ops K o rest s (if p then x else none) = (p ∧ EvK P N ops K o rest s x) := by
  by_cases h : p <;> simp [h]
@[simp] theorem with_if {p : Prop} [Decidable p] (ob : List Ob) (x : Option M) : with_ ob (if p then x else none) = if p then with_ ob x else none := by
  by_cases h : p <;> simp [h]

/-- A nil slice that will grow is an object from now on. -/
theorem awp_nil {c : Code} {Q : Exit → St → Prop} {s : St} (t : Nat) (e sz : Nat) (hg : get s.fr t = some (.c (.v (.slice none 0 0))))
    (h : Awp P X c Q ⟨put s.fr t (.ms s.ob.length 0 0 0), s.ob ++ [{ ty := e, sz := sz, nil := true, gen := 0, cs := [] }]⟩) : Awp P X c Q s := fun a w hr => by
  obtain ⟨E, h1, h2, h3, h4⟩ := hr
  have hst := step_nil h4.heap e sz
  refine h a w ⟨E, fun u m hu => ?_, h2, h3, h4.trans hst⟩
  simp only [get_put] at hu
  split at hu
  · rename_i eq
    subst eq
    obtain rfl := Option.some.inj hu
    obtain ⟨p, q⟩ := h1 _ _ hg
    refine ⟨p, ?_⟩
    generalize a.tmps.getD t undef = z at q
    cases q with
    | c hc =>
      cases hc
      exact .ms ⟨rfl, _, by rw [getElem?_snoc, if_neg (by omega), if_pos rfl], rfl, Nat.le_refl _, fun _ => ⟨fun _ => ⟨rfl, rfl, rfl⟩, fun hf => by simp at hf⟩⟩
  · obtain ⟨p, q⟩ := h1 u m hu
    exact ⟨p, q.keep hst.ext⟩

/-- All references of a datum lead below n. -/
inductive Lt (n : Nat) : M → Prop where
  | c (x : C) : Lt n (.c x)
  | agg (ms : List M) (h : ∀ (j : Nat) (m : M), ms[j]? = some m → Lt n m) : Lt n (.agg ms)
  | tup (ms : List M) (h : ∀ (j : Nat) (m : M), ms[j]? = some m → Lt n m) : Lt n (.tup ms)
  | ms (i g off k : Nat) (h : i < n) : Lt n (.ms i g off k)
  | mp (i g off : Nat) (h : i < n) : Lt n (.mp i g off)
  | mi (t : TypeId) (i g off : Nat) (h : i < n) : Lt n (.mi t i g off)
  | mf (fn : Fn) (a b : List M) (h1 : ∀ (j : Nat) (m : M), a[j]? = some m → Lt n m) (h2 : ∀ (j : Nat) (m : M), b[j]? = some m → Lt n m) : Lt n (.mf fn a b)
  | it (i : Nat) (h : i < n) : Lt n (.it i)
  | junk : Lt n .junk
theorem lt_of_rep {w : World} {E : Env} {ob : List Ob} {m : M} {y : Value} (h : RepM w E ob m y) : Lt ob.length m := by
  induction h with
  | c h => exact .c _
  | agg ms arr hs ho h ih => exact .agg _ fun j m hm => ih j (by rw [hs]; exact (List.getElem?_eq_some_iff.1 hm).1) m hm
  | tup ms arr hs h ih => exact .tup _ fun j m hm => ih j (by rw [hs]; exact (List.getElem?_eq_some_iff.1 hm).1) m hm
  | ms h => obtain ⟨_, o, ho, _⟩ := h; exact .ms _ _ _ _ (List.getElem?_eq_some_iff.1 ho).1
  | mp h => obtain ⟨_, o, ho, _⟩ := h; exact .mp _ _ _ (List.getElem?_eq_some_iff.1 ho).1
  | mi h => obtain ⟨_, o, ho, _⟩ := h; exact .mi _ _ _ _ (List.getElem?_eq_some_iff.1 ho).1
  | mf fn first cap f1 c1 hs1 hs2 h1 h2 ih1 ih2 => exact .mf _ _ _ (fun j m hm => ih1 j (by rw [hs1]; exact (List.getElem?_eq_some_iff.1 hm).1) m hm) (fun j m hm => ih2 j (by rw [hs2]; exact (List.getElem?_eq_some_iff.1 hm).1) m hm)
  | it h => obtain ⟨o, ho, _⟩ := h; exact .it _ (List.getElem?_eq_some_iff.1 ho).1
  | junk y => exact .junk
theorem rep_lower {w : World} {E : Env} {ob : List Ob} {ext : List Ob} {m : M} {y : Value} (h : RepM w E (ob ++ ext) m y) (hl : Lt ob.length m) : RepM w E ob m y := by
  have hdown : ∀ (i : Nat) (o : Ob), i < ob.length → (ob ++ ext)[i]? = some o → ob[i]? = some o := fun i o hi ho => by rwa [List.getElem?_append_left hi] at ho
  induction h with
  | c h => exact .c h
  | agg ms arr hs ho h ih =>
    cases hl with
    | agg _ hl => exact .agg _ _ hs ho fun j hj m hm => ih j hj m hm (hl j m hm)
  | tup ms arr hs h ih =>
    cases hl with
    | tup _ hl => exact .tup _ _ hs fun j hj m hm => ih j hj m hm (hl j m hm)
  | ms h =>
    cases hl with
    | ms _ _ _ _ hi =>
      obtain ⟨p, o, ho, q⟩ := h
      exact .ms ⟨p, o, hdown _ o hi ho, q⟩
  | mp h =>
    cases hl with
    | mp _ _ _ hi =>
      obtain ⟨p, o, ho, q⟩ := h
      exact .mp ⟨p, o, hdown _ o hi ho, q⟩
  | mi h =>
    cases hl with
    | mi _ _ _ _ hi =>
      obtain ⟨p, o, ho, q⟩ := h
      exact .mi ⟨p, o, hdown _ o hi ho, q⟩
  | mf fn first cap f1 c1 hs1 hs2 h1 h2 ih1 ih2 =>
    cases hl with
    | mf _ _ _ l1 l2 => exact .mf _ _ _ _ _ hs1 hs2 (fun j hj m hm => ih1 j hj m hm (l1 j m hm)) (fun j hj m hm => ih2 j hj m hm (l2 j m hm))
  | it h =>
    cases hl with
    | it _ hi =>
      obtain ⟨o, ho, q⟩ := h
      exact .it ⟨o, hdown _ o hi ho, q⟩
  | junk y => exact .junk y

/-- New objects are given up: nobody will write them any more, and nothing of the old ones leads to them. -/
theorem step_give {w w' : World} {E E' : Env} {ob ext : List Ob} (h0 : HeapOK w E ob) (hs : Step w E ob w' E' (ob ++ ext)) :
    Step w E ob w' { E' with st := fun b => E'.st b ∨ ∃ (i : Nat) (o : Ob), ext[i]? = some o ∧ o.nil = false ∧ b = E'.blk (ob.length + i) } ob := by
  obtain ⟨hh, hx, hb⟩ := hs
  have hinc : ∀ (i : Nat) (q : Ob), ob[i]? = some q → (ob ++ ext)[i]? = some q := fun i q hq => by
    rw [List.getElem?_append_left (List.getElem?_eq_some_iff.1 hq).1]; exact hq
  have hnew : ∀ (i : Nat) (q : Ob), ext[i]? = some q → (ob ++ ext)[ob.length + i]? = some q := fun i q hq => by
    rw [List.getElem?_append_right (by omega)]; simpa using hq
  have hne : ∀ (i k : Nat) (q o : Ob), ob[i]? = some q → q.nil = false → ext[k]? = some o → o.nil = false → E'.blk i ≠ E'.blk (ob.length + k) := fun i k q o hq hqn ho hon he => by
    have h1 := hh.inj i (ob.length + k) q o (hinc i q hq) (hnew k o ho) hqn hon he
    have h2 := (List.getElem?_eq_some_iff.1 hq).1
    omega
  have hext : Ext w' E' (ob ++ ext) w' { E' with st := fun b => E'.st b ∨ ∃ (i : Nat) (o : Ob), ext[i]? = some o ∧ o.nil = false ∧ b = E'.blk (ob.length + i) } (ob ++ ext) :=
    ⟨fun b hb => ⟨.inl hb, rfl⟩, fun i q hq => ⟨q, hq, Nat.le_refl _, rfl, fun _ => rfl, fun _ => ⟨rfl, rfl, rfl, rfl⟩⟩⟩
  refine ⟨⟨fun i q hq => ?_, fun i j oi oj hi hj ni nj he => hh.inj i j oi oj (hinc i oi hi) (hinc j oj hj) ni nj he, fun b hb => ?_, fun i q hq hn => ?_⟩, ⟨fun b hb => ⟨.inl (hx.st b hb).1, (hx.st b hb).2⟩, fun i q hq => ?_⟩, ⟨hb.os, hb.tape, hb.output, hb.size, hb.block, fun b h => .inl (hb.st b h), fun b h => ?_, fun i q hq hn => hb.own i q (hinc i q hq) hn⟩⟩
  · have h1 := hh.obj i q (hinc i q hq)
    have h2 := h0.obj i q hq
    unfold ObOK at h1 h2 ⊢
    split
    · rename_i s p hit
      rw [hit] at h1
      exact h1
    · rename_i hit
      rw [hit] at h1 h2
      refine ⟨h1.1, fun hn => ?_⟩
      obtain ⟨arr, lo, hi, e1, e2, e3, e4⟩ := h1.2 hn
      obtain ⟨arr0, _, _, _, _, _, f4⟩ := h2.2 hn
      refine ⟨arr, lo, hi, e1, e2, e3, fun j m hm => ?_⟩
      obtain ⟨y, hy, q1, q2⟩ := e4 j m hm
      obtain ⟨y0, _, _, q3⟩ := f4 j m hm
      exact ⟨y, hy, q1, rep_lower (q2.keep hext) (lt_of_rep q3)⟩
  · rcases hb with hb | ⟨i, o, ho, hn, rfl⟩
    · exact hh.stb b hb
    · exact (hh.own _ o (hnew i o ho) hn).2
  · obtain ⟨a, b⟩ := hh.own i q (hinc i q hq) hn
    refine ⟨fun hs => ?_, b⟩
    rcases hs with hs | ⟨k, o, ho, hon, he⟩
    · exact a hs
    · exact hne i k q o hq hn ho hon he
  · obtain ⟨q', hq', r⟩ := hx.ob i q hq
    have : q' = q := Option.some.inj (hq'.symm.trans (hinc i q hq))
    subst this
    exact ⟨q', hq, r⟩
  · rcases h with h | ⟨i, o, ho, hn, rfl⟩
    · exact hb.st_of b h
    · rcases hb.own _ o (hnew i o ho) hn with ⟨k, q, hq, hqn, he⟩ | hge
      · exact .inr (.inl ⟨k, q, hq, hqn, he⟩)
      · exact .inr (.inr hge)

/-- A fresh slice that comes back, by its content. -/
theorem rep_frozen {w' : World} {E' : Env} {ob ext : List Ob} (hh : HeapOK w' E' (ob ++ ext)) {k g n : Nat} {o : Ob} {cs : List C} {v : Value} (hk : ext[k]? = some o) (hg : o.gen = g) (hcs : o.cs = up cs) (hr : RepM w' E' (ob ++ ext) (.ms (ob.length + k) g 0 n) v) (full : Bool) (hf : full = true → n = 0) (hn0 : o.nil = true → cs = []) :
    RepM w' { E' with st := fun b => E'.st b ∨ ∃ (i : Nat) (o : Ob), ext[i]? = some o ∧ o.nil = false ∧ b = E'.blk (ob.length + i) } ob (.c (.sl cs n false)) v := by
  cases hr with
  | ms hq =>
    obtain ⟨_, o', ho', hit, hle, hr⟩ := hq
    have hnew : (ob ++ ext)[ob.length + k]? = some o := by rw [List.getElem?_append_right (by omega)]; simpa using hk
    obtain rfl := Option.some.inj (hnew.symm.trans ho')
    obtain ⟨r1, r2⟩ := hr hg.symm
    cases hnil : o.nil with
    | true =>
      obtain ⟨rfl, rfl, _⟩ := r1 hnil
      rw [hn0 hnil]
      exact .c (.nl false)
    | false =>
      obtain ⟨cap, rfl, h1, h2⟩ := r2 hnil
      have hob := hh.obj _ o hnew
      unfold ObOK at hob
      rw [hit] at hob
      obtain ⟨arr, lo, hi, e1, e2, e3, e4⟩ := hob.2 hnil
      refine .c (.sl cs n false ⟨E'.blk (ob.length + k), 0, none⟩ cap (fun j => arr.getD j undef) (by simp) h1 (fun j c hc => ?_) (fun j c hc => ?_))
      · have hm : o.cs[j]? = some (.c c) := by rw [hcs]; simp [up, hc]
        obtain ⟨y, hy, q1, q2⟩ := e4 j _ hm
        refine ⟨.inr ⟨k, o, hk, hnil, rfl⟩, ?_, ?_⟩
        · rw [Array.getD_eq_getD_getElem?, hy]; exact q1
        · rw [add_obj, Array.getD_eq_getD_getElem?, hy]
          simp [World.cell?, e1, hy]
      · have hm : o.cs[j]? = some (.c c) := by rw [hcs]; simp [up, hc]
        obtain ⟨y, hy, q1, q2⟩ := e4 j _ hm
        rw [Array.getD_eq_getD_getElem?, hy]
        cases q2 with
        | c h => exact h.keep (fun b hb => ⟨.inl hb, rfl⟩)

/-- A function that hands back a slice of its own making: by its content. -/
theorem Den.freeze {f : FuncId} {args : List M} {ob : List Ob} {Q : M → List Ob → Prop} {Q' : M → List Ob → Prop} (h : Den P f args ob Q)
    (hq : ∀ r ob', Q r ob' → ∃ (g n : Nat) (o : Ob) (cs : List C), r = .ms ob.length g 0 n ∧ ob' = ob ++ [o] ∧ o.gen = g ∧ o.cs = up cs ∧ Q' (.c (.sl cs n false)) ob) : Den P f args ob Q' := by
  refine fun w E vals h1 h2 h3 => (h w E vals h1 h2 h3).mono ?_
  rintro v w' ⟨r, ob', E', q, hr, hs⟩
  obtain ⟨g, n, o, cs, rfl, rfl, hg, hcs, hq'⟩ := hq r ob' q
  refine ⟨_, ob, _, hq', ?_, step_give h3 hs⟩
  refine rep_frozen (k := 0) (o := o) hs.heap rfl hg hcs hr false (by simp) (fun hn => ?_)
  have hob := hs.heap.obj ob.length o (by simp)
  unfold ObOK at hob
  split at hob
  · rename_i hit
    rw [hob.2] at hn
    simp at hn
  · have := hob.1 hn
    rw [hcs] at this
    simpa [up] using this

/-- A loop; at each round's head only these slots are known. -/
theorem awp_loop_k {c : Code} {Q : Exit → St → Prop} {s : St} (ts : List Nat) (I : Nat → St → Prop) (n : Nat) (h0 : I n ⟨keep s.fr ts, s.ob⟩) (h : ∀ n s, I n s → Awp P X c (thenA (fun s' => ∃ n', n' < n ∧ I n' ⟨keep s'.fr ts, s'.ob⟩) Q) s) : Awp P X (.loop c) Q s := by
  refine Awp.weak ?_ (weak_keep s ts)
  refine awp_loop I n h0 (fun n s hi a w hr => ?_)
  refine wp_mono (h n s hi a w hr) ?_
  rintro e a' w' ⟨s', q, r⟩
  cases e with
  | normal =>
    obtain ⟨n', h1, h2⟩ := q
    exact ⟨_, ⟨n', h1, h2⟩, r.weak (weak_keep s' ts)⟩
  | _ => exact ⟨s', q, r⟩

/-- Is it the plain end? -/
@[reducible] def isN : Exit → Bool
  | .normal => true
  | _ => false
/-- The same; what stands behind a round is a name. -/
theorem awp_loop_g {c : Code} {Q : Exit → St → Prop} {s : St} (ts : List Nat) (I : Nat → St → Prop) (n : Nat) (h0 : I n ⟨keep s.fr ts, s.ob⟩)
    (h : ∀ n s (Q1 : Exit → St → Prop), I n s → (∀ s', (∃ n', n' < n ∧ I n' ⟨keep s'.fr ts, s'.ob⟩) → Q1 .normal s') → (∀ e s', isN e = false → Q e s' → Q1 e s') → Awp P X c Q1 s) : Awp P X (.loop c) Q s :=
  awp_loop_k ts I n h0 fun n s hi => h n s _ hi (fun s' hs => hs) (fun e s' he hq => by cases e <;> first | exact hq | exact absurd he (by simp [isN]))
/-- What stands behind a piece of code is told by J. -/
theorem awp_cut {c : Code} {Q : Exit → St → Prop} {s : St} (ts : List Nat) (J : St → Prop) (h1 : ∀ Q1 : Exit → St → Prop, (∀ s', J ⟨keep s'.fr ts, s'.ob⟩ → Q1 .normal s') → (∀ e s', isN e = false → Q e s' → Q1 e s') → Awp P X c Q1 s) (h2 : ∀ s', J s' → Q .normal s') : Awp P X c Q s := fun a w hr => by
  refine wp_mono (h1 (thenA (fun s' => J ⟨keep s'.fr ts, s'.ob⟩) Q) (fun _ h => h) (fun e s' he hq => by cases e <;> first | exact hq | exact absurd he (by simp [isN])) a w hr) ?_
  rintro e a' w' ⟨s', q, r⟩
  cases e with
  | normal => exact ⟨_, h2 _ q, r.weak (weak_keep s' ts)⟩
  | _ => exact ⟨s', q, r⟩

/-! ### plain facts that walks meet -/
theorem getI {α : Type} (l : List α) (i : Int) (h0 : 0 ≤ i) (h1 : i < l.length) : ∃ x, l[i.toNat]? = some x := ⟨_, List.getElem?_eq_getElem (by omega)⟩
theorem wrap_succ (k : Nat) (h : k < 9223372036854775807) : IntKind.i64.wrap ((k : Int) + 1) = ((k + 1 : Nat) : Int) := by
  rw [IntWalk.i64_in _ (by omega)]
  rfl
theorem wrap_in (x : Int) (h : -9223372036854775808 ≤ x ∧ x ≤ 9223372036854775807) : IntKind.i64.wrap x = x := IntWalk.i64_in _ h

end Go.Av
