/- Weaker tellings; an own slice given up within a function. -/
import Derived.Test.YtofomnllcmgfeaaAv18
set_option linter.unusedVariables false
set_option linter.unusedSimpArgs false
namespace Go.Av
open Go
variable {P : Program} {X : Ctx}

/-! ### weaker tellings -/
/-- Who is told by the first is told by the second. -/
def LeC (c c' : C) : Prop := ∀ (w : World) (S : Nat → Prop) (y : Value), RepC w S c y → RepC w S c' y
theorem leC_refl (c : C) : LeC c c := fun _ _ _ h => h
theorem leC_nil (f : Bool) : LeC (.v (.slice none 0 0)) (.sl [] 0 f) := fun w S y h => by cases h; exact .nl f
theorem leC_sl {cs cs' : List C} {n : Nat} {f f' : Bool} (hf : f' = true → f = true) (hl : cs.length = cs'.length) (h : ∀ (j : Nat) c c', cs[j]? = some c → cs'[j]? = some c' → LeC c c') : LeC (.sl cs n f) (.sl cs' n f') := fun w S y hy => by
  have hc : ∀ (j : Nat) c', cs'[j]? = some c' → ∃ c, cs[j]? = some c := fun j c' hj => by
    have := (List.getElem?_eq_some_iff.1 hj).1
    exact ⟨_, List.getElem?_eq_getElem (by omega)⟩
  cases hy with
  | nl full =>
    have : cs' = [] := by simpa using hl.symm
    subst this
    exact .nl f'
  | sl _ _ _ a cap ys hf1 hn h1 h2 =>
    refine .sl cs' n f' a cap ys (fun e => hf1 (hf e)) hn (fun j c' hj => ?_) (fun j c' hj => ?_)
    · obtain ⟨c, hcj⟩ := hc j c' hj
      exact h1 j c hcj
    · obtain ⟨c, hcj⟩ := hc j c' hj
      exact h j c c' hcj hj w S _ (h2 j c hcj)
theorem leC_full (cs : List C) (n : Nat) (f : Bool) : LeC (.sl cs n f) (.sl cs n false) := leC_sl (by simp) rfl fun j c c' h1 h2 => by
  rw [h1] at h2
  obtain rfl := Option.some.inj h2
  exact leC_refl c
/-- One by one. -/
def LeCs : List C → List C → Prop
  | [], [] => True
  | c :: r, c' :: r' => LeC c c' ∧ LeCs r r'
  | _, _ => False
theorem LeCs.len {a b : List C} (h : LeCs a b) : a.length = b.length := by
  induction a generalizing b with
  | nil => cases b with
    | nil => rfl
    | cons _ _ => exact h.elim
  | cons x a ih => cases b with
    | nil => exact h.elim
    | cons y b => simp [ih h.2]
theorem LeCs.get {a b : List C} (h : LeCs a b) : ∀ (j : Nat) c c', a[j]? = some c → b[j]? = some c' → LeC c c' := by
  induction a generalizing b with
  | nil => intro j c c' h1; simp at h1
  | cons x a ih =>
    cases b with
    | nil => exact h.elim
    | cons y b =>
      intro j c c' h1 h2
      cases j with
      | zero => obtain rfl := Option.some.inj h1; obtain rfl := Option.some.inj h2; exact h.1
      | succ j => exact ih h.2 j c c' (by simpa using h1) (by simpa using h2)
theorem leC_sls {cs cs' : List C} {n : Nat} {f : Bool} (h : LeCs cs cs') : LeC (.sl cs n f) (.sl cs' n false) := leC_sl (by simp) h.len h.get

def LeM (m m' : M) : Prop := ∀ (w : World) (E : Env) (ob : List Ob) (y : Value), RepM w E ob m y → RepM w E ob m' y
theorem leM_refl (m : M) : LeM m m := fun _ _ _ _ h => h
theorem leM_c {c c' : C} (h : LeC c c') : LeM (.c c) (.c c') := fun w E ob y hy => by
  cases hy with
  | c hc => exact .c (h _ _ _ hc)
theorem leM_junk (m : M) : LeM m .junk := fun _ _ _ y _ => .junk y
def LeMs : List M → List M → Prop
  | [], [] => True
  | c :: r, c' :: r' => LeM c c' ∧ LeMs r r'
  | _, _ => False
theorem LeMs.len {a b : List M} (h : LeMs a b) : a.length = b.length := by
  induction a generalizing b with
  | nil => cases b with
    | nil => rfl
    | cons _ _ => exact h.elim
  | cons x a ih => cases b with
    | nil => exact h.elim
    | cons y b => simp [ih h.2]
theorem LeMs.get {a b : List M} (h : LeMs a b) : ∀ (j : Nat) c c', a[j]? = some c → b[j]? = some c' → LeM c c' := by
  induction a generalizing b with
  | nil => intro j c c' h1; simp at h1
  | cons x a ih =>
    cases b with
    | nil => exact h.elim
    | cons y b =>
      intro j c c' h1 h2
      cases j with
      | zero => obtain rfl := Option.some.inj h1; obtain rfl := Option.some.inj h2; exact h.1
      | succ j => exact ih h.2 j c c' (by simpa using h1) (by simpa using h2)
/-- A contract, met with more than it asks. -/
theorem Den.le {f : FuncId} {args args' : List M} {ob : List Ob} {Q : M → List Ob → Prop} (h : Den P f args' ob Q) (hl : LeMs args args') : Den P f args ob Q := by
  refine fun w E vals h1 h2 h3 => h w E vals (h1.trans hl.len) (fun j m' hm => ?_) h3
  have hj := (List.getElem?_eq_some_iff.1 hm).1
  have hlen := hl.len
  have hm0 : args[j]? = some args[j] := List.getElem?_eq_getElem (by omega)
  exact hl.get j _ m' hm0 hm w E ob _ (h2 j _ hm0)
/-- A result, told weaker. -/
theorem Den.leR {f : FuncId} {args : List M} {ob : List Ob} {Q Q' : M → List Ob → Prop} (h : Den P f args ob Q) (hq : ∀ r ob', Q r ob' → ∃ r', LeM r r' ∧ Q' r' ob') : Den P f args ob Q' :=
  fun w E vals h1 h2 h3 => (h w E vals h1 h2 h3).mono fun v w' ⟨r, ob', E', b, c, d⟩ =>
    let ⟨r', k1, k2⟩ := hq _ _ b
    ⟨r', ob', E', k2, k1 _ _ _ _ c, d⟩
/-- A slot, told weaker. -/
theorem awp_le {c : Code} {Q : Exit → St → Prop} {s : St} (t : Nat) (m m' : M) (hg : get s.fr t = some m) (hl : LeM m m') (h : Awp P X c Q ⟨put s.fr t m', s.ob⟩) : Awp P X c Q s := fun a w hr => by
  obtain ⟨E, h1, h2, h3, h4⟩ := hr
  refine h a w ⟨E, fun u q hu => ?_, h2, h3, h4⟩
  simp only [get_put] at hu
  split at hu
  · rename_i eq
    subst eq
    obtain rfl := Option.some.inj hu
    obtain ⟨p, q⟩ := h1 _ _ hg
    exact ⟨p, hl _ _ _ _ q⟩
  · exact h1 u q hu

/-! ### an own slice given up -/
mutual
/-- Do all references lead below n? -/
def ltB (n : Nat) : M → Bool
  | .c _ => true
  | .ms i _ _ _ => decide (i < n)
  | .mp i _ _ => decide (i < n)
  | .mi _ i _ _ => decide (i < n)
  | .it i => decide (i < n)
  | .junk => true
  | .agg ms => ltBs n ms
  | .tup ms => ltBs n ms
  | .mf _ a b => ltBs n a && ltBs n b
def ltBs (n : Nat) : List M → Bool
  | [] => true
  | m :: r => ltB n m && ltBs n r
end
theorem ltBs_up (n : Nat) (cs : List C) : ltBs n (up cs) = true := by
  induction cs with
  | nil => rfl
  | cons c cs ih =>
    simp only [up, List.map_cons, ltBs, ltB, Bool.true_and]
    exact ih
mutual
theorem lt_of_ltB {n : Nat} : ∀ {m : M}, ltB n m = true → Lt n m
  | .c x, h => .c x
  | .ms i g off k, h => .ms _ _ _ _ (by simpa [ltB] using h)
  | .mp i g off, h => .mp _ _ _ (by simpa [ltB] using h)
  | .mi t i g off, h => .mi _ _ _ _ (by simpa [ltB] using h)
  | .it i, h => .it _ (by simpa [ltB] using h)
  | .junk, h => .junk
  | .agg ms, h => .agg _ (lt_of_ltBs (by simpa only [ltB] using h))
  | .tup ms, h => .tup _ (lt_of_ltBs (by simpa only [ltB] using h))
  | .mf fn a b, h => .mf _ _ _ (lt_of_ltBs (by simp only [ltB, Bool.and_eq_true] at h; exact h.1)) (lt_of_ltBs (by simp only [ltB, Bool.and_eq_true] at h; exact h.2))
theorem lt_of_ltBs {n : Nat} : ∀ {ms : List M}, ltBs n ms = true → ∀ (j : Nat) (m : M), ms[j]? = some m → Lt n m
  | [], h, j, m, hm => by simp at hm
  | x :: r, h, j, m, hm => by
    simp only [ltBs, Bool.and_eq_true] at h
    cases j with
    | zero => obtain rfl := Option.some.inj hm; exact lt_of_ltB h.1
    | succ j => exact lt_of_ltBs h.2 j m (by simpa using hm)
end

theorem step_give2 {w w' : World} {E E' : Env} {ob mid ext : List Ob} (hs : Step w E ob w' E' ((ob ++ mid) ++ ext)) (h0 : ∀ (i : Nat) (o : Ob) (j : Nat) (m : M), (ob ++ mid)[i]? = some o → o.iter = none → o.cs[j]? = some m → Lt (ob ++ mid).length m) :
    Step w E ob w' { E' with st := fun b => E'.st b ∨ ∃ (i : Nat) (o : Ob), ext[i]? = some o ∧ o.nil = false ∧ b = E'.blk ((ob ++ mid).length + i) } (ob ++ mid) := by
  obtain ⟨hh, hx, hb⟩ := hs
  generalize hom : ob ++ mid = om at *
  have hinc : ∀ (i : Nat) (q : Ob), om[i]? = some q → (om ++ ext)[i]? = some q := fun i q hq => by
    rw [List.getElem?_append_left (List.getElem?_eq_some_iff.1 hq).1]; exact hq
  have hnew : ∀ (i : Nat) (q : Ob), ext[i]? = some q → (om ++ ext)[om.length + i]? = some q := fun i q hq => by
    rw [List.getElem?_append_right (by omega)]; simpa using hq
  have hne : ∀ (i k : Nat) (q o : Ob), om[i]? = some q → q.nil = false → ext[k]? = some o → o.nil = false → E'.blk i ≠ E'.blk (om.length + k) := fun i k q o hq hqn ho hon he => by
    have h1 := hh.inj i (om.length + k) q o (hinc i q hq) (hnew k o ho) hqn hon he
    have h2 := (List.getElem?_eq_some_iff.1 hq).1
    omega
  have hext : Ext w' E' (om ++ ext) w' { E' with st := fun b => E'.st b ∨ ∃ (i : Nat) (o : Ob), ext[i]? = some o ∧ o.nil = false ∧ b = E'.blk (om.length + i) } (om ++ ext) :=
    ⟨fun b hb => ⟨.inl hb, rfl⟩, fun i q hq => ⟨q, hq, Nat.le_refl _, rfl, fun _ => rfl, fun _ => ⟨rfl, rfl, rfl, rfl⟩⟩⟩
  refine ⟨⟨fun i q hq => ?_, fun i j oi oj hi hj ni nj he => hh.inj i j oi oj (hinc i oi hi) (hinc j oj hj) ni nj he, fun b hb => ?_, fun i q hq hn => ?_⟩, ⟨fun b hb => ⟨.inl (hx.st b hb).1, (hx.st b hb).2⟩, fun i q hq => ?_⟩, ⟨hb.os, hb.tape, hb.output, hb.size, hb.block, fun b h => .inl (hb.st b h), fun b h => ?_, fun i q hq hn => hb.own i q (hinc i q hq) hn⟩⟩
  · have h1 := hh.obj i q (hinc i q hq)
    unfold ObOK at h1 ⊢
    split
    · rename_i s p hit
      rw [hit] at h1
      exact h1
    · rename_i hit
      rw [hit] at h1
      refine ⟨h1.1, fun hn => ?_⟩
      obtain ⟨arr, lo, hi, e1, e2, e3, e4⟩ := h1.2 hn
      refine ⟨arr, lo, hi, e1, e2, e3, fun j m hm => ?_⟩
      obtain ⟨y, hy, q1, q2⟩ := e4 j m hm
      exact ⟨y, hy, q1, rep_lower (q2.keep hext) (h0 i q j m hq hit hm)⟩
  · rcases hb with hb | ⟨i, o, ho, hn, rfl⟩
    · exact hh.stb b hb
    · exact (hh.own _ o (hnew i o ho) hn).2
  · obtain ⟨a, b⟩ := hh.own i q (hinc i q hq) hn
    refine ⟨fun hs => ?_, b⟩
    rcases hs with hs | ⟨k, o, ho, hon, he⟩
    · exact a hs
    · exact hne i k q o hq hn ho hon he
  · obtain ⟨q', hq', r⟩ := hx.ob i q hq
    have hlt := (List.getElem?_eq_some_iff.1 hq).1
    have : om[i]? = some q' := by rw [← hq', List.getElem?_append_left (by rw [← hom]; simp; omega)]
    exact ⟨q', this, r⟩
  · rcases h with h | ⟨i, o, ho, hn, rfl⟩
    · exact hb.st_of b h
    · rcases hb.own _ o (hnew i o ho) hn with h | hge
      · exact .inr (.inl h)
      · exact .inr (.inr hge)

/-- What stood before the call does not lead to what came later. -/
theorem cells_lt {w : World} {E : Env} {ob : List Ob} (h : HeapOK w E ob) : ∀ (i : Nat) (o : Ob) (j : Nat) (m : M), ob[i]? = some o → o.cs[j]? = some m → o.iter = none → Lt ob.length m := fun i o j m hi hj hit => by
  have h1 := h.obj i o hi
  unfold ObOK at h1
  rw [hit] at h1
  cases hn : o.nil with
  | true => rw [h1.1 hn] at hj; simp at hj
  | false =>
    obtain ⟨arr, lo, hi', e1, e2, e3, e4⟩ := h1.2 hn
    obtain ⟨y, hy, q1, q2⟩ := e4 j m hj
    exact lt_of_rep q2

theorem lt_mono {n k : Nat} (h : n ≤ k) {m : M} (hm : Lt n m) : Lt k m := by
  induction hm with
  | c x => exact .c x
  | agg ms h ih => exact .agg _ ih
  | tup ms h ih => exact .tup _ ih
  | ms i g off q h => exact .ms _ _ _ _ (by omega)
  | mp i g off h => exact .mp _ _ _ (by omega)
  | mi t i g off h => exact .mi _ _ _ _ (by omega)
  | mf fn a b h1 h2 ih1 ih2 => exact .mf _ _ _ ih1 ih2
  | it i h => exact .it _ (by omega)
  | junk => exact .junk
theorem get_mem {fr : List (Nat × M)} {t : Nat} {m : M} (h : get fr t = some m) : (t, m) ∈ fr := by
  induction fr with
  | nil => simp [get] at h
  | cons p r ih =>
    obtain ⟨u, q⟩ := p
    simp only [get] at h
    split at h
    · rename_i e; subst e; obtain rfl := Option.some.inj h; simp
    · exact List.mem_cons_of_mem _ (ih h)
/-- The last of the own objects, a slice's, is given up: from now on it is a datum that nobody writes. -/
theorem awp_frz {c : Code} {Q : Exit → St → Prop} {fr : List (Nat × M)} {S : List Ob} (t : Nat) (ob mid : List Ob) (o : Ob) (cs : List C) (n : Nat) (hX : X.ob = ob ∧ HeapOK X.w X.E X.ob) (hS : S = ob ++ (mid ++ [o]))
    (hg : get fr t = some (.ms (ob.length + mid.length) o.gen 0 n)) (hcs : o.cs = up cs) (hfr : fr.all (fun p => p.1 == t || ltB (ob.length + mid.length) p.2) = true) (hmid : mid.all (fun q => q.cs.all (ltB (ob.length + mid.length))) = true)
    (h : Awp P X c Q ⟨put fr t (.c (.sl cs n false)), ob ++ mid⟩) : Awp P X c Q ⟨fr, S⟩ := fun a w hr => by
  obtain ⟨E, h1, h2, h3, h4⟩ := hr
  simp only at h1 h4
  subst hS
  obtain ⟨hXo, hXh⟩ := hX
  rw [← List.append_assoc] at h1 h4
  rw [hXo] at hXh
  have hlt : ∀ (i : Nat) (q : Ob) (j : Nat) (m : M), (ob ++ mid)[i]? = some q → q.iter = none → q.cs[j]? = some m → Lt (ob ++ mid).length m := by
    intro i q j m hi hit hj
    by_cases hlt : i < ob.length
    · rw [List.getElem?_append_left hlt] at hi
      exact lt_mono (by simp) (cells_lt hXh i q j m hi hj hit)
    · rw [List.getElem?_append_right (by omega)] at hi
      have hq := List.all_eq_true.1 hmid q (List.mem_of_getElem? hi)
      have hm := List.all_eq_true.1 hq m (List.mem_of_getElem? hj)
      have := lt_of_ltB hm
      rwa [List.length_append]
  have h4' : Step X.w X.E ob w E ((ob ++ mid) ++ [o]) := by rw [← hXo]; rw [← hXo] at h4; exact h4
  have hst := step_give2 h4' hlt
  refine h a w ⟨_, fun u m hu => ?_, h2, h3, by rw [hXo]; exact hst⟩
  simp only [get_put] at hu
  split at hu
  · rename_i e
    subst e
    obtain rfl := Option.some.inj hu
    obtain ⟨p, q⟩ := h1 _ _ hg
    refine ⟨p, ?_⟩
    refine rep_frozen (k := 0) (o := o) (g := o.gen) h4.heap rfl rfl hcs (by simpa using q) false (by simp) (fun hn => ?_)
    have hob := h4.heap.obj (ob ++ mid).length o (by rw [List.getElem?_append_right (by omega)]; simp)
    unfold ObOK at hob
    split at hob
    · rw [hob.2] at hn; simp at hn
    · have := hob.1 hn
      rw [hcs] at this
      simpa [up] using this
  · rename_i hne
    obtain ⟨p, q⟩ := h1 u m hu
    refine ⟨p, ?_⟩
    have hb := List.all_eq_true.1 hfr (u, m) (get_mem hu)
    have hb : ltB (ob.length + mid.length) m = true := by
      simp only [Bool.or_eq_true, beq_iff_eq] at hb
      rcases hb with hb | hb
      · exact absurd hb.symm hne
      · exact hb
    refine rep_lower (ext := [o]) (q.keep ?_) (by rw [List.length_append]; exact lt_of_ltB hb)
    exact ⟨fun b hb => ⟨.inl hb, rfl⟩, fun i q hq => ⟨q, hq, Nat.le_refl _, rfl, fun _ => rfl, fun _ => ⟨rfl, rfl, rfl, rfl⟩⟩⟩

/-- A counted loop: the state at each round's head, told by the round's number and what else may vary. -/
theorem awp_for {G : Type} {c : Code} {Q : Exit → St → Prop} {s : St} (ts : List Nat) (S : Nat → G → St) (H : Nat → G → Prop) (n : Nat) (g0 : G) (h0 : H 0 g0) (hs : (⟨keep s.fr ts, s.ob⟩ : St) = S 0 g0)
    (h : ∀ (i : Nat) (g : G) (Q1 : Exit → St → Prop), i ≤ n → H i g → (∀ s' (g' : G), i < n → H (i + 1) g' → (⟨keep s'.fr ts, s'.ob⟩ : St) = S (i + 1) g' → Q1 .normal s') → (∀ e s', isN e = false → Q e s' → Q1 e s') → Awp P X c Q1 (S i g)) : Awp P X (.loop c) Q s := by
  refine awp_loop_g ts (fun m s => ∃ i g, i ≤ n ∧ m = n - i ∧ H i g ∧ s = S i g) n ⟨0, g0, by omega, by omega, h0, hs⟩ ?_
  rintro m s Q1 ⟨i, g, hi, rfl, hH, rfl⟩ hn ho
  exact h i g Q1 hi hH (fun s' g' hlt hH' e => hn s' ⟨n - (i + 1), by omega, i + 1, g', by omega, rfl, hH', e⟩) ho

/-- A call that answers with one datum and changes no object. -/
theorem Den.det {f : FuncId} {args : List M} {ob ob2 : List Ob} {m : M} {K : M → List Ob → Prop} (h : Den P f args ob fun r ob' => r = m ∧ ob' = ob2) (k : K m ob2) : Den P f args ob K :=
  h.mono fun r ob' ⟨e1, e2⟩ => by rw [e1, e2]; exact k
/-- Objects that a function leaves behind, and to which its answer does not lead. -/
theorem Den.drop {f : FuncId} {args : List M} {ob : List Ob} {Q Q' : M → List Ob → Prop} (h : Den P f args ob Q)
    (hq : ∀ r ob', Q r ob' → ∃ (ext : List Ob), Lt ob.length r ∧ ob' = ob ++ ext ∧ Q' r ob) : Den P f args ob Q' := by
  refine fun w E vals h1 h2 h3 => (h w E vals h1 h2 h3).mono ?_
  rintro v w' ⟨r, ob', E', q, hr, hs⟩
  obtain ⟨ext, hl, rfl, hq'⟩ := hq r ob' q
  refine ⟨r, ob, _, hq', ?_, step_give h3 hs⟩
  refine rep_lower (ext := ext) (hr.keep ?_) hl
  exact ⟨fun b hb => ⟨.inl hb, rfl⟩, fun i q hq => ⟨q, hq, Nat.le_refl _, rfl, fun _ => rfl, fun _ => ⟨rfl, rfl, rfl, rfl⟩⟩⟩
/-- The answer is a datum; what was left behind is forgotten. -/
theorem Den.dropC {f : FuncId} {args : List M} {ob : List Ob} {c : C} (h : Den P f args ob fun r ob' => r = .c c ∧ ∃ e, ob' = ob ++ e) : Den P f args ob fun r ob' => r = .c c ∧ ob' = ob :=
  h.drop fun r ob' ⟨h1, e, h2⟩ => ⟨e, by rw [h1]; exact .c _, h2, h1, rfl⟩
end Go.Av
