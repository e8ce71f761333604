/- A region that draws its order: the theorem. -/
import Derived.Test.YtofomnllcmgfeaaAv16
set_option linter.unusedVariables false
set_option linter.unusedSimpArgs false
namespace Go.Av
open Go

variable {P : Program} {X : Ctx}

def aftersOf (o : Oper) : List Nat := (o.after.toList.filter (Region.binds .any ·)).map (·.on)
def clOf (l : List Oper) : Nat → Nat → List Nat
  | 0, _ => []
  | k + 1, i => match l[i]? with
    | some o => aftersOf o ++ (aftersOf o).flatMap (clOf l k)
    | none => []
def ordAt (l : List Oper) (i : Nat) (o : Oper) (j : Nat) : Bool :=
  j == i || match (l[j]?).bind (·.dst) with
    | none => true
    | some t => !((readsOf o l.toArray ++ o.dst.toList).contains t) || (if j < i then (clOf l l.length i).contains j else (clOf l l.length j).contains i)
def ordOK (l : List Oper) : Bool :=
  (List.range l.length).all fun i => match l[i]? with
    | none => true
    | some o => (aftersOf o).all (· < i) && (List.range l.length).all (ordAt l i o)

theorem ord_afters {l : List Oper} (h : ordOK l = true) {i : Nat} {o : Oper} (ho : l[i]? = some o) : ∀ e ∈ aftersOf o, e < i := by
  have hi := (List.getElem?_eq_some_iff.1 ho).1
  have := (List.all_eq_true.1 h) i (by simpa using hi)
  rw [ho] at this
  simp only [Bool.and_eq_true, List.all_eq_true, decide_eq_true_eq] at this
  exact this.1
theorem ord_at {l : List Oper} (h : ordOK l = true) {i j : Nat} {o oj : Oper} (ho : l[i]? = some o) (hj : l[j]? = some oj) (hne : j ≠ i) {t : Nat} (ht : oj.dst = some t) (hr : t ∈ readsOf o l.toArray ++ o.dst.toList) :
    (j < i → j ∈ clOf l l.length i) ∧ (i < j → i ∈ clOf l l.length j) := by
  have hi := (List.getElem?_eq_some_iff.1 ho).1
  have hj' := (List.getElem?_eq_some_iff.1 hj).1
  have := (List.all_eq_true.1 h) i (by simpa using hi)
  rw [ho] at this
  simp only [Bool.and_eq_true, List.all_eq_true] at this
  have h2 := this.2 j (by simpa using hj')
  unfold ordAt at h2
  rw [hj] at h2
  simp only [Option.bind_some, ht, Bool.or_eq_true, beq_iff_eq, Bool.not_eq_true'] at h2
  rcases h2 with h2 | h2 | h2
  · exact absurd h2 hne
  · have : (readsOf o l.toArray ++ o.dst.toList).contains t = true := List.contains_iff_mem.2 hr
    rw [this] at h2
    simp at h2
  · by_cases hlt : j < i
    · rw [if_pos hlt] at h2
      exact ⟨fun _ => List.contains_iff_mem.1 h2, fun h => by omega⟩
    · rw [if_neg hlt] at h2
      exact ⟨fun h => absurd h hlt, fun _ => List.contains_iff_mem.1 h2⟩

/-- What has been carried out is closed under what must stand ahead. -/
def Closed (l : List Oper) (p : Nat → Bool) : Prop := ∀ (i : Nat) o, l[i]? = some o → p i = true → ∀ e ∈ aftersOf o, p e = true
theorem cl_listed {l : List Oper} {p : Nat → Bool} (hc : Closed l p) : ∀ (k i : Nat) (o : Oper), l[i]? = some o → (∀ e ∈ aftersOf o, p e = true) → ∀ j ∈ clOf l k i, p j = true
  | 0, i, o, _, _, j, hj => by simp [clOf] at hj
  | k + 1, i, o, ho, ha, j, hj => by
    simp only [clOf, ho, List.mem_append, List.mem_flatMap] at hj
    rcases hj with hj | ⟨e, he, hj⟩
    · exact ha j hj
    · cases he2 : l[e]? with
      | none =>
        cases k with
        | zero => simp [clOf] at hj
        | succ k => simp [clOf, he2] at hj
      | some oe => exact cl_listed hc k e oe he2 (hc e oe he2 (ha e he)) j hj

/-! ### frames of what has been carried out -/
def frP (p : Nat → Bool) : Nat → List Oper → List M → List (Nat × M) → List (Nat × M)
  | k, o :: l, m :: ms, fr => frP p (k + 1) l ms (if p k then putO fr o.dst m else fr)
  | _, _, _, fr => fr
theorem get_putO (fr : List (Nat × M)) (d : Option Nat) (m : M) (t : Nat) : get (putO fr d m) t = if d = some t then some m else get fr t := by
  cases d with
  | none => simp [putO]
  | some u => simp only [putO, get_put, Option.some.injEq]
theorem frP_congr (p q : Nat → Bool) (t : Nat) : ∀ (l : List Oper) (k : Nat) (ms : List M) (fr fr' : List (Nat × M)), get fr t = get fr' t → (∀ (j : Nat) o, l[j]? = some o → o.dst = some t → p (k + j) = q (k + j)) → get (frP p k l ms fr) t = get (frP q k l ms fr') t
  | [], k, ms, fr, fr', h, _ => by simpa [frP] using h
  | o :: l, k, [], fr, fr', h, _ => by simpa [frP] using h
  | o :: l, k, m :: ms, fr, fr', h, hp => by
    simp only [frP]
    refine frP_congr p q t l (k + 1) ms _ _ ?_ (fun j o' ho hd => by have := hp (j + 1) o' (by simpa using ho) hd; rwa [show k + 1 + j = k + (j + 1) by omega])
    by_cases hd : o.dst = some t
    · have := hp 0 o rfl hd
      simp only [Nat.add_zero] at this
      rw [this]
      by_cases hq : q k = true
      · simp [-putO, hq, get_putO, hd]
      · simp [hq, h]
    · have e1 : ∀ (b : Bool) (f : List (Nat × M)), get (if b = true then putO f o.dst m else f) t = get f t := fun b f => by
        cases b <;> simp [-putO, get_putO, hd]
      rw [e1, e1, h]
theorem frP_none (p : Nat → Bool) (t : Nat) (l : List Oper) : ∀ (k : Nat) (ms : List M) (fr : List (Nat × M)), (∀ (j : Nat) o, l[j]? = some o → p (k + j) = true → o.dst ≠ some t) → get (frP p k l ms fr) t = get fr t := by
  induction l with
  | nil => intro k ms fr _; simp [frP]
  | cons o l ih =>
    intro k ms fr h
    cases ms with
    | nil => simp [frP]
    | cons m ms =>
      simp only [frP]
      rw [ih (k + 1) ms _ (fun j o' ho hp => h (j + 1) o' (by simpa using ho) (by rwa [show k + (j + 1) = k + 1 + j by omega]))]
      by_cases hp : p k = true
      · have := h 0 o rfl (by simpa using hp)
        simp [-putO, hp, get_putO, this]
      · simp [hp]
theorem frP_last (p : Nat → Bool) (t : Nat) (l : List Oper) : ∀ (k : Nat) (ms : List M) (fr : List (Nat × M)) (i : Nat) (o : Oper) (m : M), l[i]? = some o → ms[i]? = some m → o.dst = some t → p (k + i) = true → (∀ (j : Nat) o', i < j → l[j]? = some o' → p (k + j) = true → o'.dst ≠ some t) → get (frP p k l ms fr) t = some m := by
  induction l with
  | nil => intro k ms fr i o m ho; simp at ho
  | cons o' l ih =>
    intro k ms fr i o m ho hm hd hp hlater
    cases ms with
    | nil => simp at hm
    | cons m' ms =>
      simp only [frP]
      cases i with
      | zero =>
        obtain rfl := Option.some.inj ho
        obtain rfl := Option.some.inj hm
        simp only [Nat.add_zero] at hp
        rw [frP_none p t l (k + 1) ms _ (fun j o2 h2 hp2 => hlater (j + 1) o2 (by omega) (by simpa using h2) (by rwa [show k + (j + 1) = k + 1 + j by omega]))]
        simp [-putO, hp, get_putO, hd]
      | succ i =>
        exact ih (k + 1) ms _ i o m (by simpa using ho) (by simpa using hm) hd (by rwa [show k + 1 + i = k + (i + 1) by omega]) (fun j o2 hij h2 hp2 => hlater (j + 1) o2 (by omega) (by simpa using h2) (by rwa [show k + (j + 1) = k + 1 + j by omega]))
theorem frP_false (p : Nat → Bool) (l : List Oper) : ∀ (k : Nat) (ms : List M) (fr : List (Nat × M)), (∀ j, k ≤ j → p j = false) → frP p k l ms fr = fr := by
  induction l with
  | nil => intro k ms fr _; simp [frP]
  | cons o l ih =>
    intro k ms fr h
    cases ms with
    | nil => simp [frP]
    | cons m ms =>
      simp only [frP]
      rw [h k (Nat.le_refl _)]
      simp only [Bool.false_eq_true, if_false]
      exact ih (k + 1) ms fr (fun j hj => h j (by omega))

/-! ### the text's order -/
/-- How many cuts lie before a place. A cut: an operation that changes objects; it stands in order with all others. -/
def nc (cuts : List Nat) (i : Nat) : Nat := (cuts.filter fun c => decide (c < i)).length
def cutOK (l : List Oper) (cuts : List Nat) : Bool := cuts.all fun c => decide (c < l.length) && (List.range l.length).all fun i => (!decide (i < c) || (clOf l l.length c).contains i) && (!decide (c < i) || (clOf l l.length i).contains c)
def StepOK (P : Program) (N : Nat) (ops : Array Oper) (ob ob2 : List Ob) (fr : List (Nat × M)) (o : Oper) (m : M) : Prop :=
  dstOK N o = true ∧ ((guardV ops fr o = some false ∧ m = .tup [] ∧ ob2 = ob) ∨ (guardV ops fr o = some true ∧
    ((∃ f args, callOf P ob fr o.op = some (f, args) ∧ Den P f args ob fun r ob' => r = m ∧ ob' = ob2) ∨ (callOf P ob fr o.op = none ∧ evOp P fr ob o.op o.type = some (m, ob2)))))
def TextR (P : Program) (N : Nat) (ops : Array Oper) (cuts : List Nat) (obs : Nat → List Ob) : Nat → List Oper → List M → List (Nat × M) → Prop
  | _, [], [], _ => True
  | k, o :: l, m :: ms, fr => StepOK P N ops (obs (nc cuts k)) (obs (nc cuts (k + 1))) fr o m ∧ TextR P N ops cuts obs (k + 1) l ms (putO fr o.dst m)
  | _, _, _, _ => False
theorem text_at {N : Nat} {ops : Array Oper} {cuts : List Nat} {obs : Nat → List Ob} : ∀ (l : List Oper) (k : Nat) (ms : List M) (fr : List (Nat × M)), TextR P N ops cuts obs k l ms fr → ∀ (i : Nat) o, l[i]? = some o → ∃ m, ms[i]? = some m ∧ StepOK P N ops (obs (nc cuts (k + i))) (obs (nc cuts (k + i + 1))) (frP (fun j => decide (j < k + i)) k l ms fr) o m
  | [], k, ms, fr, h, i, o, ho => by simp at ho
  | o' :: l, k, [], fr, h, i, o, ho => by simp [TextR] at h
  | o' :: l, k, m :: ms, fr, h, i, o, ho => by
    obtain ⟨h1, h2⟩ := h
    cases i with
    | zero =>
      obtain rfl := Option.some.inj ho
      refine ⟨m, rfl, ?_⟩
      rw [frP_false _ _ _ _ _ (fun j hj => by simp; omega)]
      exact h1
    | succ i =>
      obtain ⟨m', hm', hs⟩ := text_at l (k + 1) ms _ h2 i o (by simpa using ho)
      refine ⟨m', by simpa using hm', ?_⟩
      simp only [frP]
      rw [if_pos (by simp)]
      rwa [show k + (i + 1) = k + 1 + i by omega]
theorem cut_at {l : List Oper} {cuts : List Nat} (h : cutOK l cuts = true) {c : Nat} (hc : c ∈ cuts) : c < l.length ∧ ∀ i, i < l.length → (i < c → i ∈ clOf l l.length c) ∧ (c < i → c ∈ clOf l l.length i) := by
  have := List.all_eq_true.1 h c hc
  simp only [Bool.and_eq_true, decide_eq_true_eq, List.all_eq_true, List.mem_range, Bool.or_eq_true, Bool.not_eq_true', decide_eq_false_iff_not, List.contains_iff_mem] at this
  refine ⟨this.1, fun i hi => ⟨fun h1 => ?_, fun h1 => ?_⟩⟩
  · rcases (this.2 i hi).1 with h2 | h2
    · exact absurd h1 h2
    · exact h2
  · rcases (this.2 i hi).2 with h2 | h2
    · exact absurd h1 h2
    · exact h2

theorem cnt_set (l : List Bool) (i : Nat) (h : l[i]? = some false) : ((l.set i true).filter (!·)).length + 1 = (l.filter (!·)).length := by
  induction l generalizing i with
  | nil => simp at h
  | cons b l ih =>
    cases i with
    | zero => simp at h; subst h; simp
    | succ i =>
      have := ih i (by simpa using h)
      cases b <;> simp at this ⊢ <;> omega

theorem upon_then (o : Oper) (a : Act) (w : World) (K : Act → World → Prop) (Q : Exit → Act → World → Prop) : (o.wp P a w K (Exit.then K Q) ∨ (o.asks P a w ∧ LetsOut (Exit.then K Q))) ↔ (o.wp P a w K Q ∨ (o.asks P a w ∧ LetsOut Q)) := by
  have h1 : LetsOut (Exit.then K Q) = LetsOut Q := rfl
  rw [h1]
  have h2 : o.wp P a w K (Exit.then K Q) = o.wp P a w K Q := by
    unfold Oper.wp
    generalize (execOp a.eval o).run P w = r
    cases r with
    | ok x w' =>
      cases x <;> first
        | rfl
        | (simp only [Oper.upon]
           congr 1
           funext e w''
           cases e <;> rfl)
    | halt h w' => cases h <;> rfl
  rw [h2]
theorem any_of {l : List Oper} {ms : List M} {fr : List (Nat × M)} {cuts : List Nat} {obs : Nat → List Ob} {Q : Exit → Act → World → Prop} (hord : ordOK l = true) (hcut : cutOK l cuts = true) (ht : TextR P X.N l.toArray cuts obs 0 l ms fr) (hQ : ∀ a w, Rel X ⟨frP (fun _ => true) 0 l ms fr, obs (nc cuts l.length)⟩ a w → Q .normal a w) :
    ∀ (fuel : Nat) (listed : Array Bool) (a : Act) (w : World), listed.size = l.length → Closed l (fun j => listed.getD j false) → (listed.toList.filter (!·)).length ≤ fuel → Rel X ⟨frP (fun j => listed.getD j false) 0 l ms fr, obs ((cuts.filter fun c => listed.getD c false).length)⟩ a w → wpAny P .any l.toArray Q fuel listed a w := by
  have done : ∀ (listed : Array Bool) (a : Act) (w : World), listed.size = l.length → Closed l (fun j => listed.getD j false) → Region.ready .any l.toArray listed = [] → Rel X ⟨frP (fun j => listed.getD j false) 0 l ms fr, obs ((cuts.filter fun c => listed.getD c false).length)⟩ a w → Q .normal a w := by
    intro listed a w hsz hcl hr hrel
    have all : ∀ i, i < l.length → listed.getD i false = true := by
      intro i
      induction i using Nat.strongRecOn with
      | _ i ih =>
        intro hi
        by_cases hl : listed.getD i false = true
        · exact hl
        · exfalso
          have hmem : i ∈ Region.ready .any l.toArray listed := by
            rw [mem_ready]
            refine ⟨?_, l[i], by simp [hi], fun e he hb => ?_⟩
            · have h1 : i < listed.size := by omega
              simp only [Array.getD_eq_getD_getElem?, Array.getElem?_eq_getElem h1, Option.getD_some] at hl ⊢
              simpa using hl
            · have he' : e.on ∈ aftersOf l[i] := by
                unfold aftersOf
                simp only [List.mem_map, List.mem_filter]
                exact ⟨e, ⟨by simpa using he, hb⟩, rfl⟩
              have hlt := ord_afters hord (i := i) (o := l[i]) (by simp [hi]) _ he'
              exact ih _ hlt (by omega)
          rw [hr] at hmem
          simp at hmem
    have hcnt : (cuts.filter fun c => listed.getD c false) = cuts.filter fun c => decide (c < l.length) := List.filter_congr fun c hc => by
      have := (cut_at hcut hc).1
      rw [all c this]; simp [this]
    rw [hcnt] at hrel
    refine hQ a w (hrel.weak ⟨fun t m hg => ?_, rfl⟩)
    simp only at hg ⊢
    rw [← hg]
    exact frP_congr _ _ t l 0 ms fr fr rfl (fun j o hj _ => by
      have := all j (List.getElem?_eq_some_iff.1 hj).1
      simpa using this)
  intro fuel
  induction fuel with
  | zero =>
    intro listed a w hsz hcl hcnt hrel
    have hr : Region.ready .any l.toArray listed = [] := by
      rw [List.eq_nil_iff_forall_not_mem]
      intro i hi
      rw [mem_ready] at hi
      obtain ⟨h1, o, ho, _⟩ := hi
      have hlt : i < listed.size := by
        have := (Array.getElem?_eq_some_iff.1 ho).1
        simp at this
        omega
      have : false ∈ listed.toList.filter (!·) := by
        rw [List.mem_filter]
        simp only [Array.getD_eq_getD_getElem?, Array.getElem?_eq_getElem hlt, Option.getD_some] at h1
        exact ⟨by rw [← h1]; simp, rfl⟩
      have := List.length_pos_of_mem this
      omega
    exact ⟨hr, done listed a w hsz hcl hr hrel⟩
  | succ fuel ih =>
    intro listed a w hsz hcl hcnt hrel
    refine ⟨fun hr => done listed a w hsz hcl hr hrel, fun i hi => ?_⟩
    rw [mem_ready] at hi
    obtain ⟨h1, o, ho, hafter⟩ := hi
    have ho' : l[i]? = some o := by simpa using ho
    have hil : i < l.length := (List.getElem?_eq_some_iff.1 ho').1
    have hlt : i < listed.size := by omega
    have hni : listed.getD i false = false := by
      simp only [Array.getD_eq_getD_getElem?, Array.getElem?_eq_getElem hlt, Option.getD_some] at h1 ⊢
      exact h1
    have hafters : ∀ e ∈ aftersOf o, listed.getD e false = true := by
      intro e he
      unfold aftersOf at he
      simp only [List.mem_map, List.mem_filter] at he
      obtain ⟨x, ⟨hx, hb⟩, rfl⟩ := he
      exact hafter x (by simpa using hx) hb
    have hcli : ∀ j ∈ clOf l l.length i, listed.getD j false = true := cl_listed hcl l.length i o ho' hafters
    have hclj : ∀ (j : Nat) oj, l[j]? = some oj → listed.getD j false = true → i ∉ clOf l l.length j := by
      intro j oj hj hlj hmem
      have := cl_listed hcl l.length j oj hj (hcl j oj hj hlj) i hmem
      rw [hni] at this
      simp at this
    -- the frame as the text has it, for what this operation reads
    obtain ⟨m, hm, hdst, hstep⟩ := text_at l 0 ms fr ht i o ho'
    have hreads : ∀ t ∈ readsOf o l.toArray, get (frP (fun j => decide (j < 0 + i)) 0 l ms fr) t = get (frP (fun j => listed.getD j false) 0 l ms fr) t := by
      intro t hmem
      refine frP_congr _ _ t l 0 ms fr fr rfl (fun j oj hj hd => ?_)
      simp only [Nat.zero_add]
      by_cases hji : j = i
      · subst hji
        rw [hni]; simp
      · obtain ⟨p1, p2⟩ := ord_at hord ho' hj hji hd (by simp [hmem])
        by_cases hlt2 : j < i
        · rw [hcli j (p1 hlt2)]; simp [hlt2]
        · have : i < j := by omega
          have hn : listed.getD j false = false := by
            cases hb : listed.getD j false with
            | false => rfl
            | true => exact absurd (p2 this) (hclj j oj hj hb)
          rw [hn]; simp [hlt2]
    have hbef : (cuts.filter fun c => listed.getD c false) = cuts.filter fun c => decide (c < 0 + i) := List.filter_congr fun c hc => by
      obtain ⟨_, hcc⟩ := cut_at hcut hc
      obtain ⟨q1, q2⟩ := hcc i hil
      rw [Nat.zero_add]
      by_cases hci : c < i
      · rw [hcli c (q2 hci)]; simp [hci]
      · by_cases e : c = i
        · subst e; rw [hni]; simp
        · cases hb : listed.getD c false with
          | false => simp [hci]
          | true =>
            have hclt := (cut_at hcut hc).1
            exact absurd (q1 (by omega)) (hclj c l[c] (List.getElem?_eq_getElem hclt) hb)
    have haft : (cuts.filter fun c => (listed.setIfInBounds i true).getD c false) = cuts.filter fun c => decide (c < 0 + i + 1) := List.filter_congr fun c hc => by
      have h0 : (listed.setIfInBounds i true).getD c false = if i = c then true else listed.getD c false := by
        simp only [Array.getD_eq_getD_getElem?, Array.getElem?_setIfInBounds]
        by_cases e : i = c
        · subst e; simp [hlt]
        · simp [e]
      rw [h0]
      by_cases e : i = c
      · subst e; simp
      · rw [if_neg e]
        have hm1 : (listed.getD c false = true) ↔ c < 0 + i := by
          have h3 : c ∈ (cuts.filter fun c => listed.getD c false) ↔ c ∈ (cuts.filter fun c => decide (c < 0 + i)) := by rw [hbef]
          simp only [List.mem_filter, decide_eq_true_eq] at h3
          constructor
          · intro h; exact (h3.1 ⟨hc, h⟩).2
          · intro h; exact (h3.2 ⟨hc, h⟩).2
        rw [Bool.eq_iff_iff, hm1]
        simp
        omega
    rw [hbef] at hrel
    -- what it leaves
    have hnext : ∀ (a' : Act) (w' : World), Rel X ⟨putO (frP (fun j => listed.getD j false) 0 l ms fr) o.dst m, obs (nc cuts (0 + i + 1))⟩ a' w' → wpAny P .any l.toArray Q fuel (listed.setIfInBounds i true) a' w' := by
      intro a' w' hrel'
      have hget : ∀ j, (listed.setIfInBounds i true).getD j false = if i = j then true else listed.getD j false := by
        intro j
        simp only [Array.getD_eq_getD_getElem?, Array.getElem?_setIfInBounds]
        by_cases e : i = j
        · subst e; simp [hlt]
        · simp [e]
      refine ih _ a' w' (by simpa using hsz) (fun j oj hj hlj e he => ?_) ?_ (hrel'.weak ⟨fun t q hg => ?_, by rw [haft]; rfl⟩)
      · simp only at hlj ⊢
        rw [hget] at hlj ⊢
        by_cases e1 : i = e
        · rw [if_pos e1]
        · rw [if_neg e1]
          by_cases e2 : i = j
          · subst e2
            obtain rfl := Option.some.inj (ho'.symm.trans hj)
            exact hafters e he
          · rw [if_neg e2] at hlj
            exact hcl j oj hj hlj e he
      · have h2 : listed.toList[i]? = some false := by
          rw [Array.getElem?_toList, Array.getElem?_eq_getElem hlt]
          simp only [Array.getD_eq_getD_getElem?, Array.getElem?_eq_getElem hlt, Option.getD_some] at hni
          rw [hni]
        have := cnt_set listed.toList i h2
        rw [Array.toList_setIfInBounds]
        omega
      · simp only at hg ⊢
        rw [← hg, get_putO]
        by_cases hd : o.dst = some t
        · rw [if_pos hd]
          refine (frP_last _ t l 0 ms fr i o m ho' hm hd (by rw [hget]; simp) (fun j oj hij hj hlj hdj => ?_)).symm
          rw [hget, if_neg (by omega)] at hlj
          simp only [Nat.zero_add] at hlj
          obtain ⟨_, p2⟩ := ord_at hord ho' hj (by omega) hdj (by simp [hd])
          exact hclj j oj hj hlj (p2 hij)
        · rw [if_neg hd]
          refine (frP_congr _ _ t l 0 ms fr fr rfl (fun j oj hj hdj => ?_)).symm
          rw [hget]
          by_cases e : i = 0 + j
          · have : i = j := by omega
            subst this
            obtain rfl := Option.some.inj (ho'.symm.trans hj)
            exact absurd hdj hd
          · rw [if_neg e]
    -- the operation itself, as a walk of one
    have one : wpList P l.toArray (Exit.then (wpAny P .any l.toArray Q fuel (listed.setIfInBounds i true)) Q) [o] a w := by
      refine awpOps_sound (X := X) (K := fun s => s = ⟨putO (frP (fun j => listed.getD j false) 0 l ms fr) o.dst m, obs (nc cuts (0 + i + 1))⟩) ?_ [o] _ a w ?_ hrel
      · rintro s a' w' rfl hr
        exact hnext a' w' hr
      · simp only [awpOps_cons, hdst, DstK_true]
        have hg := guardV_congr (ops := l.toArray) hreads
        have hr2 : ∀ t ∈ o.op.operands.toList.flatMap tmpO, get (frP (fun j => decide (j < 0 + i)) 0 l ms fr) t = get (frP (fun j => listed.getD j false) 0 l ms fr) t := fun t ht => hreads t (by unfold readsOf; simp only [List.mem_append]; exact .inl ht)
        rcases hstep with ⟨hgf, rfl, he2⟩ | ⟨hgt, hs⟩
        · rw [← hg, hgf]
          simp only [GuardK_false, awpOps_nil]
          rw [he2]
          rfl
        · rw [← hg, hgt]
          simp only [GuardK_true]
          rw [← callOf_congr hr2]
          rcases hs with ⟨f, args, hc, hden⟩ | ⟨hc, hev⟩ <;> simp only [nc] at hc
          · rw [hc]
            simp only [CallK_some]
            refine hden.mono ?_
            rintro r ob' ⟨rfl, rfl⟩
            simp
          · rw [hc]
            simp only [CallK_none]
            rw [← evOp_congr hr2]
            have hev' := hev
            unfold nc at hev' ⊢
            rw [hev']
            simp only [EvK_some, awpOps_nil]
    unfold wpOp
    rw [ho]
    simp only
    unfold wpList at one
    split
    · rename_i hw
      rw [if_pos hw] at one
      exact (upon_then _ _ _ _ _).1 one
    · rename_i hw
      rw [if_neg hw] at one
      exact one

/-- A region that draws its order. -/
theorem awp_draw {id : Nat} {l : List Oper} {Q : Exit → St → Prop} {s : St} (N : Nat) (hN : X.N = N) (ts : List Nat) (cuts : List Nat) (hm : P.follows .mixedOrders = true) (hord : ordOK l = true) (hcut : cutOK l cuts = true)
    (ms : List M) (obs : Nat → List Ob) (h0 : obs 0 = s.ob) (ht : TextR P N l.toArray cuts obs 0 l ms s.fr) (h : KeepK Q ts ⟨frP (fun _ => true) 0 l ms s.fr, obs (nc cuts l.length)⟩) : Awp P X (.region id l.toArray true) Q s := fun a w hr => by
  subst hN
  refine wp_region_any hm ?_
  obtain ⟨E, h1, h2, h3, h4⟩ := hr
  have hst : Step w E s.ob { w with drawn := w.drawn + 1 } E s.ob := by
    have hext : Ext w E s.ob { w with drawn := w.drawn + 1 } E s.ob := ⟨fun b hb => ⟨hb, rfl⟩, fun i o ho => ⟨o, ho, Nat.le_refl _, rfl, fun _ => rfl, fun _ => ⟨rfl, rfl, rfl, rfl⟩⟩⟩
    exact ⟨⟨fun i o ho => (h4.heap.obj i o ho).keep hext rfl rfl (fun _ => rfl), h4.heap.inj, h4.heap.stb, h4.heap.own⟩, hext, ⟨rfl, rfl, rfl, Nat.le_refl _, fun _ _ _ => rfl, fun _ h => h, fun _ h => .inl h, fun i o ho hn => .inl ⟨i, o, ho, hn, rfl⟩⟩⟩
  have hrel : Rel X s a { w with drawn := w.drawn + 1 } := ⟨E, fun t m hg => ⟨(h1 t m hg).1, (h1 t m hg).2.keep hst.ext⟩, h2, h3, h4.trans hst⟩
  refine any_of hord hcut ht (Q := lift X Q) (fun a w hr => ⟨_, h, hr.weak (weak_keep _ ts)⟩) _ _ _ _ (by simp) (fun i o ho hp => ?_) (by simp) ?_
  · simp [Array.getD_eq_getD_getElem?, Array.getElem?_replicate] at hp
    split at hp <;> simp at hp
  · refine hrel.weak ⟨fun t m hg => ?_, ?_⟩
    rotate_left
    · have : (cuts.filter fun c => (Array.replicate l.toArray.size false).getD c false) = [] := List.filter_eq_nil_iff.2 fun c _ => by
        simp only [Array.getD_eq_getD_getElem?, Array.getElem?_replicate]
        split <;> simp
      simp only [this]
      exact h0
    simp only at hg
    rw [frP_false _ l 0 ms s.fr (fun j _ => by
      simp only [Array.getD_eq_getD_getElem?, Array.getElem?_replicate]
      split <;> rfl)] at hg
    exact hg

end Go.Av
