/- A region that draws its order, as simp walks it. -/
import Derived.Test.YtofomnllcmgfeaaAv17
set_option linter.unusedVariables false
set_option linter.unusedSimpArgs false
namespace Go.Av
open Go

section
variable (P : Program) (N : Nat) (ops : Array Oper) (cuts : List Nat) (K : List (Nat × M) → List Ob → Prop)
/-- May an operation change objects here? -/
def mayB (k : Nat) : Bool := cuts.contains k
def DrawK : Nat → List Oper → List (Nat × M) → List Ob → Prop
  | _, [], fr, ob => K fr ob
  | k, o :: rest, fr, ob => dstOK N o = true ∧
    match guardV ops fr o with
    | none => False
    | some false => DrawK (k + 1) rest (putO fr o.dst (.tup [])) ob
    | some true => match callOf P ob fr o.op with
      | some (f, args) => ∃ m ob2, Den P f args ob (fun r ob' => r = m ∧ ob' = ob2) ∧ (mayB cuts k = false → ob2 = ob) ∧ DrawK (k + 1) rest (putO fr o.dst m) ob2
      | none => match evOp P fr ob o.op o.type with
        | some (m, ob') => (mayB cuts k = false → ob' = ob) ∧ DrawK (k + 1) rest (putO fr o.dst m) ob'
        | none => False
variable (k : Nat) (o : Oper) (rest : List Oper) (fr : List (Nat × M)) (ob : List Ob)
def DEv (r : Option (M × List Ob)) : Prop :=
  match r with
  | some (m, ob') => (mayB cuts k = false → ob' = ob) ∧ DrawK P N ops cuts K (k + 1) rest (putO fr o.dst m) ob'
  | none => False
def DCall (c : Option (FuncId × List M)) : Prop :=
  match c with
  | some (f, args) => ∃ m ob2, Den P f args ob (fun r ob' => r = m ∧ ob' = ob2) ∧ (mayB cuts k = false → ob2 = ob) ∧ DrawK P N ops cuts K (k + 1) rest (putO fr o.dst m) ob2
  | none => DEv P N ops cuts K k o rest fr ob (evOp P fr ob o.op o.type)
def DGuard (g : Option Bool) : Prop :=
  match g with
  | some true => DCall P N ops cuts K k o rest fr ob (callOf P ob fr o.op)
  | some false => DrawK P N ops cuts K (k + 1) rest (putO fr o.dst (.tup [])) ob
  | none => False
@[simp] theorem DrawK_nil : DrawK P N ops cuts K k [] fr ob = K fr ob := rfl
@[simp] theorem DrawK_cons : DrawK P N ops cuts K k (o :: rest) fr ob = (dstOK N o = true ∧ DGuard P N ops cuts K k o rest fr ob (guardV ops fr o)) := by
  unfold DrawK DGuard
  congr 1
  cases h : guardV ops fr o with
  | none => rfl
  | some g =>
    cases g with
    | false => rfl
    | true =>
      simp only [DCall]
      cases h3 : callOf P ob fr o.op with
      | some c => rfl
      | none =>
        simp only [DEv]
@[simp] theorem DGuard_true : DGuard P N ops cuts K k o rest fr ob (some true) = DCall P N ops cuts K k o rest fr ob (callOf P ob fr o.op) := rfl
@[simp] theorem DGuard_false : DGuard P N ops cuts K k o rest fr ob (some false) = DrawK P N ops cuts K (k + 1) rest (putO fr o.dst (.tup [])) ob := rfl
@[simp] theorem DCall_none : DCall P N ops cuts K k o rest fr ob none = DEv P N ops cuts K k o rest fr ob (evOp P fr ob o.op o.type) := rfl
@[simp] theorem DCall_some (f : FuncId) (args : List M) : DCall P N ops cuts K k o rest fr ob (some (f, args)) = ∃ m ob2, Den P f args ob (fun r ob' => r = m ∧ ob' = ob2) ∧ (mayB cuts k = false → ob2 = ob) ∧ DrawK P N ops cuts K (k + 1) rest (putO fr o.dst m) ob2 := rfl
@[simp] theorem DEv_some (m : M) : DEv P N ops cuts K k o rest fr ob (some (m, ob)) = DrawK P N ops cuts K (k + 1) rest (putO fr o.dst m) ob := by simp [DEv]
theorem DEv_some2 (m : M) (ob2 : List Ob) : DEv P N ops cuts K k o rest fr ob (some (m, ob2)) = ((mayB cuts k = false → ob2 = ob) ∧ DrawK P N ops cuts K (k + 1) rest (putO fr o.dst m) ob2) := rfl
@[simp] theorem DEv_none : DEv P N ops cuts K k o rest fr ob none = False := rfl
@[simp] theorem DEv_if {p : Prop} [Decidable p] (x : Option (M × List Ob)) : DEv P N ops cuts K k o rest fr ob (if p then x else none) = (p ∧ DEv P N ops cuts K k o rest fr ob x) := by
  by_cases h : p <;> simp [h]
theorem DGuard_b {b : Bool} (ht : b = true → DGuard P N ops cuts K k o rest fr ob (some true)) (hf : b = false → DGuard P N ops cuts K k o rest fr ob (some false)) : DGuard P N ops cuts K k o rest fr ob (some b) := by
  cases b with
  | true => exact ht rfl
  | false => exact hf rfl
/-- An operation at a cut. -/
theorem DEv_cut (m : M) (ob2 : List Ob) (hc : mayB cuts k = true) (h : DrawK P N ops cuts K (k + 1) rest (putO fr o.dst m) ob2) : DEv P N ops cuts K k o rest fr ob (some (m, ob2)) := ⟨fun h2 => by rw [hc] at h2; simp at h2, h⟩
end

theorem frP_true (l : List Oper) : ∀ (k : Nat) (ms : List M) (fr : List (Nat × M)) (o : Oper) (m : M), frP (fun _ => true) k (o :: l) (m :: ms) fr = frP (fun _ => true) (k + 1) l ms (putO fr o.dst m) := fun _ _ _ _ _ => rfl
theorem frP_shift (l : List Oper) : ∀ (k k' : Nat) (ms : List M) (fr : List (Nat × M)), frP (fun _ => true) k l ms fr = frP (fun _ => true) k' l ms fr := by
  induction l with
  | nil => intro k k' ms fr; cases ms <;> rfl
  | cons o l ih =>
    intro k k' ms fr
    cases ms with
    | nil => rfl
    | cons m ms =>
      rw [frP_true, frP_true]
      exact ih _ _ _ _

theorem nc_succ {cuts : List Nat} (hn : cuts.Nodup) (k : Nat) : nc cuts (k + 1) = nc cuts k + if k ∈ cuts then 1 else 0 := by
  unfold nc
  induction cuts with
  | nil => simp
  | cons c cs ih =>
    have hcs := (List.nodup_cons.1 hn)
    have := ih hcs.2
    by_cases h1 : c = k
    · subst h1
      have h2 : ¬ c ∈ cs := hcs.1
      simp only [h2, if_false, Nat.add_zero] at this
      simp [this]
    · have h3 : (k ∈ c :: cs) ↔ k ∈ cs := by simp [Ne.symm h1]
      simp only [h3]
      by_cases h2 : c < k
      · have : c < k + 1 := by omega
        simp [h2, this] at *
        omega
      · have : ¬ c < k + 1 := by omega
        simp [h2, this] at *
        omega
theorem text_congr {P : Program} {N : Nat} {ops : Array Oper} {cuts : List Nat} {f f' : Nat → List Ob} : ∀ (l : List Oper) (k : Nat) (ms : List M) (fr : List (Nat × M)), (∀ n, nc cuts k ≤ n → f n = f' n) → cuts.Nodup → TextR P N ops cuts f k l ms fr → TextR P N ops cuts f' k l ms fr
  | [], k, [], fr, _, _, _ => trivial
  | [], k, m :: ms, fr, _, _, h => by simp [TextR] at h
  | o :: l, k, [], fr, _, _, h => by simp [TextR] at h
  | o :: l, k, m :: ms, fr, hf, hn, h => by
    obtain ⟨h1, h2⟩ := h
    have hs := nc_succ hn k
    refine ⟨?_, text_congr l (k + 1) ms _ (fun n hle => hf n (by omega)) hn h2⟩
    rw [← hf _ (Nat.le_refl _), ← hf _ (by omega)]
    exact h1
theorem drawK_text {P : Program} {N : Nat} {ops : Array Oper} {cuts : List Nat} {K : List (Nat × M) → List Ob → Prop} (hn : cuts.Nodup) (l : List Oper) : ∀ (k : Nat) (fr : List (Nat × M)) (ob : List Ob), DrawK P N ops cuts K k l fr ob → ∃ ms f, f (nc cuts k) = ob ∧ TextR P N ops cuts f k l ms fr ∧ K (frP (fun _ => true) 0 l ms fr) (f (nc cuts (k + l.length))) := by
  induction l with
  | nil => intro k fr ob h; exact ⟨[], fun _ => ob, rfl, trivial, h⟩
  | cons o rest ih =>
    intro k fr ob h
    rw [DrawK_cons] at h
    obtain ⟨hd, h⟩ := h
    have hs := nc_succ hn k
    have fin : ∀ m ob2, (mayB cuts k = false → ob2 = ob) → StepOK P N ops ob ob2 fr o m → DrawK P N ops cuts K (k + 1) rest (putO fr o.dst m) ob2 → ∃ ms f, f (nc cuts k) = ob ∧ TextR P N ops cuts f k (o :: rest) ms fr ∧ K (frP (fun _ => true) 0 (o :: rest) ms fr) (f (nc cuts (k + (o :: rest).length))) := by
      intro m ob2 hm hst hk
      obtain ⟨ms, f, h0, h1, h2⟩ := ih _ _ _ hk
      have el : k + (o :: rest).length = k + 1 + rest.length := by simp; omega
      by_cases hc : k ∈ cuts
      · rw [if_pos hc] at hs
        have hmono : ∀ n, nc cuts (k + 1) ≤ nc cuts (k + 1 + n) := by
          intro n
          induction n with
          | zero => exact Nat.le_refl _
          | succ n ihn =>
            have := nc_succ hn (k + 1 + n)
            rw [show k + 1 + (n + 1) = k + 1 + n + 1 by omega]
            omega
        refine ⟨m :: ms, fun n => if n ≤ nc cuts k then ob else f n, by simp, ⟨?_, ?_⟩, ?_⟩
        · simp only [Nat.le_refl, if_true]
          rw [if_neg (by omega), h0]
          exact hst
        · refine text_congr rest (k + 1) ms _ (fun n hle => ?_) hn h1
          rw [if_neg (by omega)]
        · rw [frP_true, frP_shift rest 1 0, el]
          simp only
          rw [if_neg (by have := hmono rest.length; omega)]
          exact h2
      · rw [if_neg hc, Nat.add_zero] at hs
        have hmb : mayB cuts k = false := by
          unfold mayB
          simpa using hc
        obtain rfl := hm hmb
        have hs' : nc cuts (k + 1) = nc cuts k := by omega
        refine ⟨m :: ms, f, by rw [← hs']; exact h0, ⟨?_, h1⟩, ?_⟩
        · rw [hs'] at h0 ⊢
          rw [h0]
          exact hst
        · rw [frP_true, frP_shift rest 1 0, el]
          exact h2
    cases hg : guardV ops fr o with
    | none => rw [hg] at h; exact h.elim
    | some g =>
      rw [hg] at h
      cases g with
      | false => exact fin _ ob (fun _ => rfl) ⟨hd, .inl ⟨hg, rfl, rfl⟩⟩ h
      | true =>
        rw [DGuard_true] at h
        cases hc : callOf P ob fr o.op with
        | some c =>
          obtain ⟨f, args⟩ := c
          rw [hc, DCall_some] at h
          obtain ⟨m, ob2, hden, hm, hk⟩ := h
          exact fin m ob2 hm ⟨hd, .inr ⟨hg, .inl ⟨f, args, hc, hden⟩⟩⟩ hk
        | none =>
          rw [hc, DCall_none] at h
          cases hev : evOp P fr ob o.op o.type with
          | none => rw [hev] at h; exact h.elim
          | some r =>
            obtain ⟨m, ob'⟩ := r
            rw [hev] at h
            obtain ⟨hm, hk⟩ := h
            exact fin m ob' hm ⟨hd, .inr ⟨hg, .inr ⟨hc, hev⟩⟩⟩ hk

def KeepF (Q : Exit → St → Prop) (ts : List Nat) (fr : List (Nat × M)) (ob : List Ob) : Prop := Q .normal ⟨keep fr ts, ob⟩
@[simp] theorem KeepF_cons (Q : Exit → St → Prop) (ts : List Nat) (ob : List Ob) (p : Nat × M) (fr : List (Nat × M)) : KeepF Q ts (p :: fr) ob = Q .normal ⟨keep (p :: fr) ts, ob⟩ := rfl
/-- The operations that change objects, calls left aside. -/
def isCut (o : Op) : Bool :=
  match o with
  | .store .. | .alloc .. | .box .. | .makeSlice .. | .range .. | .next .. => true
  | .call c => match c.callee with
    | .builtin .append | .builtin .copy | .builtin .unsafeString => true
    | _ => false
  | _ => false
def cutsFrom : Nat → List Oper → List Nat
  | _, [] => []
  | k, o :: l => if isCut o.op then k :: cutsFrom (k + 1) l else cutsFrom (k + 1) l
theorem cutsFrom_ge (l : List Oper) : ∀ (k : Nat), ∀ c ∈ cutsFrom k l, k ≤ c := by
  induction l with
  | nil => intro k c hc; simp [cutsFrom] at hc
  | cons o l ih =>
    intro k c hc
    simp only [cutsFrom] at hc
    split at hc
    · rcases List.mem_cons.1 hc with rfl | h
      · exact Nat.le_refl _
      · have := ih (k + 1) c h; omega
    · have := ih (k + 1) c hc; omega
theorem cutsFrom_nodup (l : List Oper) : ∀ (k : Nat), (cutsFrom k l).Nodup := by
  induction l with
  | nil => intro k; simp [cutsFrom]
  | cons o l ih =>
    intro k
    simp only [cutsFrom]
    split
    · refine List.nodup_cons.2 ⟨fun h => ?_, ih _⟩
      have := cutsFrom_ge l (k + 1) k h
      omega
    · exact ih _
/-- Are an order and its cuts sound? -/
def drawOK (l : List Oper) (cuts : List Nat) : Bool := ordOK l && (cutOK l cuts && decide cuts.Nodup)
theorem awp_drwc {P : Program} {X : Ctx} {id : Nat} {l : List Oper} {Q : Exit → St → Prop} {s : St} (N : Nat) (hN : X.N = N) (ts : List Nat) (cuts : List Nat) (hm : P.follows .mixedOrders = true) (hord : drawOK l cuts = true)
    (h : DrawK P N l.toArray cuts (KeepF Q ts) 0 l s.fr s.ob) : Awp P X (.region id l.toArray true) Q s := by
  unfold drawOK at hord
  simp only [Bool.and_eq_true, decide_eq_true_eq] at hord
  obtain ⟨ho, hcu, hnd⟩ := hord
  obtain ⟨ms, f, h0, h1, h2⟩ := drawK_text hnd l 0 s.fr s.ob h
  have hz : nc cuts 0 = 0 := by unfold nc; simp
  rw [hz] at h0
  rw [Nat.zero_add] at h2
  exact awp_draw N hN ts cuts hm ho hcu ms f h0 h1 h2
theorem awp_drw {P : Program} {X : Ctx} {id : Nat} {l : List Oper} {Q : Exit → St → Prop} {s : St} (N : Nat) (hN : X.N = N) (ts : List Nat) (hm : P.follows .mixedOrders = true) (hord : drawOK l (cutsFrom 0 l) = true)
    (h : DrawK P N l.toArray (cutsFrom 0 l) (KeepF Q ts) 0 l s.fr s.ob) : Awp P X (.region id l.toArray true) Q s := awp_drwc N hN ts _ hm hord h

end Go.Av
