/- A region that draws its order, as simp walks it. -/
import Derived.Test.YtfdbbkhglohkaaaAv17
set_option linter.unusedVariables false
set_option linter.unusedSimpArgs false
namespace Go.Av
open Go

section
variable (P : Program) (N : Nat) (ops : Array Oper) (ob : List Ob) (K : List (Nat × M) → Prop)
def DrawK : List Oper → List (Nat × M) → Prop
  | [], fr => K fr
  | o :: rest, fr => dstOK N o = true ∧
    match guardV ops fr o with
    | none => False
    | some false => DrawK rest (putO fr o.dst (.tup []))
    | some true => match callOf fr o.op with
      | some (f, args) => ∃ m, Den P f args ob (fun r ob' => r = m ∧ ob' = ob) ∧ DrawK rest (putO fr o.dst m)
      | none => match evOp P fr ob o.op o.type with
        | some (m, ob') => ob' = ob ∧ DrawK rest (putO fr o.dst m)
        | none => False
variable (o : Oper) (rest : List Oper) (fr : List (Nat × M))
def DEv (r : Option (M × List Ob)) : Prop :=
  match r with
  | some (m, ob') => ob' = ob ∧ DrawK P N ops ob K rest (putO fr o.dst m)
  | none => False
def DCall (c : Option (FuncId × List M)) : Prop :=
  match c with
  | some (f, args) => ∃ m, Den P f args ob (fun r ob' => r = m ∧ ob' = ob) ∧ DrawK P N ops ob K rest (putO fr o.dst m)
  | none => DEv P N ops ob K o rest fr (evOp P fr ob o.op o.type)
def DGuard (g : Option Bool) : Prop :=
  match g with
  | some true => DCall P N ops ob K o rest fr (callOf fr o.op)
  | some false => DrawK P N ops ob K rest (putO fr o.dst (.tup []))
  | none => False
@[simp] theorem DrawK_nil : DrawK P N ops ob K [] fr = K fr := rfl
@[simp] theorem DrawK_cons : DrawK P N ops ob K (o :: rest) fr = (dstOK N o = true ∧ DGuard P N ops ob K o rest fr (guardV ops fr o)) := by
  unfold DrawK DGuard
  congr 1
  cases h : guardV ops fr o with
  | none => rfl
  | some g =>
    cases g with
    | false => rfl
    | true =>
      simp only [DCall]
      cases h3 : callOf fr o.op with
      | some c => rfl
      | none =>
        simp only [DEv]
@[simp] theorem DGuard_true : DGuard P N ops ob K o rest fr (some true) = DCall P N ops ob K o rest fr (callOf fr o.op) := rfl
@[simp] theorem DGuard_false : DGuard P N ops ob K o rest fr (some false) = DrawK P N ops ob K rest (putO fr o.dst (.tup [])) := rfl
@[simp] theorem DCall_none : DCall P N ops ob K o rest fr none = DEv P N ops ob K o rest fr (evOp P fr ob o.op o.type) := rfl
@[simp] theorem DCall_some (f : FuncId) (args : List M) : DCall P N ops ob K o rest fr (some (f, args)) = ∃ m, Den P f args ob (fun r ob' => r = m ∧ ob' = ob) ∧ DrawK P N ops ob K rest (putO fr o.dst m) := rfl
@[simp] theorem DEv_some (m : M) : DEv P N ops ob K o rest fr (some (m, ob)) = DrawK P N ops ob K rest (putO fr o.dst m) := by simp [DEv]
@[simp] theorem DEv_none : DEv P N ops ob K o rest fr none = False := rfl
@[simp] theorem DEv_if {p : Prop} [Decidable p] (x : Option (M × List Ob)) : DEv P N ops ob K o rest fr (if p then x else none) = (p ∧ DEv P N ops ob K o rest fr x) := by
  by_cases h : p <;> simp [h]
theorem DGuard_b {b : Bool} (ht : b = true → DGuard P N ops ob K o rest fr (some true)) (hf : b = false → DGuard P N ops ob K o rest fr (some false)) : DGuard P N ops ob K o rest fr (some b) := by
  cases b with
  | true => exact ht rfl
  | false => exact hf rfl
end

theorem frP_true (l : List Oper) : ∀ (k : Nat) (ms : List M) (fr : List (Nat × M)) (o : Oper) (m : M), frP (fun _ => true) k (o :: l) (m :: ms) fr = frP (fun _ => true) (k + 1) l ms (putO fr o.dst m) := fun _ _ _ _ _ => rfl
theorem frP_shift (l : List Oper) : ∀ (k k' : Nat) (ms : List M) (fr : List (Nat × M)), frP (fun _ => true) k l ms fr = frP (fun _ => true) k' l ms fr := by
  induction l with
  | nil => intro k k' ms fr; cases ms <;> rfl
  | cons o l ih =>
    intro k k' ms fr
    cases ms with
    | nil => rfl
    | cons m ms =>
      rw [frP_true, frP_true]
      exact ih _ _ _ _

theorem drawK_text {P : Program} {N : Nat} {ops : Array Oper} {ob : List Ob} {K : List (Nat × M) → Prop} (l : List Oper) : ∀ (fr : List (Nat × M)), DrawK P N ops ob K l fr → ∃ ms, TextR P N ops ob l ms fr ∧ K (frP (fun _ => true) 0 l ms fr) := by
  induction l with
  | nil => intro fr h; exact ⟨[], trivial, h⟩
  | cons o rest ih =>
    intro fr h
    rw [DrawK_cons] at h
    obtain ⟨hd, h⟩ := h
    have fin : ∀ m, StepOK P N ops ob fr o m → DrawK P N ops ob K rest (putO fr o.dst m) → ∃ ms, TextR P N ops ob (o :: rest) ms fr ∧ K (frP (fun _ => true) 0 (o :: rest) ms fr) := by
      intro m hs hk
      obtain ⟨ms, h1, h2⟩ := ih _ hk
      exact ⟨m :: ms, ⟨hs, h1⟩, by rw [frP_true, frP_shift rest 1 0]; exact h2⟩
    cases hg : guardV ops fr o with
    | none => rw [hg] at h; exact h.elim
    | some g =>
      rw [hg] at h
      cases g with
      | false => exact fin _ ⟨hd, .inl ⟨hg, rfl⟩⟩ h
      | true =>
        rw [DGuard_true] at h
        cases hc : callOf fr o.op with
        | some c =>
          obtain ⟨f, args⟩ := c
          rw [hc, DCall_some] at h
          obtain ⟨m, hden, hk⟩ := h
          exact fin m ⟨hd, .inr ⟨hg, .inl ⟨f, args, hc, hden⟩⟩⟩ hk
        | none =>
          rw [hc, DCall_none] at h
          cases hev : evOp P fr ob o.op o.type with
          | none => rw [hev] at h; exact h.elim
          | some r =>
            obtain ⟨m, ob'⟩ := r
            rw [hev] at h
            obtain ⟨rfl, hk⟩ := h
            exact fin m ⟨hd, .inr ⟨hg, .inr ⟨hc, hev⟩⟩⟩ hk

def KeepF (Q : Exit → St → Prop) (ts : List Nat) (ob : List Ob) (fr : List (Nat × M)) : Prop := Q .normal ⟨keep fr ts, ob⟩
@[simp] theorem KeepF_cons (Q : Exit → St → Prop) (ts : List Nat) (ob : List Ob) (p : Nat × M) (fr : List (Nat × M)) : KeepF Q ts ob (p :: fr) = Q .normal ⟨keep (p :: fr) ts, ob⟩ := rfl

theorem awp_drw {P : Program} {X : Ctx} {id : Nat} {l : List Oper} {Q : Exit → St → Prop} {s : St} (N : Nat) (hN : X.N = N) (ts : List Nat) (hm : P.follows .mixedOrders = true) (hord : ordOK l = true)
    (h : DrawK P N l.toArray s.ob (KeepF Q ts s.ob) l s.fr) : Awp P X (.region id l.toArray true) Q s := by
  obtain ⟨ms, h1, h2⟩ := drawK_text l s.fr h
  exact awp_draw N hN ts hm hord ms h1 h2

end Go.Av
