/- A region that draws its order: told in the text's order, if no operation changes an object and whoever reads a slot stands in order with whoever writes it. -/
import Derived.Test.YtofomnllcmgfeaaAv15
import Derived.Orders
set_option linter.unusedVariables false
set_option linter.unusedSimpArgs false
namespace Go.Av
open Go

variable {P : Program} {X : Ctx}

/-! ### what an operation reads -/
def tmpO : Operand → List Nat
  | .tmp t => [t]
  | _ => []
def readsOf (o : Oper) (ops : Array Oper) : List Nat :=
  (o.op.operands.toList.flatMap tmpO) ++ (match o.guard with
    | some (j, _) => (match (ops[j]?).bind (·.dst) with | some d => [d] | none => [])
    | none => [])
theorem opM_congr {fr fr' : List (Nat × M)} {x : Operand} (h : ∀ t ∈ tmpO x, get fr t = get fr' t) : opM fr x = opM fr' x := by
  cases x with
  | tmp t => exact h t (by simp [tmpO])
  | _ => rfl
theorem mapOp_congr {fr fr' : List (Nat × M)} {l : List (Nat × Operand)} (h : ∀ p ∈ l, opM fr p.2 = opM fr' p.2) : mapOp fr l = mapOp fr' l := by
  induction l with
  | nil => rfl
  | cons p l ih =>
    obtain ⟨i, x⟩ := p
    simp only [mapOp]
    rw [h (i, x) (by simp), ih (fun p hp => h p (by simp [hp]))]
theorem mapArgs_congr {fr fr' : List (Nat × M)} {l : List Operand} (h : ∀ x ∈ l, opM fr x = opM fr' x) : mapArgs fr l = mapArgs fr' l := by
  induction l with
  | nil => rfl
  | cons x l ih =>
    simp only [mapArgs]
    rw [h x (by simp), ih (fun p hp => h p (by simp [hp]))]
theorem opO_congr {fr fr' : List (Nat × M)} {x : Option Operand} (h : ∀ y ∈ x.toList, opM fr y = opM fr' y) : opO fr x = opO fr' x := by
  cases x with
  | none => rfl
  | some x => simp only [opO]; rw [h x (by simp)]
theorem evOp_congr {fr fr' : List (Nat × M)} {ob : List Ob} {o : Op} {ty : TypeId} (h : ∀ t ∈ o.operands.toList.flatMap tmpO, get fr t = get fr' t) : evOp P fr ob o ty = evOp P fr' ob o ty := by
  have h1 : ∀ x ∈ o.operands.toList, opM fr x = opM fr' x := fun x hx => opM_congr fun t ht => h t (List.mem_flatMap.2 ⟨x, hx, ht⟩)
  cases o with
  | slice t x lo hi mx =>
    simp only [evOp]
    rw [h1 x (by simp [Op.operands]), opO_congr (x := lo) (fr' := fr') (fun y hy => h1 y (by simp only [Op.operands, Array.toList_append, List.mem_append]; simp at hy; simp [hy])),
      opO_congr (x := hi) (fr' := fr') (fun y hy => h1 y (by simp only [Op.operands, Array.toList_append, List.mem_append]; simp at hy; simp [hy])),
      opO_congr (x := mx) (fr' := fr') (fun y hy => h1 y (by simp only [Op.operands, Array.toList_append, List.mem_append]; simp at hy; simp [hy]))]
  | build t parts =>
    simp only [evOp]
    rw [mapOp_congr (fr' := fr') (fun p hp => h1 p.2 (by simp [Op.operands]; exact ⟨p.1, by simpa using hp⟩))]
  | buildSlice t n parts =>
    simp only [evOp]
    rw [mapOp_congr (fr' := fr') (fun p hp => h1 p.2 (by simp [Op.operands]; exact ⟨p.1, by simpa using hp⟩))]
  | makeFunc fn first cap =>
    simp only [evOp]
    rw [mapArgs_congr (fr' := fr') (l := first.toList) (fun p hp => h1 p (by simp only [Op.operands, Array.toList_append, List.mem_append]; exact .inl hp)), mapArgs_congr (fr' := fr') (l := cap.toList) (fun p hp => h1 p (by simp only [Op.operands, Array.toList_append, List.mem_append]; exact .inr hp))]
  | call c =>
    obtain ⟨callee, args, ts⟩ := c
    cases callee with
    | builtin b =>
      simp only [evOp]
      have h2 : ∀ x ∈ args.toList, opM fr x = opM fr' x := fun x hx => h1 x (by simp only [Op.operands, Call.operands, Array.toList_append, List.mem_append]; exact .inr hx)
      unfold evBuiltin
      split
      · rename_i x t ha _
        rw [h2 x (by rw [ha]; simp)]
      · rename_i x y t tx ha _
        rw [h2 x (by rw [ha]; simp), h2 y (by rw [ha]; simp)]
      · rename_i x y t tx ha _
        rw [h2 x (by rw [ha]; simp), h2 y (by rw [ha]; simp)]
      · rename_i x ha
        rw [h2 x (by rw [ha]; simp)]
      · rename_i x y t tx ha _
        rw [h2 x (by rw [ha]; simp), h2 y (by rw [ha]; simp)]
      · rename_i x y ha
        rw [h2 x (by rw [ha]; simp), h2 y (by rw [ha]; simp)]
      · rename_i x y ha
        rw [h2 x (by rw [ha]; simp), h2 y (by rw [ha]; simp)]
      · rename_i x t ha _
        rw [h2 x (by rw [ha]; simp)]
      · rfl
    | _ => rfl
  | _ => first
    | rfl
    | (simp only [evOp]; rw [h1 _ (by simp [Op.operands])]; done)
    | (simp only [evOp]; rw [h1 _ (by simp [Op.operands]), h1 _ (by simp [Op.operands])]; done)
    | (simp only [evOp]; (repeat rw [h1 _ (by simp [Op.operands]; done)]); done)
    | (simp only [evOp, Op.operands] at *; simp_all)
theorem callOf_congr {ob : List Ob} {fr fr' : List (Nat × M)} {o : Op} (h : ∀ t ∈ o.operands.toList.flatMap tmpO, get fr t = get fr' t) : callOf P ob fr o = callOf P ob fr' o := by
  have h1 : ∀ x ∈ o.operands.toList, opM fr x = opM fr' x := fun x hx => opM_congr fun t ht => h t (List.mem_flatMap.2 ⟨x, hx, ht⟩)
  cases o with
  | call c =>
    obtain ⟨callee, args, ts⟩ := c
    cases callee with
    | value x =>
      simp only [callOf]
      rw [h1 x (by simp [Op.operands, Call.operands]), mapArgs_congr (fr' := fr') (fun y hy => h1 y (by simp only [Op.operands, Call.operands, Array.toList_append, List.mem_append]; exact .inr hy))]
    | invoke x name =>
      simp only [callOf]
      rw [h1 x (by simp [Op.operands, Call.operands]), mapArgs_congr (fr' := fr') (fun y hy => h1 y (by simp only [Op.operands, Call.operands, Array.toList_append, List.mem_append]; exact .inr hy))]
    | _ => rfl
  | _ => rfl
theorem guardV_congr {ops : Array Oper} {fr fr' : List (Nat × M)} {o : Oper} (h : ∀ t ∈ readsOf o ops, get fr t = get fr' t) : guardV ops fr o = guardV ops fr' o := by
  unfold guardV
  unfold readsOf at h
  cases hg : o.guard with
  | none => rfl
  | some p =>
    obtain ⟨j, b⟩ := p
    simp only [hg] at h ⊢
    cases hd : (ops[j]?).bind (·.dst) with
    | none => rfl
    | some d =>
      simp only [hd] at h ⊢
      rw [h d (by simp)]

end Go.Av
