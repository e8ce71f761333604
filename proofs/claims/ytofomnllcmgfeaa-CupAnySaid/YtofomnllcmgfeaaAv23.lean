/- Short forms: contracts of functions that answer with a datum and change nothing; loops told by what they change. -/
import Derived.Test.YtofomnllcmgfeaaAv22
set_option linter.unusedVariables false
namespace Go.Av
open Go
variable {P : Program} {X : Ctx}

/-- Called with these, it answers with this, and no object is changed. -/
abbrev DenV (P : Program) (f : FuncId) (args : List M) (r : M) : Prop := ∀ ob, Den P f args ob fun r' ob' => r' = r ∧ ob' = ob

/-- A counted loop, told by what its rounds change of the state in which it is met. -/
theorem awp_forU {G : Type} {c : Code} {Q : Exit → St → Prop} {fr : List (Nat × M)} {ob0 : List Ob} (ts : List Nat) (F : Nat → G → List (Nat × M)) (O : Nat → G → List Ob) (H : Nat → G → Prop) (n : Nat) (g0 : G) (h0 : H 0 g0)
    (hs : keep fr ts = keep (F 0 g0 ++ fr) ts) (ho : ob0 = O 0 g0)
    (h : ∀ (i : Nat) (g : G) (Q1 : Exit → St → Prop), i ≤ n → H i g → (∀ fr' ob' (g' : G), i < n → H (i + 1) g' → keep fr' ts = keep (F (i + 1) g' ++ fr) ts → ob' = O (i + 1) g' → Q1 .normal ⟨fr', ob'⟩) → (∀ e s', isN e = false → Q e s' → Q1 e s') → Awp P X c Q1 ⟨keep (F i g ++ fr) ts, O i g⟩) : Awp P X (.loop c) Q ⟨fr, ob0⟩ := by
  refine awp_for ts (fun i g => ⟨keep (F i g ++ fr) ts, O i g⟩) H n g0 h0 (by simp only; rw [hs, ho]) ?_
  rintro i g Q1 hi hH next other
  exact h i g Q1 hi hH (fun fr' ob' g' a b c d => next ⟨fr', ob'⟩ g' a b (by simp only; rw [c, d])) other

/-- A loop with a measure of its own. -/
theorem awp_whileU {G : Type} {c : Code} {Q : Exit → St → Prop} {fr : List (Nat × M)} {ob0 : List Ob} (ts : List Nat) (F : G → List (Nat × M)) (O : G → List Ob) (H : G → Prop) (m : G → Nat) (g0 : G) (h0 : H g0)
    (hs : keep fr ts = keep (F g0 ++ fr) ts) (ho : ob0 = O g0)
    (h : ∀ (g : G) (Q1 : Exit → St → Prop), H g → (∀ fr' ob' (g' : G), m g' < m g → H g' → keep fr' ts = keep (F g' ++ fr) ts → ob' = O g' → Q1 .normal ⟨fr', ob'⟩) → (∀ e s', isN e = false → Q e s' → Q1 e s') → Awp P X c Q1 ⟨keep (F g ++ fr) ts, O g⟩) : Awp P X (.loop c) Q ⟨fr, ob0⟩ := by
  refine awp_loop_g ts (fun k s => ∃ g, H g ∧ m g = k ∧ s = ⟨keep (F g ++ fr) ts, O g⟩) (m g0) ⟨g0, h0, rfl, by rw [hs, ho]⟩ ?_
  rintro k s Q1 ⟨g, hH, rfl, rfl⟩ hn hother
  exact h g Q1 hH (fun fr' ob' g' hlt hH' e1 e2 => hn _ ⟨m g', hlt, g', hH', rfl, by simp only; rw [e1, e2]⟩) hother
end Go.Av
namespace Go.Av
@[simp] theorem flat_rep (n : Nat) (c : C) : (List.replicate n [M.c c]).flatten = up (List.replicate n c) := by
  induction n with
  | zero => rfl
  | succ n ih => rw [List.replicate_succ, List.flatten_cons, ih]; rfl
@[simp] theorem rep_up (n : Nat) (c : C) : List.replicate n (M.c c) = up (List.replicate n c) := by simp [up]
end Go.Av

namespace Go.Av
@[simp] theorem ltBs_up' (n : Nat) (cs : List C) : ltBs n (up cs) = true := ltBs_up n cs
end Go.Av

namespace Go.Av
/-- A row that is filled from its beginning on. -/
theorem set_fill {α : Type} (xs : List α) (z x : α) (n i : Nat) (h : i < n) (hn : xs.length = n) (hx : xs[i]? = some x) : (xs.take i ++ List.replicate (n - i) z).set i x = xs.take (i + 1) ++ List.replicate (n - (i + 1)) z := by
  rw [show n - i = (n - (i + 1)) + 1 by omega, List.replicate_succ, List.set_append_right _ _ (by simp; omega), List.length_take, show i - min i xs.length = 0 by omega, List.take_add_one, hx]
  simp
theorem len_fill {α : Type} (xs : List α) (z : α) (n i : Nat) (h : i ≤ n) (hn : xs.length = n) : (xs.take i ++ List.replicate (n - i) z).length = n := by
  simp; omega
end Go.Av

namespace Go.Av
@[simp] theorem eqM_nil : eqM [] [] [] = some true := rfl
@[simp] theorem eqM_cons (k : Nat) (ks : List Nat) (a b : M) (r s : List M) : eqM (k :: ks) (a :: r) (b :: s) = (match eqLeaf k a b, eqM ks r s with
    | some x, some y => some (x && y)
    | _, _ => none) := rfl
attribute [simp] eqLeaf
theorem eqM_ints {k : IntKind} : ∀ (n : Nat) (xs ys : List Int), xs.length = n → ys.length = n → eqM (List.replicate n 0) (up (xs.map fun x => .v (.int k x))) (up (ys.map fun x => .v (.int k x))) = some (decide (xs = ys))
  | 0, [], [], _, _ => rfl
  | n + 1, x :: xs, y :: ys, h1, h2 => by
    have ih := eqM_ints (k := k) n xs ys (by simpa using h1) (by simpa using h2)
    simp only [up, List.map_cons, List.replicate_succ] at *
    simp only [eqM_cons, eqLeaf, if_true, ih, List.cons.injEq, Bool.decide_and]
end Go.Av
