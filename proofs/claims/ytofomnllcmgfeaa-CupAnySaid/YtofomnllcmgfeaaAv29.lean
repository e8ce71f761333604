/- Contracts of the library that are proved over the world, as contracts over states. -/
import Derived.Test.YtofomnllcmgfeaaAv28
set_option linter.unusedVariables false
set_option linter.unusedSimpArgs false
namespace Go.Av
open Go Go.RowKit
variable {P : Program}

/-- What answers with a plain datum and leaves all that lay there as it was. -/
theorem Den.of_below {f : FuncId} {args : List M} {x : Value} (hok : okF P f = true) (ha : ltBs 0 args = true)
    (h : ∀ (w : World) (E : Env) (vals : Array Value), vals.size = args.length → (∀ (j : Nat) m, args[j]? = some m → RepM w E [] m (vals.getD j undef)) → (∀ b, E.st b → b < w.heap.size) →
      Calls P f vals w fun e w' => e = .returned x ∧ Below w.heap.size w w') : DenV P f args (.c (.v x)) := by
  refine Den.frame ha rfl ?_
  intro w E vals h1 h2 h3
  refine .inl ⟨hok, (h w E vals h1 h2 h3.stb).mono ?_⟩
  rintro e w' ⟨rfl, hb⟩
  refine ⟨x, rfl, .c (.v x), [], E, rfl, .c (.v x), ⟨⟨fun i o hi => by simp at hi, fun i j a b hi => by simp at hi, fun b hb' => Nat.lt_of_lt_of_le (h3.stb b hb') hb.size, fun i o hi => by simp at hi⟩, ⟨fun b hb' => ⟨hb', hb.block b (h3.stb b hb')⟩, fun i o hi => by simp at hi⟩, ⟨hb.os, hb.tape, hb.output, hb.size, fun b hb' _ => hb.block b hb', fun _ h => h, fun _ h => .inl h, fun i o hi => by simp at hi⟩⟩⟩
/-- A scalar argument. -/
theorem arg_v {w : World} {E : Env} {ob : List Ob} {x y : Value} (h : RepM w E ob (.c (.v x)) y) : y = x := by
  cases h with
  | c h => cases h; rfl
/-- A row of scalars. -/
theorem arg_row {w : World} {E : Env} {ob : List Ob} {vs : List Value} {n : Nat} {full : Bool} {y : Value} (hn : vs.length = n) (h : RepM w E ob (.c (.sl (vs.map C.v) n full)) y) :
    (n = 0 ∧ y = .slice none 0 0) ∨ ∃ (a : Addr) (cap : Nat), y = .slice (some a) n cap ∧ n ≤ cap ∧ ∀ (j : Nat) v, vs[j]? = some v → E.st a.block ∧ w.cell? (a.add j) = some v := by
  generalize hcs : vs.map C.v = cs0 at h
  cases h with
  | c h =>
    cases h with
    | nl => exact .inl ⟨rfl, rfl⟩
    | sl cs n full a cap ys hf hn' h1 h2 =>
      refine .inr ⟨a, cap, rfl, hn', fun j v hv => ?_⟩
      have hc : cs0[j]? = some (.v v) := by rw [← hcs]; simp [hv]
      obtain ⟨q1, q2, q3⟩ := h1 j _ hc
      have := h2 j _ hc
      cases this
      exact ⟨q1, q3⟩
/-- Where a cell is seen, the address is a plain one. -/
theorem plain_of_cell {w : World} {a : Addr} {v : Value} (h : w.cell? a = some v) : a = ⟨a.block, a.off, none⟩ := by
  unfold World.cell? at h
  split at h
  · split at h
    · simp at h
    · rename_i hs
      obtain ⟨b, o, s⟩ := a
      cases s with
      | none => rfl
      | some s => simp at hs
  · simp at h
theorem add_plain (b o j : Nat) : (⟨b, o, none⟩ : Addr).add j = ⟨b, o + j, none⟩ := by
  unfold Addr.add
  split
  · rename_i h; subst h; rfl
  · rfl
end Go.Av
