/- A contract over the world whose answer is a row of its own, as a contract over states. -/
import Derived.Test.YtofomnllcmgfeaaAv30
import Derived.Laws.AppendOwn
set_option linter.unusedVariables false
set_option linter.unusedSimpArgs false
namespace Go.Av
open Go Go.RowKit
variable {P : Program}
/-- What answers with a row that it made, and leaves all that lay there as it was. -/
theorem Den.of_row {f : FuncId} {args : List M} {cs : List Value} {n : Nat} {e : TypeId} (hn : cs.length = n) (h1c : ∀ u ∈ cs, u.oneCell' = true) (hok : okF P f = true) (ha : ltBs 0 args = true)
    (h : ∀ (w : World) (E : Env) (vals : Array Value), vals.size = args.length → (∀ (j : Nat) m, args[j]? = some m → RepM w E [] m (vals.getD j undef)) → (∀ b, E.st b → b < w.heap.size) →
      Calls P f vals w fun r w' => ∃ v, r = .returned v ∧ w'.ownsRow w.heap.size e 1 v n cs ∧ Below w.heap.size w w') : DenV P f args (.c (.sl (cs.map C.v) n false)) := by
  refine Den.frame ha rfl ?_
  intro w E vals h1 h2 h3
  refine .inl ⟨hok, (h w E vals h1 h2 h3.stb).mono ?_⟩
  rintro r w' ⟨v, rfl, hrow, hb⟩
  refine ⟨v, rfl, .c (.sl (cs.map C.v) n false), [], ⟨fun b => E.st b ∨ (w.heap.size ≤ b ∧ b < w'.heap.size), E.blk, E.asz⟩, rfl, .c ?_, ⟨⟨fun i o hi => by simp at hi, fun i j a b hi => by simp at hi, fun b hb' => ?_, fun i o hi => by simp at hi⟩, ⟨fun b hb' => ⟨.inl hb', hb.block b (h3.stb b hb')⟩, fun i o hi => by simp at hi⟩, ⟨hb.os, hb.tape, hb.output, hb.size, fun b hb' _ => hb.block b hb', fun _ h => .inl h, fun b h => ?_, fun i o hi => by simp at hi⟩⟩⟩
  · rcases hrow.2 with ⟨rfl, rfl⟩ | ⟨g, cap, cur, rfl, hbg, hg, hcap, hmax, hsz, hcur⟩
    · have : cs = [] := by cases cs <;> simp_all
      subst this
      exact .nl false
    · have hlen := hrow.1
      refine .sl _ n false ⟨g, 0, none⟩ cap (fun j => cs.getD j undef) (by simp) hcap (fun j c hc => ?_) (fun j c hc => ?_)
      · have hj : j < cs.length := by
          have := (List.getElem?_eq_some_iff.1 hc).1
          simpa using this
        have hcs : cs[j]? = some (cs.getD j undef) := by simp [List.getD, hj]
        refine ⟨.inr ⟨hbg, (Array.getElem?_eq_some_iff.1 hg).1⟩, h1c _ (List.mem_of_getElem? hcs), ?_⟩
        have hcell : w'.cell? ⟨g, 0 + j, none⟩ = some (cs.getD j undef) := by
          unfold World.cell?
          simp only [hg]
          rw [← hcur, List.getElem?_take_of_lt (by omega)] at hcs
          have e1 : cs.getD j undef = (List.take (n * 1) cur.toList).getD j undef := by rw [hcur]
          rw [e1]
          simpa [Nat.zero_add, e1] using hcs
        rw [add_plain]
        exact hcell
      · rw [List.getElem?_map] at hc
        obtain ⟨u, hu, rfl⟩ := Option.map_eq_some_iff.1 hc
        have : cs.getD j undef = u := by simp [List.getD, hu]
        rw [this]
        exact .v u
  · rcases hb' with h | h
    · exact Nat.lt_of_lt_of_le (h3.stb b h) hb.size
    · exact h.2
  · rcases h with h | h
    · exact .inl h
    · exact .inr (.inr h.1)
end Go.Av
