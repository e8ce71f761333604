/- Functions of the outer world that hand back what they get; a nil slice within an object. -/
import Derived.Test.YtofomnllcmgfeaaAv20
import Derived.Laws.Externs
set_option linter.unusedVariables false
set_option linter.unusedSimpArgs false
namespace Go.Av
open Go
variable {P : Program} {X : Ctx}

theorem den_same {f : FuncId} {fn : Func} {m : M} {ob : List Ob} (hf : P.funcs[f]? = some fn) (hname : (fn.name == "runtime.NumGoroutine") = false) (hb : fn.body.isNone = true) (hn : Extern.findNext fn = none) (he : Extern.find fn = some Extern.AbiNoEscape.same) :
    Den P f [m] ob fun r ob' => r = m ∧ ob' = ob := fun w E vals hs hr hh => by
  obtain ⟨v, rfl⟩ : ∃ v, vals = #[v] := by
    match vals, hs with
    | ⟨[v]⟩, _ => exact ⟨v, rfl⟩
  refine .inr ⟨v, w, ?_, m, ob, E, ⟨rfl, rfl⟩, hr 0 m rfl, .refl hh⟩
  rw [run_callFunc_extern hf hname hb hn he]
  rfl
/-- A nil slice within an object's cell, that will grow, is an object from now on. -/
theorem awp_nilc {c : Code} {Q : Exit → St → Prop} {s : St} (i k : Nat) (o : Ob) (e sz : Nat) (ho : s.ob[i]? = some o) (hn : o.nil = false) (hit : o.iter = none) (hk : o.cs[k]? = some (.c (.v (.slice none 0 0))))
    (h : Awp P X c Q ⟨s.fr, (s.ob ++ [({ ty := e, sz := sz, nil := true, gen := 0, cs := [] } : Ob)]).set i { o with cs := o.cs.set k (.ms s.ob.length 0 0 0) }⟩) : Awp P X c Q s := fun a w hr => by
  obtain ⟨E, h1, h2, h3, h4⟩ := hr
  have hst := step_nil h4.heap e sz
  have hlt := (List.getElem?_eq_some_iff.1 ho).1
  have ho' : (s.ob ++ [({ ty := e, sz := sz, nil := true, gen := 0, cs := [] } : Ob)])[i]? = some o := by rw [List.getElem?_append_left hlt]; exact ho
  have hob := hst.heap.obj i o ho'
  unfold ObOK at hob
  rw [hit] at hob
  obtain ⟨arr, lo, hi, e1, e2, e3, e4⟩ := hob.2 hn
  have hset := step_set hst.heap ho' hn hit (o.cs.set k (.ms s.ob.length 0 0 0)) o.gen (Nat.le_refl _) arr o.ty lo hi rfl (w' := w) (fun j m hm => by
    rw [List.getElem?_set] at hm
    split at hm
    · rename_i eq
      subst eq
      have hkl := (List.getElem?_eq_some_iff.1 hk).1
      rw [if_pos hkl] at hm
      obtain rfl := Option.some.inj hm
      obtain ⟨y, hy, q1, q2⟩ := e4 k _ hk
      cases q2 with
      | c hc =>
        cases hc
        exact ⟨_, hy, q1, .ms ⟨rfl, _, by rw [getElem?_snoc, if_neg (by omega), if_pos rfl], rfl, Nat.le_refl _, fun _ => ⟨fun _ => ⟨rfl, rfl, rfl⟩, fun hf => by simp at hf⟩⟩⟩
    · exact e4 j m hm) e2 e3 rfl rfl rfl rfl (fun _ _ => rfl) e1
  refine h a w ⟨E, fun u m hu => ?_, h2, h3, (h4.trans hst).trans hset⟩
  obtain ⟨p, q⟩ := h1 u m hu
  exact ⟨p, (q.keep hst.ext).keep hset.ext⟩
/-- The answer leads to none of the call's own objects; what was left behind is forgotten. -/
theorem Den.dropM {f : FuncId} {args : List M} {ob : List Ob} {m : M} (hm : ltB ob.length m = true) (h : Den P f args ob fun r ob' => r = m ∧ ∃ e, ob' = ob ++ e) : Den P f args ob fun r ob' => r = m ∧ ob' = ob :=
  h.drop fun r ob' ⟨h1, e, h2⟩ => ⟨e, by rw [h1]; exact lt_of_ltB hm, h2, h1, rfl⟩
end Go.Av
