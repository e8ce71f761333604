/- A slice's object is given up, with what came after it. -/
import Derived.Test.YtofomnllcmgfeaaAv29
set_option linter.unusedVariables false
set_option linter.unusedSimpArgs false
namespace Go.Av
open Go Go.RowKit
variable {P : Program} {X : Ctx}
/-- One of the own objects, a slice's, is given up with all that came after it: from now on it is a datum that nobody writes. -/
theorem awp_frz2 {c : Code} {Q : Exit → St → Prop} {fr : List (Nat × M)} {S : List Ob} (t : Nat) (ob mid suf : List Ob) (o : Ob) (cs : List C) (n : Nat) (hX : X.ob = ob ∧ HeapOK X.w X.E X.ob) (hS : S = ob ++ (mid ++ o :: suf))
    (hg : get fr t = some (.ms (ob.length + mid.length) o.gen 0 n)) (hcs : o.cs = up cs) (hfr : fr.all (fun p => p.1 == t || ltB (ob.length + mid.length) p.2) = true) (hmid : mid.all (fun q => q.cs.all (ltB (ob.length + mid.length))) = true)
    (h : Awp P X c Q ⟨put fr t (.c (.sl cs n false)), ob ++ mid⟩) : Awp P X c Q ⟨fr, S⟩ := fun a w hr => by
  obtain ⟨E, h1, h2, h3, h4⟩ := hr
  simp only at h1 h4
  subst hS
  obtain ⟨hXo, hXh⟩ := hX
  rw [← List.append_assoc] at h1 h4
  rw [hXo] at hXh
  have hlt : ∀ (i : Nat) (q : Ob) (j : Nat) (m : M), (ob ++ mid)[i]? = some q → q.iter = none → q.cs[j]? = some m → Lt (ob ++ mid).length m := by
    intro i q j m hi hit hj
    by_cases hlt : i < ob.length
    · rw [List.getElem?_append_left hlt] at hi
      exact lt_mono (by simp) (cells_lt hXh i q j m hi hj hit)
    · rw [List.getElem?_append_right (by omega)] at hi
      have hq := List.all_eq_true.1 hmid q (List.mem_of_getElem? hi)
      have hm := List.all_eq_true.1 hq m (List.mem_of_getElem? hj)
      have := lt_of_ltB hm
      rwa [List.length_append]
  have h4' : Step X.w X.E ob w E ((ob ++ mid) ++ o :: suf) := by rw [← hXo]; rw [← hXo] at h4; exact h4
  have hst := step_give2 h4' hlt
  refine h a w ⟨_, fun u m hu => ?_, h2, h3, by rw [hXo]; exact hst⟩
  simp only [get_put] at hu
  split at hu
  · rename_i e
    subst e
    obtain rfl := Option.some.inj hu
    obtain ⟨p, q⟩ := h1 _ _ hg
    refine ⟨p, ?_⟩
    refine rep_frozen (k := 0) (o := o) (g := o.gen) h4.heap rfl rfl hcs (by simpa using q) false (by simp) (fun hn => ?_)
    have hob := h4.heap.obj (ob ++ mid).length o (by rw [List.getElem?_append_right (by omega)]; simp)
    unfold ObOK at hob
    split at hob
    · rw [hob.2] at hn; simp at hn
    · have := hob.1 hn
      rw [hcs] at this
      simpa [up] using this
  · rename_i hne
    obtain ⟨p, q⟩ := h1 u m hu
    refine ⟨p, ?_⟩
    have hb := List.all_eq_true.1 hfr (u, m) (get_mem hu)
    have hb : ltB (ob.length + mid.length) m = true := by
      simp only [Bool.or_eq_true, beq_iff_eq] at hb
      rcases hb with hb | hb
      · exact absurd hb.symm hne
      · exact hb
    refine rep_lower (ext := o :: suf) (q.keep ?_) (by rw [List.length_append]; exact lt_of_ltB hb)
    exact ⟨fun b hb => ⟨.inl hb, rfl⟩, fun i q hq => ⟨q, hq, Nat.le_refl _, rfl, fun _ => rfl, fun _ => ⟨rfl, rfl, rfl, rfl⟩⟩⟩

end Go.Av
