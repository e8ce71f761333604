/- THE LAW StoreAny OF THE SEAT: for every input it returns true and leaves its arguments as they read. No condition beyond the row. -/
import Derived.Test.YtpcnacknlgmmlaaRows
import Derived.Test.YtpcnacknlgmmlaaAvT91
import Derived.Test.YtpcnacknlgmmlaaAvEngine3
namespace Go.Proofs.Ytpcnacknlgmmlaa.storeAny
open Go.ChangeShapes Go.WideShapes Go.ChangeAt Go.RowKit Go.Av
open Go.ChangeMaps (open_string shut_string)
set_option linter.unusedVariables false
theorem own : ownKnob Try.prog.godebug = none := by kernel_rfl
theorem laidOut : laidOutB Try.prog = true := by kernel_rfl
set_option maxRecDepth 100000 in
theorem lifted (os : Os) (started : os.Started) (H : Type) (enc : TypeId × Value → H) :
    ReturnsInHanded {} Try.checked os 4 .any (Rows.storeAnySpec.pre6 enc Try.prog Try.f4 Rows.storeAnyRow.domain false) (Rows.storeAnySpec.post enc Try.prog Try.f4 false true false false) := by
  refine returnsInHanded_of_change_sized (C := Try.checked) own started (by kernel_rfl) Try.func4
    (ChangeSpec.witness6 (enc := enc) (C := Try.checked) false ⟨#[], #[.slice none 0 0, .slice none 0 0], []⟩ 8 (by kernel_rfl) (by kernel_rfl) (by kernel_rfl) (by kernel_rfl)) ?_
  intro W base args ds gs before hval0 hW hcnd hsz0 _
  have hsz : (DataW.weightsEach Try.prog (Try.f4.params.toList ++ Rows.storeAnySpec.plain.varTypes Try.prog) (ds ++ gs)).all (· ≤ reachBytes) = true := hsz0
  have hval : ∀ (j : Nat) t v, Try.f4.params[j]? = some t → args[j]? = some v → Value.okWide Try.prog W .any base t v := hval0
  have hW' := hW
  obtain ⟨p, q, hA0, hV, rfl, hfz, hnd⟩ := hW
  have hA : DataW.TrodAll enc Try.prog W 0 (fun _ => true) true Try.f4.params.toList args.toList ds p := hA0
  rw [Try.params4] at hA hval hsz
  obtain ⟨v0, vs0, d0, ds0, p0, q0, hargs, rfl, rfl, h0, r0⟩ := trodAll_cons hA
  obtain ⟨v1, vs1, d1, ds1, p1, q1, rfl, rfl, rfl, h1, r1⟩ := trodAll_cons r0
  obtain ⟨rfl, rfl, rfl⟩ := trodAll_nil r1
  obtain rfl : args = #[v0, v1] := by cases args; simp_all
  obtain ⟨rfl, rfl⟩ := trodVars_none hV
  obtain ⟨a0, len0, cap0, rfl⟩ := okWide_slice Try.underlying22 (hval 0 22 v0 rfl rfl)
  have k0 := h0
  have lt0 : ∀ x ∈ p0, x.block < W.heap.size := by obtain ⟨m, hm⟩ := k0; exact DataW.trod_lt m _ _ _ hm
  obtain ⟨fuel0, hf0⟩ := h0
  have hw0 : (d0.weights Try.prog 22).all (· ≤ reachBytes) = true := by
    have hz := hsz
    simp only [List.cons_append, DataW.weightsEach, List.all_append, Bool.and_eq_true] at hz
    exact hz.1
  obtain ⟨x0, wx0, rx0⟩ := opens_strCW Try.underlying22 Try.underlying9 (by kernel_rfl) (by kernel_rfl) H enc W fuel0 _ _ hw0 hf0
  obtain ⟨a1, len1, cap1, rfl⟩ := okWide_slice Try.underlying37 (hval 1 37 v1 rfl rfl)
  have k1 := h1
  have lt1 : ∀ x ∈ p1, x.block < W.heap.size := by obtain ⟨m, hm⟩ := k1; exact DataW.trod_lt m _ _ _ hm
  obtain ⟨fuel1, hf1⟩ := h1
  obtain ⟨x1, wx1, rx1⟩ := opens_ints Try.underlying37 Try.underlying3 (by kernel_rfl) H enc W fuel1 _ _ hf1
  clear hA0 hval0 hsz0 hsz
  refine (law_calls (by kernel_rfl) (storeAny_den x0 x1 wx0 []) W #[.slice a0 len0 cap0, .slice a1 len1 cap1] rfl ?_).mono fun e W' ⟨he, bel⟩ => ?_
  · intro j m hm
    match j, hm with
    | 0, hm => obtain rfl := Option.some.inj hm; exact arg1 (by simp [Value.cells]) rx0
    | 1, hm => obtain rfl := Option.some.inj hm; exact arg1 (by simp [Value.cells]) rx1
  subst he
  exact ⟨_, rfl, _, _, _, [], _, [], hW', trodAll_mk1 (shut_bool Try.underlying4 _), (trodAll_cons_mk (Below.trod laidOut (by kernel_rfl) (of_decide_eq_true (by kernel_rfl)) k0 bel lt0) (trodAll_cons_mk (Below.trod laidOut (by kernel_rfl) (of_decide_eq_true (by kernel_rfl)) k1 bel lt1) trodAll_mk0)), rfl, bel.frame _, fun h => by cases h⟩
theorem over : Rows.storeAnyRow.holds Try.pinned (OpenSpec.ofChange Rows.storeAnySpec) :=
  OpenClaim.holds_of_wide 4 Try.f4 rfl rfl rfl rfl rfl rfl rfl ⟨rfl, rfl, rfl, rfl, rfl⟩ rfl rfl rfl rfl rfl (by kernel_rfl) Try.func4 (by kernel_rfl)
    (of_decide_eq_true (by kernel_rfl)) (by unfold Func.isWrapper; first | (rw [if_pos (by decide +kernel)]; kernel_rfl) | (rw [if_neg (by decide +kernel)]; exact ⟨rfl, rfl⟩))
    (fun os started H enc _ => lifted os started H enc)
end Go.Proofs.Ytpcnacknlgmmlaa.storeAny
namespace Go.Proofs.Ytpcnacknlgmmlaa
/-- The row, under a short name, for the claim. -/
theorem storeAny_holds : Rows.StoreAnySaid := storeAny.over
#print axioms storeAny_holds
end Go.Proofs.Ytpcnacknlgmmlaa
