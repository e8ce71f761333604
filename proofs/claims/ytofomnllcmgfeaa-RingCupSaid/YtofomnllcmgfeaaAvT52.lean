import Derived.Test.YtofomnllcmgfeaaAvT51
set_option linter.unusedVariables false
set_option linter.unusedSimpArgs false
set_option maxRecDepth 100000
set_option maxHeartbeats 4000000
namespace Go.Av
open Go Go.Proofs Go.Proofs.Ytofomnllcmgfeaa Go.RowKit
/-! ### cup: in whatever order, the same key wins: plain law -/
open Go.Hp
theorem win_min (keys : List ByteArray) (v : List (List Int)) (h : 0 < min keys.length v.length) : ∃ a, a < min keys.length v.length ∧ winI keys v = (a : Int) ∧ ∀ i, i < min keys.length v.length → rlt (runOf keys v i) (runOf keys v a) = false := by
  obtain ⟨s1, s2⟩ := ordR_ok keys v
  unfold winI ordI
  cases ho : ordR keys v with
  | nil =>
    rw [ho] at s1
    have := s1.length_eq
    simp [runs] at this
    omega
  | cons x l =>
    rw [ho] at s1 s2
    have hx : x ∈ runs keys v (min keys.length v.length) := s1.subset (by simp)
    obtain ⟨a, ha, rfl⟩ := List.mem_map.1 hx
    refine ⟨a, List.mem_range.1 ha, by simp [runOf], fun i hi => ?_⟩
    have hm : runOf keys v i ∈ runOf keys v a :: l := s1.symm.subset (List.mem_map.2 ⟨i, List.mem_range.2 hi, rfl⟩)
    rcases List.mem_cons.1 hm with e | e
    · rw [e]
      rcases rlt_ord.tot (runOf keys v a) (runOf keys v a) with q | q <;> exact q
    · exact (List.pairwise_cons.1 s2).1 _ e
/-- The verdicts, in another order. -/
def permV (v : List (List Int)) (p : List Nat) : List (List Int) := p.map fun a => p.map fun b => ((v[a]?).getD [])[b]?.getD 0
def permK (keys : List ByteArray) (p : List Nat) : List ByteArray := p.map fun a => keyN keys a
theorem permV_len (v : List (List Int)) (p : List Nat) : (permV v p).length = p.length := by simp [permV]
theorem permK_len (k : List ByteArray) (p : List Nat) : (permK k p).length = p.length := by simp [permK]
theorem beats_nat (v : List (List Int)) (i k : Nat) : beats v i k = decide (0 < (((v[i]?).getD [])[k]?).getD 0) := by
  unfold beats row
  rw [Bool.eq_iff_iff]
  simp only [Int.toNat_natCast, Bool.and_eq_true, decide_eq_true_eq]
  constructor
  · rintro ⟨_, h⟩
    exact h
  · intro h
    by_cases h1 : i < v.length
    · by_cases h2 : k < ((v[i]?).getD []).length
      · exact ⟨⟨⟨⟨by omega, by omega⟩, by omega⟩, by omega⟩, h⟩
      · rw [List.getElem?_eq_none (by omega : ((v[i]?).getD []).length ≤ k)] at h
        simp at h
    · rw [List.getElem?_eq_none (by omega : v.length ≤ i)] at h
      simp at h
theorem permV_beats (v : List (List Int)) (p : List Nat) (i k a b : Nat) (hi : p[i]? = some a) (hk : p[k]? = some b) : beats (permV v p) i k = beats v a b := by
  rw [beats_nat, beats_nat]
  unfold permV
  simp [hi, hk]
theorem wins_perm (v : List (List Int)) (p : List Nat) (hp : p.Perm (List.range v.length)) (i a : Nat) (hi : p[i]? = some a) : winsTo (permV v p) i (permV v p).length = winsTo v a v.length := by
  have hl : p.length = v.length := by have := hp.length_eq; simpa using this
  have hnd : p.Nodup := hp.nodup_iff.2 List.nodup_range
  rw [permV_len]
  unfold winsTo
  rw [← List.countP_eq_length_filter, ← List.countP_eq_length_filter, ← hp.countP_eq]
  have e : p = (List.range p.length).map fun k => p[k]?.getD 0 := by
    apply List.ext_getElem?
    intro n
    by_cases h : n < p.length
    · rw [List.getElem?_map, List.getElem?_range h]
      simp [List.getElem?_eq_getElem h]
    · rw [List.getElem?_eq_none (by omega), List.getElem?_eq_none (by simp; omega)]
  conv => rhs; rw [e]
  rw [List.countP_map]
  refine List.countP_congr fun k hk => ?_
  have hk' := List.mem_range.1 hk
  obtain ⟨b, hb⟩ : ∃ b, p[k]? = some b := ⟨_, List.getElem?_eq_getElem hk'⟩
  have h2 := permV_beats v p i k a b hi hb
  have h3 : (k = i) ↔ (b = a) := by
    constructor
    · intro h; subst h; rw [hi] at hb; exact (Option.some.inj hb).symm
    · intro h
      subst h
      obtain ⟨h1, e1⟩ := List.getElem?_eq_some_iff.1 hi
      obtain ⟨h2, e2⟩ := List.getElem?_eq_some_iff.1 hb
      exact (List.getElem_inj hnd).1 (e2.trans e1.symm)
  simp only [Function.comp, hb, Option.getD_some, h2, Int.natCast_inj, h3]
theorem winner_perm (keys : List ByteArray) (v : List (List Int)) (p : List Nat) (hk : keys.length = v.length) (h0 : 0 < v.length) (hp : p.Perm (List.range v.length))
    (hd : ∀ i k, i < k → k < keys.length → keyN keys i ≠ keyN keys k) :
    ∃ x y : Nat, winI keys v = (x : Int) ∧ winI (permK keys p) (permV v p) = (y : Int) ∧ x < keys.length ∧ y < p.length ∧ keyN keys x = keyN (permK keys p) y := by
  have hl : p.length = v.length := by have := hp.length_eq; simpa using this
  obtain ⟨a, ha, ea, hma⟩ := win_min keys v (by omega)
  obtain ⟨b', hb', eb, hmb⟩ := win_min (permK keys p) (permV v p) (by rw [permK_len, permV_len]; omega)
  rw [permK_len, permV_len, Nat.min_self] at hb' hmb
  rw [hk, Nat.min_self] at ha hma
  refine ⟨a, b', ea, eb, by omega, hb', ?_⟩
  obtain ⟨b, hb⟩ : ∃ b, p[b']? = some b := ⟨_, List.getElem?_eq_getElem hb'⟩
  have hbm : b < v.length := List.mem_range.1 (hp.subset (List.mem_of_getElem? hb))
  obtain ⟨a', ha'⟩ := List.getElem?_of_mem (hp.symm.subset (List.mem_range.2 ha))
  have ha'l := (List.getElem?_eq_some_iff.1 ha').1
  have kk : ∀ i c, p[i]? = some c → keyN (permK keys p) i = keyN keys c := fun i c h => by
    have e1 : (permK keys p)[i]? = some (keyN keys c) := by unfold permK; rw [List.getElem?_map, h]; rfl
    unfold keyN at e1 ⊢
    rw [e1]; rfl
  rw [kk b' b hb]
  have m1 := hma b hbm
  have m2 := hmb a' ha'l
  rw [rlt_eq] at m1 m2
  rw [wins_perm v p hp a' a ha', wins_perm v p hp b' b hb, kk a' a ha', kk b' b hb] at m2
  by_cases e : (keyN keys a).toList = (keyN keys b).toList
  · exact (toList_inj3 _ _).1 e
  · exfalso
    by_cases ew : winsTo v b v.length = winsTo v a v.length
    · rw [if_pos ew, if_neg (fun q => e q.symm)] at m1
      rw [if_pos ew.symm, if_neg e] at m2
      unfold less at m1 m2
      exact e (bl_eq _ _ m2 m1)
    · rw [if_neg ew] at m1
      rw [if_neg (fun q => ew q.symm)] at m2
      simp only [decide_eq_false_iff_not] at m1 m2
      omega
end Go.Av
