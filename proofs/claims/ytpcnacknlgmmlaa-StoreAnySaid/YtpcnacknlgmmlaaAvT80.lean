/- 1 texts of the program logic over abstract values, joined: each is proved without any condition beyond its own words. -/
import Derived.Test.YtpcnacknlgmmlaaAvT78
set_option exponentiation.threshold 1000
set_option linter.unusedVariables false
set_option linter.unusedSimpArgs false
set_option maxRecDepth 100000
set_option maxHeartbeats 4000000
namespace Go.Av
open Go Go.Proofs Go.Proofs.Ytpcnacknlgmmlaa Go.RowKit
attribute [local simp] List.getElem?_cons_zero List.getElem?_cons_succ
/-! ### slices.Sort of a row of texts of the call's own -/
open Go.Sort
theorem grow_nil (w : World) : grow w #[] = w := by simp [grow]
theorem step_grow {ob : List Ob} : ∀ (os : List Obj) (w : World) (E : Env), HeapOK w E ob → ∃ E', Step w E ob (grow w os.toArray) E' ob
  | [], w, E, hh => ⟨E, by rw [show ([] : List Obj).toArray = #[] from rfl, grow_nil]; exact Step.refl hh⟩
  | o :: os, w, E, hh => by
    have s1 := step_stable hh (w' := grow w #[o]) o rfl rfl rfl (by show w.heap ++ #[o] = w.heap.push o; simp)
    obtain ⟨E', s2⟩ := step_grow os (grow w #[o]) _ s1.1
    have he : grow (grow w #[o]) os.toArray = grow w (o :: os).toArray := by
      show ({ w with heap := w.heap ++ #[o] ++ os.toArray } : World) = { w with heap := w.heap ++ (o :: os).toArray }
      congr 1
      apply Array.toList_inj.1
      simp
    rw [he] at s2
    exact ⟨E', s1.trans s2⟩
def bL (s : ByteArray) : List UInt8 := s.data.toList
def lB (l : List UInt8) : ByteArray := ⟨l.toArray⟩
def sortB (l : List ByteArray) : List ByteArray := ((l.map bL).mergeSort fun x y => decide (x ≤ y)).map lB
theorem sortB_len (l : List ByteArray) : (sortB l).length = l.length := by simp [sortB]
theorem sort_den (i g : Nat) (l : List ByteArray) (ob : List Ob) (hl : l.length < 4611686018427387904) (ho : ob[i]? = some ⟨9, 1, false, g, up (l.map sC), none⟩) :
    Den Try.prog 22 [.ms i g 0 l.length] ob (fun r ob' => r = .tup [] ∧ ob' = ob.set i ⟨9, 1, false, g, up ((sortB l).map sC), none⟩) := by
  intro w E vals hl1 ha hh
  have h0 := ha 0 _ rfl
  obtain ⟨va, rfl⟩ : ∃ va, vals = #[va] := by
    obtain ⟨l⟩ := vals
    match l, hl1 with
    | [a], _ => exact ⟨a, rfl⟩
  cases h0 with
  | ms h0 =>
  obtain ⟨_, o', ho', _, _, hk⟩ := h0
  rw [ho] at ho'
  obtain rfl := Option.some.inj ho'
  obtain ⟨cap, hva, hcap, hroom⟩ := (hk rfl).2 rfl
  replace hva : va = .slice (some ⟨E.blk i, 0, none⟩) l.length cap := hva
  subst hva
  have hob := hh.obj i _ ho
  obtain ⟨arr, lo, hi, hb, hfz, hasz, hrow⟩ := hob.2 rfl
  have hget : ∀ j (hj : j < l.length), arr[j]? = some (.string l[j]) := by
    intro j hj
    obtain ⟨y, hy, _, hr⟩ := hrow j (.c (sC l[j])) (by simp [up, hj])
    rw [hy, arg_v hr]
  have hsz : ∀ j, j < l.length → j < arr.size := fun j hj => (Array.getElem?_eq_some_iff.1 (hget j hj)).1
  have hH : Holds encStr w (E.blk i) 0 ((l.map bL).toArray) := by
    intro j hj
    have hj' : j < l.length := by simpa using hj
    refine ⟨?_, ?_⟩
    · simp only [World.cell?, Nat.zero_add, hb]
      rw [hget j hj', getElem!_pos _ j hj]
      simp [encStr, bL]
    · simp only [World.frozen?, Nat.zero_add, hb]
      have := hfz j (hsz j hj')
      simp
      omega
  refine .inl ⟨by kernel_rfl, ?_⟩
  have hc := Try.slices_Sort_string (E.blk i) 0 cap (l.map bL) w hH (hh.own i _ ho rfl).2 (by simpa using hl)
  rw [List.length_map] at hc
  refine hc.mono ?_
  rintro e w' ⟨rfl, n, os, rfl⟩
  refine ⟨_, rfl, .tup [], ob.set i ⟨9, 1, false, g, up ((sortB l).map sC), none⟩, ?_⟩
  generalize hd : ((l.map bL).mergeSort fun x y => decide (x ≤ y)) = d
  have hdl : d.length = l.length := by rw [← hd]; simp
  have hsd : sortB l = d.map lB := by rw [sortB, hd]
  have s1 : Step w E ob (putRow encStr (Sort.ahead w n) (E.blk i) 0 d.toArray) E (ob.set i { (⟨9, 1, false, g, up (l.map sC), none⟩ : Ob) with cs := up ((sortB l).map sC), gen := g }) :=
    step_set hh ho rfl rfl (up ((sortB l).map sC)) g (Nat.le_refl _) (putCells encStr 0 d.toArray arr) 9 lo hi rfl
      (by
        intro j m hm
        have hj : j < l.length := by
          have := (List.getElem?_eq_some_iff.1 hm).1
          simpa [up, sortB] using this
        have hjd : j < d.length := by omega
        have hm2 : m = .c (sC (lB d[j])) := by
          have h1 : (up ((sortB l).map sC))[j]? = some (.c (sC (lB d[j]))) := by simp [up, hsd, hjd]
          rw [h1] at hm
          exact (Option.some.inj hm).symm
        subst hm2
        refine ⟨.string (lB d[j]), ?_, rfl, .c (.v _)⟩
        simp only [putCells, Array.getElem?_mapIdx, hget j hj, Option.map_some, Nat.zero_le, true_and, Nat.zero_add, Nat.sub_zero]
        rw [if_pos (by simpa using hjd), getElem!_pos _ j (by simpa using hjd)]
        simp [encStr, lB])
      (by simpa [putCells] using hfz) (by simpa [putCells] using hasz) rfl rfl rfl (by simp [Sort.ahead])
      (fun b hb' => by simp [putRow, mapBlock, Sort.ahead, Array.getElem?_modify, Ne.symm hb'])
      (by simp [putRow, mapBlock, Sort.ahead, Array.getElem?_modify, hb, onCells])
  obtain ⟨E', s2⟩ := step_grow os.toList _ E s1.1
  exact ⟨E', ⟨rfl, rfl⟩, .tup _ _ rfl (fun j hj m' hm => by simp at hm), s1.trans s2⟩
end Go.Av
