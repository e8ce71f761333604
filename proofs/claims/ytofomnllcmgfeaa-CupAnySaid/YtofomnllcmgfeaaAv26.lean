/- Arrays and structs of plain cells, held against each other. -/
import Derived.Test.YtofomnllcmgfeaaAv5
import Derived.Laws.StructEq
import Derived.ChangeKeysEq
set_option linter.unusedVariables false
set_option linter.unusedSimpArgs false
namespace Go.Av
open Go
variable {P : Program} {w : World} {E : Env} {ob : List Ob}

theorem dec_beq_int (a b : Int) : (a == b) = decide (a = b) := by
  by_cases h : a = b <;> simp [h]
theorem dec_beq_list (a b : List UInt8) : (a == b) = decide (a = b) := by
  by_cases h : a = b <;> simp [h]
theorem dec_beq_bool (a b : Bool) : (a == b) = decide (a = b) := by
  by_cases h : a = b <;> simp [h]

theorem of_ite' {α : Type} {c : Prop} [Decidable c] {x : Option α} {y : α} (h : (if c then x else none) = some y) : c ∧ x = some y := by
  by_cases hc : c
  · rw [if_pos hc] at h; exact ⟨hc, h⟩
  · rw [if_neg hc] at h; simp at h
def eqLeafV : Nat → Value → Value → Option Bool
  | 0, .int k a, .int k' b => if k = k' then some (decide (a = b)) else none
  | 1, .bool a, .bool b => some (decide (a = b))
  | 2, .string a, .string b => some (decide (a.toList = b.toList))
  | _, _, _ => none
def eqV : List Nat → List Value → List Value → Option Bool
  | [], [], [] => some true
  | k :: ks, a :: r, b :: s => match eqLeafV k a b, eqV ks r s with
    | some x, some y => some (x && y)
    | _, _ => none
  | _, _, _ => none
theorem eqV_len : ∀ {ks : List Nat} {xs ys : List Value} {b : Bool}, eqV ks xs ys = some b → xs.length = ks.length ∧ ys.length = ks.length
  | [], [], [], _, _ => ⟨rfl, rfl⟩
  | [], [], _ :: _, _, h => by simp [eqV] at h
  | [], _ :: _, _, _, h => by simp [eqV] at h
  | k :: ks, [], _, _, h => by simp [eqV] at h
  | k :: ks, _ :: _, [], _, h => by simp [eqV] at h
  | k :: ks, x :: xs, y :: ys, b, h => by
    simp only [eqV] at h
    split at h
    · rename_i u v h1 h2
      have := eqV_len h2
      simp [this.1, this.2]
    · simp at h
theorem eqV_app : ∀ {k1 k2 : List Nat} {xs ys : List Value} {b : Bool}, eqV (k1 ++ k2) xs ys = some b →
    ∃ u v, eqV k1 (xs.take k1.length) (ys.take k1.length) = some u ∧ eqV k2 (xs.drop k1.length) (ys.drop k1.length) = some v ∧ b = (u && v)
  | [], k2, xs, ys, b, h => ⟨true, b, rfl, h, by simp⟩
  | k :: k1, k2, [], _, _, h => by simp [eqV] at h
  | k :: k1, k2, _ :: _, [], _, h => by simp [eqV] at h
  | k :: k1, k2, x :: xs, y :: ys, b, h => by
    simp only [List.cons_append, eqV] at h
    split at h
    · rename_i u v h1 h2
      obtain rfl := Option.some.inj h
      obtain ⟨p, q, e1, e2, rfl⟩ := eqV_app h2
      refine ⟨u && p, q, ?_, e2, by rw [Bool.and_assoc]⟩
      simp only [List.length_cons, List.take_succ_cons, eqV, h1, e1]
    · simp at h
/-- A value out of its cells. -/
def wrapT (P : Program) (t : TypeId) (xs : List Value) : Value := if isAggT P t then .agg xs.toArray else xs.headD undef
theorem run_part_w {e : TypeId} {arr : Array Value} {off n : Nat} (hok : okT P e = true) (hn : n = szT P e) (hle : off + n ≤ arr.size) (h1 : isAggT P e = false → n = 1) :
    (part e arr off).run P w = .ok (wrapT P e ((arr.toList.drop off).take n)) w := by
  obtain ⟨d, hd⟩ := under_of_ok hok
  obtain ⟨ti, hti⟩ := info_of_under hd
  subst hn
  cases hagg : isAggT P e with
  | true =>
    simp only [part, Sem.run_bind, run_isAgg hd, hagg, Result.andThen_ok, if_true, run_size hti, Sem.run_pure, wrapT]
    congr 2
    apply Array.toList_inj.1
    simp
  | false =>
    have hs := h1 hagg
    have hlt : off < arr.size := by omega
    simp only [part, Sem.run_bind, run_isAgg hd, hagg, Result.andThen_ok, Bool.false_eq_true, if_false, wrapT, Array.getElem?_eq_getElem hlt, Sem.run_pure, hs]
    congr 1
    have hl : off < arr.toList.length := by simpa using hlt
    rw [List.drop_eq_getElem_cons hl]
    simp
def EqOK (P : Program) (D : Nat) (t : TypeId) (ks : List Nat) : Prop := ∀ (w : World) (xs ys : List Value) (b : Bool), eqV ks xs ys = some b → (Op.equalIn D t (wrapT P t xs) (wrapT P t ys)).run P w = .ok b w
theorem run_items {e : TypeId} {D : Nat} {l : List Nat} (hE : EqOK P D e l) (hok : okT P e = true) (hl : l.length = szT P e) (hpos : 0 < l.length) (h1 : isAggT P e = false → l.length = 1) (xs ys : Array Value) : ∀ (n i : Nat) (b : Bool) (w : World),
    eqV (List.replicate n l).flatten (xs.toList.drop (i * szT P e)) (ys.toList.drop (i * szT P e)) = some b → (Op.eqItems D e (P.cellsOf e) xs ys (List.range' i n)).run P w = .ok b w
  | 0, i, b, w, h => by
    simp only [List.replicate_zero, List.flatten_nil] at h
    cases hx : xs.toList.drop (i * szT P e) <;> cases hy : ys.toList.drop (i * szT P e) <;> rw [hx, hy] at h <;> simp [eqV] at h
    subst h
    simp [Op.eqItems]
  | n + 1, i, b, w, h => by
    rw [List.replicate_succ, List.flatten_cons] at h
    obtain ⟨u, v, e1, e2, rfl⟩ := eqV_app h
    have hlen := eqV_len h
    simp only [List.length_drop, Array.length_toList, List.length_append] at hlen
    rw [hl] at e1 e2 hlen
    have hsz : l.length ≤ xs.size - i * szT P e := by omega
    have p1 := run_part_w (P := P) (w := w) (arr := xs) (off := i * szT P e) hok rfl (by omega) (fun h => by rw [← hl]; exact h1 h)
    have p2 := run_part_w (P := P) (w := w) (arr := ys) (off := i * szT P e) hok rfl (by omega) (fun h => by rw [← hl]; exact h1 h)
    have p3 := hE w _ _ _ e1
    have hc : P.cellsOf e = szT P e := rfl
    simp only [List.range'_succ, Op.eqItems, Sem.run_bind, hc, p1, p2, p3, Result.andThen_ok]
    cases u with
    | false => simp
    | true =>
      simp only [Bool.not_true, Bool.false_eq_true, if_false, Bool.true_and]
      refine run_items hE hok hl hpos h1 xs ys n (i + 1) v w ?_
      rw [List.drop_drop, List.drop_drop] at e2
      rw [show (i + 1) * szT P e = i * szT P e + szT P e by rw [Nat.add_mul]; omega]
      exact e2
def fieldStep (P : Program) (d : Nat) (acc : Option (List Nat)) (f : Field) : Option (List Nat) := match acc, leavesT P d f.type with
  | some l, some k => if f.name ≠ "_" then (if f.offset = l.length then (if k.length = szT P f.type ∧ 0 < k.length then (if okT P f.type then (if isAggT P f.type then some (l ++ k) else (if k.length = 1 then some (l ++ k) else none)) else none) else none) else none) else none
  | _, _ => none
theorem fold_none (d : Nat) (fs : List Field) : fs.foldl (fieldStep P d) none = none := by
  induction fs with
  | nil => rfl
  | cons f fs ih => rw [List.foldl_cons]; exact ih
theorem run_fields {d D : Nat} (hE : ∀ t ks, leavesT P d t = some ks → EqOK P D t ks) (xs ys : Array Value) : ∀ (fs : List Field) (l ks : List Nat) (b : Bool) (w : World),
    fs.foldl (fieldStep P d) (some l) = some ks → (∃ r, ks = l ++ r ∧ eqV r (xs.toList.drop l.length) (ys.toList.drop l.length) = some b) → (Op.eqFields D xs ys fs).run P w = .ok b w
  | [], l, ks, b, w, h, ⟨r, hr, he⟩ => by
    simp only [List.foldl_nil, Option.some.injEq] at h
    subst h
    obtain rfl : r = [] := by simpa using hr
    cases hx : xs.toList.drop l.length <;> cases hy : ys.toList.drop l.length <;> rw [hx, hy] at he <;> simp [eqV] at he
    subst he
    simp [Op.eqFields]
  | f :: fs, l, ks, b, w, h, ⟨r, hr, he⟩ => by
    rw [List.foldl_cons] at h
    cases hs : fieldStep P d (some l) f with
    | none => rw [hs, fold_none] at h; simp at h
    | some l' =>
      rw [hs] at h
      unfold fieldStep at hs
      split at hs
      · rename_i l0 k hl0 hk
        obtain rfl := Option.some.inj hl0
        obtain ⟨hn, hs⟩ := of_ite' hs
        obtain ⟨hoff, hs⟩ := of_ite' hs
        obtain ⟨⟨hsz, hpos⟩, hs⟩ := of_ite' hs
        obtain ⟨hok, hs⟩ := of_ite' hs
        have h3 : l' = l ++ k ∧ (isAggT P f.type = false → k.length = 1) := by
          split at hs
          · rename_i ha
            exact ⟨(Option.some.inj hs).symm, fun e => by rw [e] at ha; simp at ha⟩
          · obtain ⟨h1, hs⟩ := of_ite' hs
            exact ⟨(Option.some.inj hs).symm, fun _ => h1⟩
        obtain ⟨rfl, h1⟩ := h3
        have hpre : ∃ q, r = k ++ q := by
          have : ∀ (fs : List Field) (a b : List Nat), fs.foldl (fieldStep P d) (some a) = some b → ∃ q, b = a ++ q := by
            intro fs
            induction fs with
            | nil => intro a b h; exact ⟨[], by simpa using h.symm⟩
            | cons g gs ih =>
              intro a b h
              rw [List.foldl_cons] at h
              cases hg : fieldStep P d (some a) g with
              | none => rw [hg, fold_none] at h; simp at h
              | some a' =>
                rw [hg] at h
                obtain ⟨q, rfl⟩ := ih a' b h
                unfold fieldStep at hg
                split at hg
                · rename_i l0 k' hl0 hk'
                  obtain rfl := Option.some.inj hl0
                  obtain ⟨_, hg⟩ := of_ite' hg
                  obtain ⟨_, hg⟩ := of_ite' hg
                  obtain ⟨_, hg⟩ := of_ite' hg
                  obtain ⟨_, hg⟩ := of_ite' hg
                  split at hg
                  · obtain rfl := Option.some.inj hg
                    exact ⟨k' ++ q, by simp⟩
                  · obtain ⟨_, hg⟩ := of_ite' hg
                    obtain rfl := Option.some.inj hg
                    exact ⟨k' ++ q, by simp⟩
                · simp at hg
          obtain ⟨q, hq⟩ := this fs (l ++ k) ks h
          exact ⟨q, by rw [hr] at hq; simpa using hq⟩
        obtain ⟨q, rfl⟩ := hpre
        obtain ⟨u, v, e1, e2, rfl⟩ := eqV_app he
        have hlen := eqV_len he
        simp only [List.length_drop, Array.length_toList, List.length_append] at hlen
        have p1 := run_part_w (P := P) (w := w) (arr := xs) (off := l.length) hok hsz (by omega) h1
        have p2 := run_part_w (P := P) (w := w) (arr := ys) (off := l.length) hok hsz (by omega) h1
        have p3 := hE f.type k hk w _ _ _ e1
        simp only [Op.eqFields, hn, ne_eq, not_false_eq_true, if_true, Sem.run_bind, hoff, p1, p2, p3, Result.andThen_ok]
        cases u with
        | false => simp
        | true =>
          simp only [Bool.not_true, Bool.false_eq_true, if_false, Bool.true_and]
          refine run_fields hE xs ys fs (l ++ k) ks v w h ⟨q, by rw [hr]; simp, ?_⟩
          rw [List.drop_drop, List.drop_drop] at e2
          simpa using e2
      · simp at hs
theorem eqOK_of : ∀ (d : Nat) (t : TypeId) (ks : List Nat) (D : Nat), leavesT P d t = some ks → EqOK P (d + D) t ks
  | 0, t, ks, D, h => by simp [leavesT] at h
  | d + 1, t, ks, D, h => by
    intro w xs ys b he
    have hD : d + 1 + D = (d + D) + 1 := by omega
    rw [hD]
    unfold leavesT at h
    have one : ∀ k, ks = [k] → ∃ a b', xs = [a] ∧ ys = [b'] ∧ eqLeafV k a b' = some b := by
      intro k hk
      subst hk
      have hl := eqV_len he
      match xs, ys, hl with
      | [a], [b'], _ =>
        simp only [eqV] at he
        split at he
        · rename_i u v h1 h2
          simp only [Option.some.injEq] at h2 he
          subst h2
          simp only [Bool.and_true] at he
          subst he
          exact ⟨a, b', rfl, rfl, h1⟩
        · simp at he
    split at h
    · rename_i hu
      obtain ⟨a, b', rfl, rfl, hq⟩ := one 1 (Option.some.inj h).symm
      have hag : isAggT P t = false := by unfold isAggT; rw [hu]
      simp only [wrapT, hag, Bool.false_eq_true, if_false, List.headD_cons]
      unfold eqLeafV at hq
      split at hq
      all_goals (try (exfalso; omega))
      all_goals simp at hq
      subst hq
      simp [Op.equalIn, run_underlying hu, dec_beq_bool]
    · rename_i k' hu
      obtain ⟨a, b', rfl, rfl, hq⟩ := one 0 (Option.some.inj h).symm
      have hag : isAggT P t = false := by unfold isAggT; rw [hu]
      simp only [wrapT, hag, Bool.false_eq_true, if_false, List.headD_cons]
      unfold eqLeafV at hq
      split at hq
      all_goals (try (exfalso; omega))
      all_goals simp at hq
      obtain ⟨rfl, rfl⟩ := hq
      simp [Op.equalIn, run_underlying hu, dec_beq_int]
    · rename_i hu
      obtain ⟨a, b', rfl, rfl, hq⟩ := one 2 (Option.some.inj h).symm
      have hag : isAggT P t = false := by unfold isAggT; rw [hu]
      simp only [wrapT, hag, Bool.false_eq_true, if_false, List.headD_cons]
      unfold eqLeafV at hq
      split at hq
      all_goals (try (exfalso; omega))
      all_goals simp at hq
      subst hq
      simp [Op.equalIn, run_underlying hu, beq_toListBytes, dec_beq_list]
    · rename_i n e hu
      split at h
      · rename_i l hl
        obtain ⟨⟨hsz, hpos⟩, h⟩ := of_ite' h
        obtain ⟨hok, h⟩ := of_ite' h
        have h3 : ks = (List.replicate n l).flatten ∧ (isAggT P e = false → l.length = 1) := by
          split at h
          · rename_i ha
            exact ⟨(Option.some.inj h).symm, fun e => by rw [e] at ha; simp at ha⟩
          · obtain ⟨h1, h⟩ := of_ite' h
            exact ⟨(Option.some.inj h).symm, fun _ => h1⟩
        obtain ⟨rfl, h1⟩ := h3
        have hag : isAggT P t = true := by unfold isAggT; rw [hu]
        obtain ⟨dd, hd⟩ := under_of_ok hok
        obtain ⟨ti, hti⟩ := info_of_under hd
        simp only [wrapT, hag, if_true]
        rw [run_equalIn_array w (d + D) _ _ hu hti, List.range_eq_range']
        exact run_items (eqOK_of d e l D hl) hok hsz hpos h1 _ _ n 0 b w (by simpa using he)
      · simp at h
    · rename_i fs hu
      split at h
      · simp at h
      · rename_i hst
        have hag : isAggT P t = true := by unfold isAggT; rw [hu]
        have hfo : P.fieldsOf t = fs := by unfold Program.fieldsOf; rw [hu]
        simp only [wrapT, hag, if_true]
        rw [run_equalIn_struct w (d + D) t _ _ (by rw [hfo]; exact hu) (by simpa using hst), hfo]
        exact run_fields (fun t' ks' h' => eqOK_of d t' ks' D h') _ _ fs.toList [] ks b w h ⟨ks, rfl, by simpa using he⟩
    · simp at h
theorem eqM_V : ∀ {ks : List Nat} {ms ms' : List M} {xs ys : List Value} {b : Bool}, xs.length = ms.length → ys.length = ms'.length → (∀ (j : Nat) m v, ms[j]? = some m → xs[j]? = some v → RepM w E ob m v) → (∀ (j : Nat) m v, ms'[j]? = some m → ys[j]? = some v → RepM w E ob m v) →
    eqM ks ms ms' = some b → eqV ks xs ys = some b
  | [], [], [], [], [], b, _, _, _, _, h => h
  | [], [], [], _ :: _, _, b, hl, _, _, _, h => by simp at hl
  | [], [], [], [], _ :: _, b, _, hl, _, _, h => by simp at hl
  | [], [], _ :: _, _, _, _, _, _, _, _, h => by simp [eqM] at h
  | [], _ :: _, _, _, _, _, _, _, _, _, h => by simp [eqM] at h
  | k :: ks, [], _, _, _, _, _, _, _, _, h => by simp [eqM] at h
  | k :: ks, _ :: _, [], _, _, _, _, _, _, _, h => by simp [eqM] at h
  | k :: ks, m :: ms, m' :: ms', [], _, _, hl, _, _, _, _ => by simp at hl
  | k :: ks, m :: ms, m' :: ms', _ :: _, [], _, _, hl, _, _, _ => by simp at hl
  | k :: ks, m :: ms, m' :: ms', x :: xs, y :: ys, b, l1, l2, r1, r2, h => by
    simp only [eqM] at h
    split at h
    · rename_i u v h1 h2
      obtain rfl := Option.some.inj h
      have q1 := r1 0 m x rfl rfl
      have q2 := r2 0 m' y rfl rfl
      have e1 : eqLeafV k x y = some u := by
        unfold eqLeaf at h1
        split at h1
        · cases q1 with
          | c q => cases q; cases q2 with
            | c q => cases q; exact h1
        · cases q1 with
          | c q => cases q; cases q2 with
            | c q => cases q; exact h1
        · cases q1 with
          | c q => cases q; cases q2 with
            | c q => cases q; exact h1
        · simp at h1
      have e2 := eqM_V (ks := ks) (ms := ms) (ms' := ms') (xs := xs) (ys := ys) (by simpa using l1) (by simpa using l2) (fun j m v hm hv => r1 (j + 1) m v (by simpa using hm) (by simpa using hv)) (fun j m v hm hv => r2 (j + 1) m v (by simpa using hm) (by simpa using hv)) h2
      simp only [eqV, e1, e2]
    · simp at h
/-- Two arrays or structs, of plain cells. -/
theorem sound_eqX {t : TypeId} {ms ms' : List M} {a b : Value} {ks : List Nat} {r : Bool} (hx : RepM w E ob (.agg ms) a) (hy : RepM w E ob (.agg ms') b) (hk : leavesX P t = some ks) (h : eqM ks ms ms' = some r) :
    (∃ xs ys, a = .agg xs ∧ b = .agg ys) ∧ (Op.equal t a b).run P w = .ok r w ∧ P.eqGuardType P.depth t = false := by
  unfold leavesX at hk
  split at hk
  · simp at hk
  · rename_i hg
    split at hk
    · rename_i hag
      cases hx with
      | agg _ xs hs ho hr => cases hy with
        | agg _ ys hs' ho' hr' =>
          refine ⟨⟨xs, ys, rfl, rfl⟩, ?_, by simpa using hg⟩
          have he := eqM_V (w := w) (E := E) (ob := ob) (xs := xs.toList) (ys := ys.toList) (by simpa using hs) (by simpa using hs') (fun j m v hm hv => by
            obtain ⟨hj, rfl⟩ := Array.getElem?_eq_some_iff.1 (by simpa using hv : xs[j]? = some v)
            exact hr j hj m hm) (fun j m v hm hv => by
            obtain ⟨hj, rfl⟩ := Array.getElem?_eq_some_iff.1 (by simpa using hv : ys[j]? = some v)
            exact hr' j hj m hm) h
          have := eqOK_of 12 t ks (Op.maxDepth - 12) hk w _ _ r he
          rw [show 12 + (Op.maxDepth - 12) = Op.maxDepth by unfold Op.maxDepth; omega] at this
          simp only [wrapT, hag, if_true] at this
          exact this
    · simp at hk
end Go.Av
