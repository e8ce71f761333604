/- Cuts and conversions. -/
import Derived.Test.YtofomnllcmgfeaaAv9
set_option linter.unusedVariables false
set_option linter.unusedSimpArgs false
namespace Go.Av
open Go

variable {P : Program} {w : World} {E : Env} {ob : List Ob}

/-- An optional operand, told. -/
def RepO (w : World) (E : Env) (ob : List Ob) : Option M → Option Value → Prop
  | none, none => True
  | some m, some v => RepM w E ob m v
  | _, _ => False

theorem run_bound {m : Option M} {v : Option Value} {d i : Int} (hr : RepO w E ob m v) (h : boundM m d = some i) (hne : m ≠ none) : ∃ k, v = some (.int k i) := by
  cases m with
  | none => exact absurd rfl hne
  | some m =>
    cases v with
    | none => exact hr.elim
    | some v =>
      obtain ⟨k, rfl⟩ := asI_rep hr h
      exact ⟨k, rfl⟩

theorem run_sliceBound (k : IntKind) (i : Int) (y : Nat) (code : BoundsCode) (h0 : 0 ≤ i) (h1 : i ≤ y) : (Instr.sliceBound (.int k i) y code).run P w = .ok i.toNat w := by
  simp [Instr.sliceBound, asIntOf, h0, h1]

/-- The three bounds of a cut. -/
theorem run_bounds {isS : Bool} {len cap : Nat} {lo hi mx : Option M} {vl vh vm : Option Value} {l h : Int} (hl : RepO w E ob lo vl) (hh : RepO w E ob hi vh) (hm : RepO w E ob mx vm) (el : boundM lo 0 = some l) (eh : boundM hi len = some h)
    (h0 : 0 ≤ l) (h1 : l ≤ h) (em : ∀ d, ∃ m, boundM mx d = some m) (hmx : mx.isSome = true → hi.isSome = true) (h2 : ∀ m, boundM mx cap = some m → h ≤ m ∧ m ≤ cap) :
    ∃ m, boundM mx cap = some m ∧ (Instr.sliceBounds isS len cap vl vh vm).run P w = .ok (l.toNat, h.toNat, m.toNat) w := by
  obtain ⟨m, hm0⟩ := em cap
  obtain ⟨h3, h4⟩ := h2 m hm0
  refine ⟨m, hm0, ?_⟩
  have split3 : ∀ {m : Option M} {v : Option Value} {d i : Int}, RepO w E ob m v → boundM m d = some i → (m = none ∧ v = none ∧ i = d) ∨ (m.isSome = true ∧ ∃ k, v = some (.int k i)) := by
    intro m v d i hr hb
    cases m with
    | none =>
      cases v with
      | none => exact .inl ⟨rfl, rfl, (Option.some.inj hb).symm⟩
      | some _ => exact hr.elim
    | some q => exact .inr ⟨rfl, run_bound hr hb (by simp)⟩
  have hlo := fun c => fun k => run_sliceBound (P := P) (w := w) k l h.toNat c h0 (by omega)
  have hhi := fun c => fun k => run_sliceBound (P := P) (w := w) k h cap c (by omega) (by omega)
  have hhm := fun c => fun k => run_sliceBound (P := P) (w := w) k h m.toNat c (by omega) (by omega)
  have hmm := fun c => fun k => run_sliceBound (P := P) (w := w) k m cap c (by omega) (by omega)
  rcases split3 hm hm0 with ⟨rfl, rfl, rfl⟩ | ⟨hms, km, rfl⟩
  · rcases split3 hh eh with ⟨rfl, rfl, rfl⟩ | ⟨_, kh, rfl⟩
    · rcases split3 hl el with ⟨rfl, rfl, rfl⟩ | ⟨_, kl, rfl⟩
      · simp [Instr.sliceBounds]
      · simp at hlo
        simp [Instr.sliceBounds, hlo]
    · rcases split3 hl el with ⟨rfl, rfl, rfl⟩ | ⟨_, kl, rfl⟩
      · simp [Instr.sliceBounds, hhi]
      · simp [Instr.sliceBounds, hhi, hlo]
  · rcases split3 hh eh with ⟨rfl, rfl, rfl⟩ | ⟨_, kh, rfl⟩
    · simp [hms] at hmx
    · rcases split3 hl el with ⟨rfl, rfl, rfl⟩ | ⟨_, kl, rfl⟩
      · simp [Instr.sliceBounds, hhm, hmm]
      · simp [Instr.sliceBounds, hhm, hmm, hlo]

theorem boundM_any {mx : Option M} {d m : Int} (h : boundM mx d = some m) : ∀ d', ∃ m', boundM mx d' = some m' := by
  intro d'
  cases mx with
  | none => exact ⟨d', rfl⟩
  | some x => exact ⟨m, h⟩

theorem map_add_none (a : Option Addr) (l : Nat) : (if l = l then a else a.map (·.add l)) = a := by simp

theorem sound_slice (hhp : HeapOK w E ob) {t : TypeId} {x m : M} {y : Value} {lo hi mx : Option M} {vl vh vm : Option Value} (hx : RepM w E ob x y) (hl : RepO w E ob lo vl) (hh : RepO w E ob hi vh) (hm : RepO w E ob mx vm) (hmx : mx.isSome = true → hi.isSome = true)
    (hoks : ∀ e, P.underlying t = some (.slice e) → okT P e = true) (hoka : ∀ n e, P.underlying t = some (.array n e) → okT P e = true) (h : sliceM P ob t x lo hi mx = some m) :
    ∃ v, (Instr.sliceAt t y vl vh vm).run P w = .ok v w ∧ RepM w E ob m v := by
  unfold sliceM at h
  split at h
  · rename_i hu
    split at h
    · rename_i s
      split at h
      · rename_i l h' el eh
        obtain ⟨h0, h⟩ := of_ite h
        obtain ⟨h1, h⟩ := of_ite h
        obtain ⟨h2, h⟩ := of_ite h
        obtain rfl := Option.some.inj h
        cases vm with
        | some _ => exact hm.elim
        | none =>
          obtain ⟨m, hm1, hrun⟩ := run_bounds (P := P) (isS := false) (cap := s.size) (mx := none) hl hh hm el eh h0 h1 (fun d => ⟨d, rfl⟩) (by simp) (fun m hm => by obtain rfl := Option.some.inj hm; exact ⟨h2, Int.le_refl _⟩)
          cases hx with
          | c hc =>
            cases hc
            refine ⟨_, ?_, .c (.v _)⟩
            simp [Instr.sliceAt, run_underlying hu, Instr.slice, hrun]
      · simp at h
    · simp at h
  · rename_i e hu
    obtain ⟨d, hd⟩ := under_of_ok (hoks e hu)
    obtain ⟨ti, hti⟩ := info_of_under hd
    split at h
    · rename_i cs n full
      split at h
      · rename_i l h' m' el eh em
        obtain ⟨h0, h⟩ := of_ite h
        obtain ⟨h1, h⟩ := of_ite h
        obtain ⟨h2, h⟩ := of_ite h
        obtain ⟨h3, h⟩ := of_ite h
        obtain ⟨h4, h⟩ := of_ite h
        obtain rfl := Option.some.inj h
        cases hx with
        | c hc =>
          cases hc with
          | nl full =>
            obtain ⟨m, hm1, hrun⟩ := run_bounds (P := P) (isS := true) (len := 0) (cap := 0) hl hh hm el eh h0 h1 (boundM_any em) hmx (fun m hm => by
              cases mx with
              | none =>
                obtain rfl := Option.some.inj hm
                obtain rfl := Option.some.inj em
                exact ⟨h2, h3⟩
              | some q =>
                have : m = m' := Option.some.inj (hm.symm.trans em)
                subst this
                exact ⟨h2, h3⟩)
            have e1 : l = h' := by have : (0 : Int) = ((0 : Nat) : Int) := rfl; omega
            have e2 : l.toNat = 0 := by omega
            have e3 : h'.toNat = 0 := by omega
            have e5 : m.toNat = 0 := by
              cases mx with
              | none =>
                obtain rfl := Option.some.inj hm1
                rfl
              | some q =>
                have : m = m' := Option.some.inj (hm1.symm.trans em)
                omega
            rw [if_pos e1]
            refine ⟨.slice none 0 0, ?_, .c (.nl false)⟩
            simp [Instr.sliceAt, run_underlying hu, Instr.slice, hrun, run_size hti, e2, e3, e5]
          | sl _ _ _ ad cap ys hf hn c1 c2 =>
            obtain ⟨m, hm1, hrun⟩ := run_bounds (P := P) (isS := true) (cap := cap) hl hh hm el eh h0 h1 (boundM_any em) hmx (fun m hm => by
              cases mx with
              | none =>
                obtain rfl := Option.some.inj hm
                obtain rfl := Option.some.inj em
                omega
              | some q =>
                have : m = m' := Option.some.inj (hm.symm.trans em)
                omega)
            have hval : (Instr.sliceAt t (.slice (some ad) n cap) vl vh vm).run P w = .ok (.slice (if m.toNat = l.toNat then some ad else some (ad.add (l.toNat * szT P e))) (h'.toNat - l.toNat) (m.toNat - l.toNat)) w := by
              simp [Instr.sliceAt, run_underlying hu, Instr.slice, hrun, run_size hti]
            refine ⟨_, hval, ?_⟩
            by_cases e1 : l = h'
            · rw [if_pos e1]
              subst e1
              rw [Nat.sub_self]
              by_cases e2 : m.toNat = l.toNat
              · rw [if_pos e2]
                exact .c (.sl [] 0 false ad _ (fun _ => undef) (by simp) (Nat.zero_le _) (by simp) (by simp))
              · rw [if_neg e2]
                exact .c (.sl [] 0 false _ _ (fun _ => undef) (by simp) (Nat.zero_le _) (by simp) (by simp))
            · rw [if_neg e1]
              have hml : h' ≤ m := by
                cases mx with
                | none => obtain rfl := Option.some.inj hm1; omega
                | some q => have : m = m' := Option.some.inj (hm1.symm.trans em); omega
              have e4 : ¬ (m.toNat = l.toNat) := by omega
              rw [if_neg e4]
              have elen : h'.toNat - l.toNat = (h' - l).toNat := by omega
              rw [elen]
              refine .c (.sl _ _ _ (ad.add (l.toNat * szT P e)) (m.toNat - l.toNat) (fun j => ys (l.toNat * szT P e + j)) (fun hfull => ?_) (by omega) (fun j c hc => ?_) (fun j c hc => ?_))
              · cases mx with
                | none =>
                  obtain rfl := Option.some.inj hm1
                  simp at hfull
                  have := hf hfull.1
                  omega
                | some q =>
                  have e3 : m = m' := Option.some.inj (hm1.symm.trans em)
                  simp at hfull
                  omega
              · rw [getElem?_take_drop] at hc
                split at hc
                · obtain ⟨p, q, r⟩ := c1 _ c hc
                  exact ⟨by rw [add_block]; exact p, q, by rw [add_add]; exact r⟩
                · simp at hc
              · rw [getElem?_take_drop] at hc
                split at hc
                · exact c2 _ c hc
                · simp at hc
      · simp at h
    · split at h
      · rename_i l h' el eh
        obtain ⟨hl0, h⟩ := of_ite h
        obtain ⟨hh0, h⟩ := of_ite h
        subst hl0 hh0
        obtain rfl := Option.some.inj h
        cases vm with
        | some _ => exact hm.elim
        | none =>
          cases hx with
          | c hc =>
            cases hc
            obtain ⟨m, hm1, hrun⟩ := run_bounds (P := P) (isS := true) (len := 0) (cap := 0) (mx := none) hl hh hm el eh (Int.le_refl _) (Int.le_refl _) (fun d => ⟨d, rfl⟩) (by simp) (fun m hm => by obtain rfl := Option.some.inj hm; omega)
            obtain rfl := Option.some.inj hm1
            refine ⟨_, ?_, .c (.v _)⟩
            simp [Instr.sliceAt, run_underlying hu, Instr.slice, hrun, run_size hti]
      · simp at h
    · rename_i i g off n
      split at h
      · rename_i o l h' hlv el eh
        obtain ⟨h0, h⟩ := of_ite h
        obtain ⟨h1, h⟩ := of_ite h
        obtain ⟨h2, h⟩ := of_ite h
        obtain ⟨hsz, h⟩ := of_ite h
        cases vm with
        | some _ => exact hm.elim
        | none =>
          cases hx with
          | ms hq =>
            obtain ⟨ho, hit, hg, r1, r2⟩ := live_ok hq hlv
            cases hnil : o.nil with
            | true =>
              rw [hnil] at h
              obtain rfl := Option.some.inj h
              obtain ⟨rfl, rfl, rfl⟩ := r1 hnil
              obtain ⟨m, hm1, hrun⟩ := run_bounds (P := P) (isS := true) (len := 0) (cap := 0) (mx := none) hl hh hm el eh h0 h1 (fun d => ⟨d, rfl⟩) (by simp) (fun m hm => by obtain rfl := Option.some.inj hm; omega)
              obtain rfl := Option.some.inj hm1
              refine ⟨.slice none 0 0, ?_, .c (.v _)⟩
              have e1 : l.toNat = 0 := by omega
              have e2 : h'.toNat = 0 := by omega
              simp [Instr.sliceAt, run_underlying hu, Instr.slice, hrun, run_size hti, e1, e2]
            | false =>
              rw [hnil] at h
              simp only [Bool.false_eq_true, if_false] at h
              obtain rfl := Option.some.inj h
              obtain ⟨cap, rfl, q1, q2⟩ := r2 hnil
              obtain ⟨m, hm1, hrun⟩ := run_bounds (P := P) (isS := true) (cap := cap) (mx := none) hl hh hm el eh h0 h1 (fun d => ⟨d, rfl⟩) (by simp) (fun m hm => by obtain rfl := Option.some.inj hm; omega)
              obtain rfl := Option.some.inj hm1
              have hval : (Instr.sliceAt t (.slice (some ⟨E.blk i, off, none⟩) n cap) vl vh none).run P w = .ok (.slice (if cap = l.toNat then some ⟨E.blk i, off, none⟩ else some ⟨E.blk i, off + l.toNat * szT P e, none⟩) (h'.toNat - l.toNat) (cap - l.toNat)) w := by
                simp [Instr.sliceAt, run_underlying hu, Instr.slice, hrun, run_size hti, add_obj]
              refine ⟨_, hval, ?_⟩
              by_cases e1 : l = h'
              · rw [if_pos e1]
                subst e1
                rw [Nat.sub_self]
                by_cases e2 : cap = l.toNat
                · rw [if_pos e2]
                  exact .c (.sl [] 0 false _ _ (fun _ => undef) (by simp) (Nat.zero_le _) (by simp) (by simp))
                · rw [if_neg e2]
                  exact .c (.sl [] 0 false _ _ (fun _ => undef) (by simp) (Nat.zero_le _) (by simp) (by simp))
              · rw [if_neg e1, if_neg (by omega)]
                have elen : h'.toNat - l.toNat = (h' - l).toNat := by omega
                rw [elen]
                refine .ms ⟨rfl, o, ho, hit, by omega, fun _ => ⟨fun hf => by simp [hnil] at hf, fun _ => ⟨cap - l.toNat, rfl, by omega, ?_⟩⟩⟩
                have e5 : l.toNat * szT P e + (cap - l.toNat) * szT P e = cap * szT P e := by
                  rw [← Nat.add_mul]; congr 1; omega
                rw [hsz] at q2 ⊢
                omega
      · simp at h
    · simp at h
  · rename_i k e hu
    obtain ⟨d, hd⟩ := under_of_ok (hoka k e hu)
    obtain ⟨ti, hti⟩ := info_of_under hd
    split at h
    · rename_i i g off
      split at h
      · rename_i o l h' m' ho el eh em
        obtain ⟨h0, h⟩ := of_ite h
        obtain ⟨h1, h⟩ := of_ite h
        obtain ⟨h2, h⟩ := of_ite h
        obtain ⟨h3, h⟩ := of_ite h
        obtain ⟨hsz, h⟩ := of_ite h
        obtain ⟨hle, h⟩ := of_ite h
        obtain rfl := Option.some.inj h
        cases hx with
        | mp hp =>
          obtain ⟨hob, hnil, hit, hgen, rfl, arr, lo', hi', hblk, hfz, hasz, hrow⟩ := at_obj hhp hp ho
          obtain ⟨m, hm1, hrun⟩ := run_bounds (P := P) (isS := false) (cap := k) hl hh hm el eh h0 (by omega) (boundM_any em) hmx (fun m hm => by
            have : m = m' := Option.some.inj (hm.symm.trans em)
            omega)
          have e3 : m = m' := Option.some.inj (hm1.symm.trans em)
          subst e3
          have hlen := hrow.len
          have elen : h'.toNat - l.toNat = (h' - l).toNat := by omega
          refine ⟨.slice (some ⟨E.blk i, off + l.toNat * szT P e, none⟩) (h' - l).toNat (m.toNat - l.toNat), ?_, .ms ⟨rfl, o, hob, hit, by omega, fun _ => ⟨fun hf => by simp [hnil] at hf, fun _ => ⟨m.toNat - l.toNat, rfl, by omega, ?_⟩⟩⟩⟩
          · simp only [Instr.sliceAt, Sem.run_bind, run_underlying hu, Result.andThen_ok, Instr.sureAddr, Sem.run_pure, hrun, run_size hti]
            rw [if_neg (by omega), add_obj, elen]
          · have e5 : l.toNat * szT P e + (m.toNat - l.toNat) * szT P e = m.toNat * szT P e := by
              rw [← Nat.add_mul]; congr 1; omega
            have e6 : m.toNat * szT P e ≤ k * szT P e := Nat.mul_le_mul_right _ (by omega)
            rw [hsz]
            omega
      · simp at h
    · simp at h
  · simp at h

end Go.Av
