/- Operators. -/
import Derived.Test.YtofomnllcmgfeaaAv5
import Derived.Test.YtofomnllcmgfeaaAv26
set_option linter.unusedVariables false
set_option linter.unusedSimpArgs false
namespace Go.Av
open Go

variable {P : Program} {w : World} {E : Env} {ob : List Ob}

theorem sound_pint {op : BinOp} {k : IntKind} {a b : Int} {r : Value} (t : TypeId) (h1 : op ≠ .shl) (h2 : op ≠ .shr) (h : pint op k a b = some r) : (binOp op t (.int k a) (.int k b)).run P w = .ok r w := by
  cases op <;> simp only [pint] at h <;> first
    | (exact absurd rfl h1)
    | (exact absurd rfl h2)
    | (obtain rfl := Option.some.inj h; simp [binOp, Op.intArith, Op.intBits, Op.intCmp, andI, orI, xorI, andNotI]; done)
    | (obtain rfl := Option.some.inj h; simp [binOp, Op.intCmp, dec_beq_int, bne]; done)
    | (split at h
       · simp at h
       · rename_i hb
         obtain rfl := Option.some.inj h
         simp [binOp, Op.intDiv, hb])
theorem sound_pshift {op : BinOp} {k yk : IntKind} {a b : Int} {r : Value} (t : TypeId) (hop : op = .shl ∨ op = .shr) (h : pshift op k a b = some r) : (binOp op t (.int k a) (.int yk b)).run P w = .ok r w := by
  unfold pshift at h
  split at h
  · simp at h
  · rename_i hb
    rcases hop with rfl | rfl <;> (simp only at h; obtain rfl := Option.some.inj h; simp [binOp, Op.shift, hb])
theorem sound_pstr {op : BinOp} {a b : ByteArray} {r : Value} (t : TypeId) (h : pstr op a b = some r) : (binOp op t (.string a) (.string b)).run P w = .ok r w := by
  cases op <;> simp only [pstr] at h <;> first
    | (simp at h; done)
    | (obtain rfl := Option.some.inj h; simp [binOp, Op.stringOp, dec_beq_list]; done)
    | (split at h
       · rename_i hle
         obtain rfl := Option.some.inj h
         have : ¬ (((a.size + b.size : Nat) : Int) > IntKind.i64.max) := by
           have : IntKind.i64.max = 9223372036854775807 := rfl
           omega
         simp only [binOp, Op.stringOp, this, if_false]
         rfl
       · simp at h)
theorem eqGuard_plain (op : BinOp) (t : TypeId) (x y : Operand) (a b : Value) (ha : (∀ cs, a ≠ .agg cs) ∧ a ≠ .nilIface) : eqGuard op t x y a b = pure () := by
  cases op <;> first
    | rfl
    | (cases a <;> first | rfl | exact absurd rfl (ha.1 _) | exact absurd rfl ha.2)
theorem sound_pbin {op : BinOp} {t : TypeId} {a b r : Value} (h : pbin P op t a b = some r) (x y : Operand) : (do eqGuard op t x y a b; binOp op t a b : Sem Value).run P w = .ok r w := by
  have hg : ∀ a b : Value, pbin P op t a b = some r → eqGuard op t x y a b = pure () := by
    intro a b h
    refine eqGuard_plain _ _ _ _ _ _ ⟨fun cs e => ?_, fun e => ?_⟩
    · subst e; simp [pbin] at h
    · subst e; simp [pbin] at h
  rw [hg a b h]
  show (binOp op t a b).run P w = .ok r w
  unfold pbin at h
  split at h
  · rename_i k a k' b
    split at h
    · exact sound_pshift t (.inl rfl) h
    · exact sound_pshift t (.inr rfl) h
    · rename_i h1 h2
      split at h
      · rename_i e
        subst e
        exact sound_pint t h1 h2 h
      · simp at h
  · exact sound_pstr t h
  · rename_i a b
    split at h
    · rename_i hu
      obtain rfl := Option.some.inj h
      simp [binOp, run_equal_bool w t a b hu, dec_beq_bool]
    · rename_i hu
      obtain rfl := Option.some.inj h
      simp [binOp, run_equal_bool w t a b hu, dec_beq_bool]
    · simp at h
  · simp at h

theorem eqS_right (d : Nat) {t e : TypeId} (hu : P.underlying t = some (.slice e)) (a : Option Addr) (n c n' c' : Nat) : (Op.equalIn (d + 1) t (.slice a n c) (.slice none n' c')).run P w = .ok a.isNone w := by
  cases a <;> simp [Op.equalIn, run_underlying hu]
theorem eqS_left (d : Nat) {t e : TypeId} (hu : P.underlying t = some (.slice e)) (a : Option Addr) (n c n' c' : Nat) : (Op.equalIn (d + 1) t (.slice none n' c') (.slice a n c)).run P w = .ok a.isNone w := by
  simp [Op.equalIn, run_underlying hu]
theorem eqP_right (d : Nat) {t e : TypeId} (hu : P.underlying t = some (.pointer e)) (a : Option Addr) : (Op.equalIn (d + 1) t (.pointer a) (.pointer none)).run P w = .ok a.isNone w := by
  cases a <;> simp [Op.equalIn, run_underlying hu]
theorem eqP_left (d : Nat) {t e : TypeId} (hu : P.underlying t = some (.pointer e)) (a : Option Addr) : (Op.equalIn (d + 1) t (.pointer none) (.pointer a)).run P w = .ok a.isNone w := by
  simp [Op.equalIn, run_underlying hu]

theorem nilSl_rep {m : M} {y : Value} {b : Bool} (hm : RepM w E ob m y) (h : nilSl ob m = some b) : ∃ a n c, y = .slice a n c ∧ b = a.isNone := by
  unfold nilSl at h
  split at h
  · obtain rfl := Option.some.inj h
    cases hm with
    | c hc => cases hc; exact ⟨_, _, _, rfl, rfl⟩
  · split at h
    · simp at h
    · rename_i hn0
      obtain rfl := Option.some.inj h
      cases hm with
      | c hc =>
        cases hc with
        | nl => exact absurd rfl hn0
        | sl => exact ⟨_, _, _, rfl, rfl⟩
  · rename_i i g off n
    split at h
    · rename_i o hl
      obtain rfl := Option.some.inj h
      cases hm with
      | ms hq =>
        obtain ⟨_, _, _, r1, r2⟩ := live_ok hq hl
        cases hn : o.nil with
        | true => obtain ⟨rfl, _, _⟩ := r1 hn; exact ⟨_, _, _, rfl, by simp⟩
        | false => obtain ⟨cap, rfl, _⟩ := r2 hn; exact ⟨_, _, _, rfl, by simp⟩
    · simp at h
  · simp at h
theorem nilPt_rep (hh : HeapOK w E ob) {m : M} {y : Value} {b : Bool} (hm : RepM w E ob m y) (h : nilPt ob m = some b) : ∃ a, y = .pointer a ∧ b = a.isNone := by
  unfold nilPt at h
  split at h
  · obtain rfl := Option.some.inj h
    cases hm with
    | c hc => cases hc; exact ⟨_, rfl, rfl⟩
  · obtain rfl := Option.some.inj h
    cases hm with
    | c hc => cases hc; exact ⟨_, rfl, rfl⟩
  · rename_i i g off
    split at h
    · rename_i o hl
      obtain rfl := Option.some.inj h
      cases hm with
      | mp hq =>
        obtain ⟨_, _, _, _, rfl, _⟩ := at_obj hh hq hl
        exact ⟨_, rfl, rfl⟩
    · simp at h
  · simp at h
theorem isNilSl_rep {m : M} {y : Value} (hm : RepM w E ob m y) (h : isNilSl m = true) : ∃ n c, y = .slice none n c := by
  unfold isNilSl at h
  split at h
  · cases hm with
    | c hc => cases hc; exact ⟨_, _, rfl⟩
  · simp at h
theorem isNilPt_rep {m : M} {y : Value} (hm : RepM w E ob m y) (h : isNilPt m = true) : y = .pointer none := by
  unfold isNilPt at h
  split at h
  · cases hm with
    | c hc => cases hc; rfl
  · simp at h
theorem binOp_eq_slice {t : TypeId} {op : BinOp} {a b r : Value} {q : Bool} (ha : ∃ p n c, a = .slice p n c) (hb : ∃ p n c, b = .slice p n c) (he : (Op.equal t a b).run P w = .ok q w) (h : nilRes op (some q) = some r) (ox oy : Operand) :
    (do eqGuard op t ox oy a b; binOp op t a b : Sem Value).run P w = .ok r w := by
  obtain ⟨p, n, c, rfl⟩ := ha
  obtain ⟨p', n', c', rfl⟩ := hb
  rw [eqGuard_at_slice]
  cases op <;> simp only [nilRes] at h <;> first
    | (simp at h; done)
    | (obtain rfl := Option.some.inj h; simp [binOp, he])
theorem binOp_eq_pointer {t : TypeId} {op : BinOp} {a b r : Value} {q : Bool} (ha : ∃ p, a = .pointer p) (hb : ∃ p, b = .pointer p) (he : (Op.equal t a b).run P w = .ok q w) (h : nilRes op (some q) = some r) (ox oy : Operand) :
    (do eqGuard op t ox oy a b; binOp op t a b : Sem Value).run P w = .ok r w := by
  obtain ⟨p, rfl⟩ := ha
  obtain ⟨p', rfl⟩ := hb
  rw [eqGuard_at_pointer]
  cases op <;> simp only [nilRes] at h <;> first
    | (simp at h; done)
    | (obtain rfl := Option.some.inj h; simp [binOp, he])

theorem eqPt_rep (hh : HeapOK w E ob) {x y : M} {a b : Value} {q : Bool} {t te : TypeId} {ti : TypeInfo} (hx : RepM w E ob x a) (hy : RepM w E ob y b) (hu : P.underlying t = some (.pointer te)) (hti : P.info? te = some ti) (hz : ti.size ≠ 0) (h : eqPt ob x y = some q) :
    ∃ p p', a = .pointer p ∧ b = .pointer p' ∧ ∀ d : Nat, (Op.equalIn (d + 1) t a b).run P w = .ok q w := by
  unfold eqPt at h
  split at h
  · rename_i i g off j g' off'
    split at h
    · rename_i e
      subst e
      split at h
      · rename_i o o' ho ho'
        obtain rfl := Option.some.inj h
        cases hx with
        | mp hp =>
          cases hy with
          | mp hq =>
            obtain ⟨_, _, _, _, rfl, _⟩ := at_obj hh hp ho
            obtain ⟨_, _, _, _, rfl, _⟩ := at_obj hh hq ho'
            refine ⟨_, _, rfl, rfl, fun d => ?_⟩
            by_cases e : off = off'
            · subst e
              simp [Op.equalIn, run_underlying hu, sizeOf, typeInfo, hti, sameAddr]
            · simp [Op.equalIn, run_underlying hu, sizeOf, typeInfo, hti, sameAddr, e, hz]
      · simp at h
    · simp at h
  · simp at h
theorem sound_binNil (hh : HeapOK w E ob) {op : BinOp} {t : TypeId} {x y : M} {a b r : Value} (hx : RepM w E ob x a) (hy : RepM w E ob y b) (h : binNil P ob op t x y = some r) (ox oy : Operand) : (do eqGuard op t ox oy a b; binOp op t a b : Sem Value).run P w = .ok r w := by
  have get : ∀ o : Option Bool, nilRes op o = some r → ∃ q, o = some q := fun o ho => by
    cases o with
    | none => simp [nilRes] at ho
    | some q => exact ⟨q, rfl⟩
  unfold binNil at h
  split at h
  · rename_i e hu
    obtain ⟨q, hq⟩ := get _ h
    rw [hq] at h
    split at hq
    · rename_i hn
      obtain ⟨n', c', rfl⟩ := isNilSl_rep hy hn
      obtain ⟨p, n, c, rfl, rfl⟩ := nilSl_rep hx hq
      exact binOp_eq_slice ⟨_, _, _, rfl⟩ ⟨_, _, _, rfl⟩ (eqS_right 9999 hu p n c n' c') h ox oy
    · split at hq
      · rename_i hn
        obtain ⟨n', c', rfl⟩ := isNilSl_rep hx hn
        obtain ⟨p, n, c, rfl, rfl⟩ := nilSl_rep hy hq
        exact binOp_eq_slice ⟨_, _, _, rfl⟩ ⟨_, _, _, rfl⟩ (eqS_left 9999 hu p n c n' c') h ox oy
      · simp at hq
  · rename_i e hu
    obtain ⟨q, hq⟩ := get _ h
    rw [hq] at h
    split at hq
    · rename_i hn
      obtain rfl := isNilPt_rep hy hn
      obtain ⟨p, rfl, rfl⟩ := nilPt_rep hh hx hq
      exact binOp_eq_pointer ⟨_, rfl⟩ ⟨_, rfl⟩ (eqP_right 9999 hu p) h ox oy
    · split at hq
      · rename_i hn
        obtain rfl := isNilPt_rep hx hn
        obtain ⟨p, rfl, rfl⟩ := nilPt_rep hh hy hq
        exact binOp_eq_pointer ⟨_, rfl⟩ ⟨_, rfl⟩ (eqP_left 9999 hu p) h ox oy
      · split at hq
        · rename_i hok
          obtain ⟨d, hd⟩ := under_of_ok hok
          obtain ⟨ti, hti⟩ := info_of_under hd
          split at hq
          · simp at hq
          · rename_i hz
            have hcz : szT P e = ti.size := by simp [szT, Program.cellsOf, hti]
            obtain ⟨p, p', rfl, rfl, he⟩ := eqPt_rep (P := P) hh hx hy hu hti (by omega) hq
            exact binOp_eq_pointer ⟨_, rfl⟩ ⟨_, rfl⟩ (he 9999) h ox oy
        · simp at hq
  · simp at h

theorem sound_bin (hh : HeapOK w E ob) {op : BinOp} {t : TypeId} {x y m : M} {a b : Value} (hx : RepM w E ob x a) (hy : RepM w E ob y b) (h : binM P ob op t x y = some m) (ox oy : Operand) :
    ∃ v, (do eqGuard op t ox oy a b; binOp op t a b : Sem Value).run P w = .ok v w ∧ RepM w E ob m v := by
  unfold binM at h
  split at h
  · rename_i a' b'
    split at h
    · rename_i r hr
      obtain rfl := Option.some.inj h
      cases hx with
      | c hc => cases hc; cases hy with
        | c hd => cases hd; exact ⟨r, sound_pbin hr ox oy, .c (.v _)⟩
    · obtain ⟨r, hr, rfl⟩ := Option.map_eq_some_iff.1 h
      exact ⟨r, sound_binNil hh hx hy hr ox oy, .c (.v _)⟩
  · rename_i a' b'
    split at h
    · rename_i ks hk
      obtain ⟨r, hr, rfl⟩ := Option.map_eq_some_iff.1 h
      unfold nilRes at hr
      split at hr
      · rename_i q hq
        obtain ⟨⟨xs, ys, rfl, rfl⟩, he, hg⟩ := sound_eqX hx hy hk hq
        have hgd : (eqGuard op t ox oy (.agg xs) (.agg ys)).run P w = .ok () w := by
          cases op <;> simp [eqGuard, show Sem.run P program w = .ok P w from rfl, hg]
        split at hr
        · obtain rfl := Option.some.inj hr
          exact ⟨.bool q, by rw [Sem.run_bind, hgd, Result.andThen_ok]; simp only [binOp, Sem.run_bind, he, Result.andThen_ok, Sem.run_pure], .c (.v _)⟩
        · obtain rfl := Option.some.inj hr
          exact ⟨.bool (!q), by rw [Sem.run_bind, hgd, Result.andThen_ok]; simp only [binOp, Sem.run_bind, he, Result.andThen_ok, Sem.run_pure], .c (.v _)⟩
        · simp at hr
      · simp at hr
    · simp at h
  · obtain ⟨r, hr, rfl⟩ := Option.map_eq_some_iff.1 h
    exact ⟨r, sound_binNil hh hx hy hr ox oy, .c (.v _)⟩

theorem sound_un {op : UnOp} {x m : M} {a : Value} (hx : RepM w E ob x a) (h : unM op x = some m) : ∃ v, (Op.unary op a).run P w = .ok v w ∧ RepM w E ob m v := by
  unfold unM at h
  split at h
  · split at h
    · obtain rfl := Option.some.inj h
      cases hx with
      | c hc => cases hc; exact ⟨_, by simp [Op.unary], .c (.v _)⟩
    · simp at h
  · split at h
    · obtain rfl := Option.some.inj h
      cases hx with
      | c hc => cases hc; exact ⟨_, by simp [Op.unary, Op.intArith], .c (.v _)⟩
    · obtain rfl := Option.some.inj h
      cases hx with
      | c hc => cases hc; exact ⟨_, by simp [notI, Op.unary, Op.intBits], .c (.v _)⟩
    · simp at h
  · simp at h

end Go.Av
