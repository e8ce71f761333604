/- Conversions; what a tuple holds. -/
import Derived.Test.YtofomnllcmgfeaaAv10
import Derived.Laws.BytesArg
import Derived.Lib.Builder
set_option linter.unusedVariables false
set_option linter.unusedSimpArgs false
namespace Go.Av
open Go

variable {P : Program} {w : World} {E : Env} {ob : List Ob}

theorem bytes_nums {ns : List M} {bs : List UInt8} {vs : List Value} (h : bytesM ns = some bs) (hl : ns.length = vs.length) (hr : Row w E ob ns vs.toArray) : ∃ xs : List Int, vs = xs.map (Value.int .u8) ∧ strOfNums xs = ⟨bs.toArray⟩ := by
  induction ns generalizing bs vs with
  | nil =>
    obtain rfl := Option.some.inj h
    obtain rfl : vs = [] := List.eq_nil_of_length_eq_zero (by simpa using hl.symm)
    exact ⟨[], rfl, rfl⟩
  | cons m ns ih =>
    unfold bytesM at h
    split at h
    · simp at *
    · rename_i n r he
      simp only [List.cons.injEq] at he
      obtain ⟨rfl, rfl⟩ := he
      obtain ⟨bs', hbs, rfl⟩ := Option.map_eq_some_iff.1 h
      cases vs with
      | nil => simp at hl
      | cons v vs =>
        obtain ⟨y, hy, _, hry⟩ := hr 0 _ rfl
        simp at hy
        subst hy
        obtain ⟨xs, rfl, hx⟩ := ih hbs (by simpa using hl) (fun j m hm => by
          obtain ⟨y, hy, q⟩ := hr (j + 1) m (by simpa using hm)
          exact ⟨y, by simpa using hy, q⟩)
        cases hry with
        | c hc =>
          cases hc
          refine ⟨n :: xs, rfl, ?_⟩
          unfold strOfNums at hx ⊢
          simp only [ByteArray.mk.injEq] at hx ⊢
          simp only [List.map_cons]
          have : (xs.map fun n => UInt8.ofNat n.toNat) = bs' := by
            have := congrArg Array.toList hx
            simpa using this
          rw [this]
    · simp at h

theorem news_form (hh : HeapOK w E ob) {sz : Nat} {x : M} {y : Value} {r : List M × Nat} (hx : RepM w E ob x y) (h : newsM ob sz x = some r) : (∃ s, x = .c (.v (.string s))) ∨ ∃ b n c, y = .slice b n c := by
  unfold newsM at h
  split at h
  · cases hx with
    | c hc => cases hc; exact .inr ⟨_, _, _, rfl⟩
  · exact .inl ⟨_, rfl⟩
  · cases hx with
    | c hc => cases hc <;> exact .inr ⟨_, _, _, rfl⟩
  · split at h
    · rename_i o hl
      cases hx with
      | ms hq =>
        obtain ⟨ho, hit, hg, r1, r2⟩ := live_ok hq hl
        cases hn : o.nil with
        | true => obtain ⟨rfl, _, _⟩ := r1 hn; exact .inr ⟨_, _, _, rfl⟩
        | false => obtain ⟨cap, rfl, _⟩ := r2 hn; exact .inr ⟨_, _, _, rfl⟩
    · simp at h
  · simp at h

theorem lies_head {e : TypeId} {count : Nat} (hs : szT P e ≠ 0) (hc : 1 ≤ count) : liesAt P P.depth e count 0 e 1 = true := by
  have hd : P.depth = (2 * (P.types.size + Made.depth) + 1) + 1 := rfl
  rw [hd]
  simp only [liesAt, Bool.or_eq_true]
  left
  rw [hd]
  unfold szT at hs
  simp [rowAt, hs, hc, sameLayout]
theorem sound_conv (hh : HeapOK w E ob) {src dst : TypeId} {x m : M} {y : Value} {ob' : List Ob} (hx : RepM w E ob x y) (h : convM P ob src dst x = some (m, ob')) :
    ∃ v w' E', (convert src dst y).run P w = .ok v w' ∧ RepM w' E' ob' m v ∧ Step w E ob w' E' ob' := by
  unfold convM at h
  split at h
  · rename_i d k k' n hs hd
    simp only [Option.some.injEq, Prod.mk.injEq] at h
    obtain ⟨rfl, rfl⟩ := h
    cases hx with
    | c hc =>
      cases hc
      refine ⟨_, w, E, ?_, .c (.v _), .refl hh⟩
      simp [convert, run_underlying hs, run_underlying hd, Conv.intToInt]
  · rename_i d s hs hd
    simp only [Option.some.injEq, Prod.mk.injEq] at h
    obtain ⟨rfl, rfl⟩ := h
    cases hx with
    | c hc =>
      cases hc
      refine ⟨_, w, E, ?_, .c (.v _), .refl hh⟩
      simp [convert, run_underlying hs, run_underlying hd]
  · rename_i e s hs hd
    split at h
    · rename_i he
      obtain ⟨hsz, h⟩ := of_ite h
      obtain ⟨hle, h⟩ := of_ite h
      simp only [Option.some.injEq, Prod.mk.injEq] at h
      obtain ⟨rfl, rfl⟩ := h
      cases hx with
      | c hc =>
        cases hc
        obtain ⟨cap, hcap, hge⟩ : ∃ cap, cap = s.size + w.tape w.drawn (.appendCap s.size 0 e) % (2 ^ 63 - s.size) ∧ s.size ≤ cap := ⟨_, rfl, Nat.le_add_right _ _⟩
        let arr : Array Value := (s.data.map fun b => .int .u8 b.toNat) ++ Array.replicate (cap - s.size) (.int .u8 0)
        have harr : arr.size = cap := by simp only [arr, Array.size_append, Array.size_map, Array.size_replicate]; have : s.data.size = s.size := rfl; omega
        let w' : World := { w with heap := w.heap.push (.cells arr e (cap, cap + 1)), drawn := w.drawn + 1 }
        have hstep := step_new (w' := w') hh e 1 (up (s.toList.map fun b => .v (.int .u8 (b.toNat : Int)))) arr (fun j m hm => by
          simp only [up, List.map_map, List.getElem?_map, toList_data] at hm
          obtain ⟨b, hb, rfl⟩ := Option.map_eq_some_iff.1 hm
          refine ⟨.int .u8 b.toNat, ?_, rfl, .c (.v _)⟩
          have hlt : j < s.data.size := by simpa using (List.getElem?_eq_some_iff.1 hb).1
          simp only [arr]
          rw [Array.getElem?_append_left (by simpa using hlt), Array.getElem?_map]
          rw [Array.getElem?_toList] at hb
          rw [hb]
          rfl) cap (cap + 1) (fun j hj => by omega) rfl rfl rfl rfl
        refine ⟨.slice (some ⟨w.heap.size, 0, none⟩) s.size cap, w', _, ?_, ?_, hstep⟩
        · simp only [convert, Sem.run_bind, run_underlying hs, run_underlying hd, Result.andThen_ok, run_underlying he]
          have hshape : ({ w with heap := w.heap.push (.cells arr e), drawn := w.drawn + 1 } : World).shape? w.heap.size = some (e, cap) := by
            simp [World.shape?, harr]
          have hfreeze : ({ w with heap := w.heap.push (.cells arr e), drawn := w.drawn + 1 } : World).freeze ⟨w.heap.size, cap, none⟩ 1 = w' := by
            simp only [World.freeze, w']
            rw [if_neg (by decide)]
            congr 1
            apply Array.ext_getElem?
            intro j
            rw [Array.getElem?_modify]
            by_cases e : w.heap.size = j
            · subst e
              simp
            · rw [if_neg e]
              simp only [Array.getElem?_push]
              rw [if_neg (by omega), if_neg (by omega)]
          simp only [Conv.stringToBytes, Sem.run_bind, run_choose, Question.forced, Bool.false_eq_true, if_false, Result.andThen_ok, Question.cut, newRow, run_newObj, Sem.run_pure, markStringish, run_shape]
          rw [← hcap]
          show _ = _
          have e1 : (s.data.map (fun b => Value.int .u8 (b.toNat : Int)) ++ Array.replicate (cap - s.size) (Value.int .u8 0)) = arr := rfl
          rw [e1]
          simp only [hshape]
          simp only [Sem.run_bind, run_freeze, Result.andThen_ok, hfreeze, Sem.run_pure]
        · refine .ms ⟨rfl, _, by unfold newOb; rw [getElem?_snoc, if_neg (by omega), if_pos rfl], rfl, Nat.le_refl _, fun _ => ⟨fun hf => by simp at hf, fun _ => ⟨cap, by simp only [upd_same], hge, by simp only [upd_same, harr]; omega⟩⟩⟩
    · simp at h
  · rename_i x _ _ _ e hs hd hns0
    split at h
    · simp at h
    · rename_i hnostr
      split at h
      · rename_i ns n' he hns
        obtain ⟨bs, hbs, h⟩ := Option.map_eq_some_iff.1 h
        simp only [Prod.mk.injEq] at h
        obtain ⟨rfl, rfl⟩ := h
        have ht : isSrcT P src x = true := by
          unfold isSrcT
          rw [hs]
          cases x with
          | c q =>
            cases q with
            | v z => cases z <;> first | rfl | simp [isStrM] at hnostr
            | _ => rfl
          | _ => rfl
        obtain ⟨news, hS, hnl, hrow⟩ := sound_news (P := P) (tx := src) hh hx ht hns
        obtain ⟨xs, rfl, hstr⟩ := bytes_nums hbs hnl hrow
        have hy : ∃ b n c, y = .slice b n c := by
          rcases news_form hh hx hns with ⟨s, rfl⟩ | hy
          · simp [isStrM] at hnostr
          · exact hy
        obtain ⟨b, n, c, rfl⟩ := hy
        have hn : n = n' := by
          have := hS.len w
          simpa [Builtin.lenOf] using this
        subst hn
        have hcells := hS.cells
        refine ⟨.string ⟨bs.toArray⟩, w, E, ?_, .c (.v _), .refl hh⟩
        rw [run_convert_bytes_string w src dst e b n c hs he hd]
        cases b with
        | none =>
          have : xs = [] := by
            simp [Builtin.firstCells] at hcells
            exact hcells
          subst this
          simp [Conv.bytesToString, ← hstr, strOfNums]
          rfl
        | some a =>
          have hl : (loadCells a n).run P w = .ok (xs.map (Value.int .u8)).toArray w := by
            simpa [Builtin.firstCells] using hcells
          rw [run_bytesToString w a n c xs hl, foldl_push_bytes, ← hstr]
          simp [strOfNums, ByteArray.empty, ByteArray.emptyWithCapacity]
          rfl
      · simp at h
  · rename_i t i g off hs hd
    split at h
    · rename_i o ho
      obtain ⟨hok, h⟩ := of_ite h
      split at h
      · simp at h
      · rename_i hz
        obtain ⟨hlt, h⟩ := of_ite h
        simp only [Option.some.injEq, Prod.mk.injEq] at h
        obtain ⟨rfl, rfl⟩ := h
        obtain ⟨d, hd'⟩ := under_of_ok hok
        obtain ⟨ti, hti⟩ := info_of_under hd'
        have hcz : szT P t = ti.size := by simp [szT, Program.cellsOf, hti]
        cases hx with
        | mp hq =>
          obtain ⟨hob, hnil, hit, hgen, rfl, arr, lo, hi, hblk, hfz, hasz, hrow⟩ := at_obj hh hq ho
          have hlen := hrow.len
          exact ⟨_, w, E, Lib.run_to_unsafe (e := o.ty) (cells := arr.size) w _ hs hd hti (by omega) (by simp [World.shape?, hblk]) (by simp; omega), .mp hq, .refl hh⟩
    · simp at h
  · rename_i u i g off hs hd
    split at h
    · rename_i o ho
      obtain ⟨rfl, h⟩ := of_ite h
      obtain ⟨hty, h⟩ := of_ite h
      obtain ⟨hok, h⟩ := of_ite h
      split at h
      · simp at h
      · rename_i hz
        obtain ⟨hle, h⟩ := of_ite h
        simp only [Option.some.injEq, Prod.mk.injEq] at h
        obtain ⟨rfl, rfl⟩ := h
        obtain ⟨d, hd'⟩ := under_of_ok hok
        obtain ⟨ti, hti⟩ := info_of_under hd'
        cases hx with
        | mp hq =>
          obtain ⟨hob, hnil, hit, hgen, rfl, arr, lo, hi, hblk, hfz, hasz, hrow⟩ := at_obj hh hq ho
          have hlen := hrow.len
          subst hty
          refine ⟨_, w, E, Lib.run_from_unsafe (e := o.ty) (cells := arr.size) w _ hs hd hti (by simp [World.shape?, hblk]) (lies_head hz ?_), .mp hq, .refl hh⟩
          unfold szT at hz hle
          exact (Nat.le_div_iff_mul_le (by omega)).2 (by omega)
    · simp at h
  · simp at h

theorem sound_extract {x m : M} {y : Value} {i : Nat} (hx : RepM w E ob x y) (h : extractM x i = some m) : ∃ v, (Instr.extract y i).run P w = .ok v w ∧ RepM w E ob m v := by
  unfold extractM at h
  split at h
  · cases hx with
    | tup ms arr hs hr =>
      have hlt : i < arr.size := by rw [hs]; exact (List.getElem?_eq_some_iff.1 h).1
      exact ⟨arr[i], by simp [Instr.extract, Array.getElem?_eq_getElem hlt], hr i hlt m h⟩
  · simp at h

end Go.Av
