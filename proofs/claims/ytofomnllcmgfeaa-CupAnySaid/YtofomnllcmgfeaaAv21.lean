/- More operations: unsafe.SliceData, unsafe.String (the object dies), ranges over strings, copy, min and max. -/
import Derived.Test.YtofomnllcmgfeaaAv11
import Derived.Lib.UnsafeStr
import Derived.Lib.OthersKept
set_option linter.unusedVariables false
set_option linter.unusedSimpArgs false
namespace Go.Av
open Go

variable {P : Program} {w : World} {E : Env} {ob : List Ob}

/-- An object, no longer told of. -/
def deadOb (o : Ob) : Ob := { o with nil := true, gen := o.gen + 1, cs := [] }
/-- An object is given up: nothing is told of its block any more. -/
theorem step_kill {w' : World} (hh : HeapOK w E ob) {i : Nat} {o : Ob} (ho : ob[i]? = some o) (hit : o.iter = none) (hni : o.nil = false)
    (h1 : w'.os = w.os) (h2 : w'.tape = w.tape) (h3 : w'.output = w.output) (h4 : w'.heap.size = w.heap.size) (h5 : ∀ b, b ≠ E.blk i → w'.heap[b]? = w.heap[b]?) : Step w E ob w' E (ob.set i (deadOb o)) := by
  have hlt : i < ob.length := (List.getElem?_eq_some_iff.1 ho).1
  have hext : Ext w E ob w' E (ob.set i (deadOb o)) := by
    refine ⟨fun b hb => ⟨hb, h5 b (fun e => (hh.own i o ho hni).1 (e ▸ hb))⟩, fun k q hq => ?_⟩
    by_cases e : i = k
    · subst e
      obtain rfl := Option.some.inj (ho.symm.trans hq)
      exact ⟨deadOb o, by rw [getElem?_set, if_pos rfl, if_pos hlt], Nat.le_succ _, rfl, fun _ => rfl, fun h => by simp [deadOb] at h⟩
    · exact ⟨q, by rw [getElem?_set, if_neg e]; exact hq, Nat.le_refl _, rfl, fun _ => rfl, fun _ => ⟨rfl, rfl, rfl, rfl⟩⟩
  have hback : ∀ (k : Nat) (q : Ob), (ob.set i (deadOb o))[k]? = some q → q.nil = false → ob[k]? = some q ∧ k ≠ i := by
    intro k q hq hn
    rw [getElem?_set] at hq
    split at hq
    · rename_i e
      subst e
      try rw [if_pos hlt] at hq
      obtain rfl := Option.some.inj hq
      simp [deadOb] at hn
    · rename_i e
      exact ⟨hq, Ne.symm e⟩
  refine ⟨⟨fun k q hq => ?_, fun a b oa ob_ ha hb na nb he => hh.inj a b oa ob_ (hback a oa ha na).1 (hback b ob_ hb nb).1 na nb he, fun b hb => by rw [h4]; exact hh.stb b hb, fun k q hq hn => by rw [h4]; exact hh.own k q (hback k q hq hn).1 hn⟩, hext,
    ⟨h1, h2, h3, by omega, fun b hb hn => h5 b (fun e => hn ⟨i, o, ho, hni, e.symm⟩), fun b hb => hb, fun b hb => .inl hb, fun k q hq hn => .inl ⟨k, q, (hback k q hq hn).1, hn, rfl⟩⟩⟩
  rw [getElem?_set] at hq
  split at hq
  · rename_i e
    subst e
    try rw [if_pos hlt] at hq
    obtain rfl := Option.some.inj hq
    unfold ObOK
    split
    · rename_i s p hi0
      simp [deadOb, hit] at hi0
    · exact ⟨fun _ => rfl, fun hf => by simp [deadOb] at hf⟩
  · rename_i e
    refine (hh.obj k q hq).keep hext rfl rfl (fun hn => h5 _ (fun eb => e (hh.inj i k o q ho hq hni hn eb.symm)))

/-! ### unsafe.SliceData, unsafe.String -/
def usdM (ob : List Ob) : M → Option M
  | .c (.v (.slice none _ _)) => some (.c (.v (.pointer none)))
  | .ms i g off n => match liveS ob i g with
    | some o => if o.nil then some (.c (.v (.pointer none))) else (if n = 0 then none else some (.mp i g off))
    | none => none
  | _ => none
theorem sound_usd (hh : HeapOK w E ob) (ts : Array TypeId) (ty : TypeId) {x m : M} {y : Value} (hx : RepM w E ob x y) (h : usdM ob x = some m) : ∃ v, (Builtin.unsafeSliceData_ ts ty #[y]).run P w = .ok v w ∧ RepM w E ob m v := by
  unfold usdM at h
  split at h
  · obtain rfl := Option.some.inj h
    cases hx with
    | c hc => cases hc; exact ⟨_, Lib.run_unsafeSliceData_nil w ts ty _ _, .c (.v _)⟩
  · rename_i i g off n
    split at h
    · rename_i o hl
      cases hx with
      | ms hq =>
        obtain ⟨ho, hit, hg, r1, r2⟩ := live_ok hq hl
        cases hn : o.nil with
        | true =>
          obtain ⟨rfl, _, _⟩ := r1 hn
          rw [hn, if_pos rfl] at h
          obtain rfl := Option.some.inj h
          exact ⟨_, Lib.run_unsafeSliceData_nil w ts ty _ _, .c (.v _)⟩
        | false =>
          rw [hn, if_neg (by simp)] at h
          split at h
          · simp at h
          · rename_i hn0
            obtain rfl := Option.some.inj h
            obtain ⟨cap, rfl, c1, c2⟩ := r2 hn
            refine ⟨_, Lib.run_unsafeSliceData_row w ts ty _ n cap (by omega), .mp ⟨rfl, o, ho, hit, by omega, fun _ _ => rfl⟩⟩
    · simp at h
  · simp at h

def ustrM (P : Program) (ob : List Ob) (pt : TypeId) (x n : M) : Option (M × List Ob) :=
  match P.underlying pt, asI n with
  | some (.pointer e), some k =>
    match x with
    | .c (.v (.pointer none)) => if k = 0 then some (.c (.v (.string .empty)), ob) else none
    | .mp i g 0 => match obAt ob i g with
      | some o => if o.ty = e then (if szT P e = 1 then (if 0 < k then (if k ≤ o.cs.length then (if k ≤ 9223372036854775807 then
          (match bytesM (o.cs.take k.toNat) with
          | some bs => some (.c (.v (.string ⟨bs.toArray⟩)), ob.set i (deadOb o))
          | none => none) else none) else none) else none) else none) else none
      | none => none
    | _ => none
  | _, _ => none
theorem run_load_nums (w : World) : ∀ (xs : List Int) (a : Addr) (acc : ByteArray), (∀ j n, xs[j]? = some n → w.cell? (a.add j) = some (.int .u8 n)) → (loadBytes a acc xs.length).run P w = .ok ⟨acc.data ++ (xs.map fun n => UInt8.ofNat n.toNat).toArray⟩ w
  | [], a, acc, _ => by simp [loadBytes]
  | x :: l, a, acc, h => by
    have h0 : w.cell? a = some (.int .u8 x) := by
      have := h 0 x rfl
      simpa [Addr.add] using this
    have ih := run_load_nums w l (a.add 1) (acc.push (UInt8.ofNat x.toNat)) (fun j y hy => by
      have := h (j + 1) y (by simpa using hy)
      rw [add_add, Nat.add_comm]
      exact this)
    simp only [List.length_cons, loadBytes, Sem.run_bind, run_load, h0, Result.andThen]
    rw [show x.toNat.toUInt8 = UInt8.ofNat x.toNat from rfl, ih]
    congr 1
    apply ByteArray.ext
    simp [ByteArray.push]
theorem run_ustr (w : World) (pt it ty e : TypeId) (ik : IntKind) (hp : P.underlying pt = some (.pointer e)) (hc : P.cellsOf e = 1) (g cells : Nat) (hsh : w.shape? g = some (e, cells)) (xs : List Int) (h0 : xs ≠ []) (hn : xs.length ≤ cells) (h63 : xs.length ≤ 9223372036854775807)
    (hcell : ∀ j n, xs[j]? = some n → w.cell? ((⟨g, 0, none⟩ : Addr).add j) = some (.int .u8 n)) :
    (Builtin.unsafeString_ #[pt, it] ty #[.pointer (some ⟨g, 0, none⟩), .int ik xs.length]).run P w = .ok (.string (strOfNums xs)) (w.freeze ⟨g, 0, none⟩ xs.length) := by
  have hl : xs.length ≠ 0 := by simpa using h0
  have hlb := run_load_nums (P := P) w xs ⟨g, 0, none⟩ .empty hcell
  have hlies := Lib.liesAt_bytes (P := P) hc (cells / P.cellsOf e) xs.length (by rw [hc]; simpa using hn)
  have h63' : ¬ (9223372036854775807 : Int) < (xs.length : Int) := by omega
  have hdef : Builtin.unsafeString_ #[pt, it] ty #[.pointer (some ⟨g, 0, none⟩), .int ik xs.length] =
      (do
        let n ← asInt (.int ik xs.length)
        if n < 0 then runtimePanic (.error "unsafe.String: len out of range")
        if n > IntKind.i64.max then unsupported (.unsafePointer "String: a length above the largest int")
        if n = 0 then pure (.string .empty)
        else if ← variablesAt ⟨g, 0, none⟩ (← elemOf pt) n.toNat then do
          let s ← loadBytes ⟨g, 0, none⟩ .empty n.toNat
          freeze ⟨g, 0, none⟩ n.toNat
          pure (.string s)
        else unsupported (.unsafePointer "String: not so many bytes at ptr")) := rfl
  rw [hdef]
  have hmax : IntKind.i64.max = 9223372036854775807 := rfl
  have hneg : ¬ (xs.length : Int) < 0 := by omega
  simp [asInt, asIntOf, hmax, h63', hneg, hl, variablesAt, hsh, elemOf, run_underlying hp, hlies, hlb, strOfNums]
theorem sound_ustr (hh : HeapOK w E ob) (pt it ty : TypeId) {x n m : M} {y z : Value} {ob' : List Ob} (hx : RepM w E ob x y) (hn : RepM w E ob n z) (h : ustrM P ob pt x n = some (m, ob')) :
    ∃ v w' E', (Builtin.unsafeString_ #[pt, it] ty #[y, z]).run P w = .ok v w' ∧ RepM w' E' ob' m v ∧ Step w E ob w' E' ob' := by
  unfold ustrM at h
  split at h
  · rename_i e k hp hk
    obtain ⟨ik, rfl⟩ := asI_rep hn hk
    split at h
    · obtain ⟨rfl, h⟩ := of_ite h
      simp only [Option.some.injEq, Prod.mk.injEq] at h
      obtain ⟨rfl, rfl⟩ := h
      cases hx with
      | c hc =>
        cases hc
        refine ⟨_, w, E, ?_, .c (.v _), .refl hh⟩
        have hdef : Builtin.unsafeString_ #[pt, it] ty #[.pointer none, .int ik 0] =
            (do
              let n ← asInt (.int ik 0)
              if n < 0 then runtimePanic (.error "unsafe.String: len out of range")
              if n > IntKind.i64.max then unsupported (.unsafePointer "String: a length above the largest int")
              if n = 0 then pure (.string .empty)
              else runtimePanic (.error "unsafe.String: ptr is nil and len is not zero")) := rfl
        have hmax : IntKind.i64.max = 9223372036854775807 := rfl
        rw [hdef]
        simp [asInt, asIntOf, hmax]
    · rename_i i g
      split at h
      · rename_i o ho
        obtain ⟨hty, h⟩ := of_ite h
        obtain ⟨hsz, h⟩ := of_ite h
        obtain ⟨h0, h⟩ := of_ite h
        obtain ⟨hle, h⟩ := of_ite h
        obtain ⟨h63, h⟩ := of_ite h
        split at h
        · rename_i bs hbs
          simp only [Option.some.injEq, Prod.mk.injEq] at h
          obtain ⟨rfl, rfl⟩ := h
          cases hx with
          | mp hq =>
            obtain ⟨hob, hnil, hit, hgen, rfl, arr, lo, hi, hblk, hfz, hasz, hrow⟩ := at_obj hh hq ho
            have hlen := hrow.len
            obtain ⟨xs, hxs, hstr⟩ := bytes_nums (vs := arr.toList.take k.toNat) hbs (by simp; omega) (fun j q hq => by
              have hj := (List.getElem?_eq_some_iff.1 hq).1
              simp at hj
              rw [List.getElem?_take_of_lt (by omega)] at hq
              obtain ⟨v, hv, q1, q2⟩ := hrow j q hq
              refine ⟨v, ?_, q1, q2⟩
              simp only [List.getElem?_toArray]
              rw [List.getElem?_take_of_lt (by omega), Array.getElem?_toList]
              exact hv)
            have hxl : xs.length = k.toNat := by
              have := congrArg List.length hxs
              simp at this
              omega
            have hcell : ∀ j n, xs[j]? = some n → w.cell? ((⟨E.blk i, 0, none⟩ : Addr).add j) = some (.int .u8 n) := by
              intro j n hj
              have hjl := (List.getElem?_eq_some_iff.1 hj).1
              have : (arr.toList.take k.toNat)[j]? = some (.int .u8 n) := by rw [hxs]; simp [hj]
              rw [List.getElem?_take_of_lt (by omega), Array.getElem?_toList] at this
              rw [add_obj]
              simp [World.cell?, hblk, this]
            have hsh : w.shape? (E.blk i) = some (e, arr.size) := by simp [World.shape?, hblk, hty]
            have hrun := run_ustr (P := P) w pt it ty e ik hp hsz (E.blk i) arr.size hsh xs (by intro e; rw [e] at hxl; simp at hxl; omega) (by omega) (by omega) hcell
            have hkk : (xs.length : Int) = k := by omega
            rw [hkk, hstr] at hrun
            have hlt := (Array.getElem?_eq_some_iff.1 hblk).1
            refine ⟨_, _, E, hrun, .c (.v _), step_kill hh hob hit hnil ?_ ?_ ?_ ?_ ?_⟩
            · unfold World.freeze; split <;> rfl
            · unfold World.freeze; split <;> rfl
            · unfold World.freeze; split <;> rfl
            · unfold World.freeze; split <;> simp
            · intro b hb
              unfold World.freeze
              split
              · rfl
              · simp only [Array.getElem?_modify]
                rw [if_neg (Ne.symm hb)]
        · simp at h
      · simp at h
    · simp at h
  · simp at h

/-! ### ranges over strings -/
def iterOb (s : ByteArray) (p : Nat) : Ob := { ty := 0, sz := 0, nil := false, gen := 0, cs := [], iter := some (s, p) }
def rangeM (P : Program) (ob : List Ob) (t : TypeId) : M → Option (M × List Ob)
  | .c (.v (.string s)) => match P.underlying t with
    | some .string => some (.it ob.length, ob ++ [iterOb s 0])
    | _ => none
  | _ => none
def nextM (ob : List Ob) : M → Option (M × List Ob)
  | .it i => match ob[i]? with
    | some o => match o.iter with
      | some (s, p) => if p < s.size then some (.tup [.c (.v (.bool true)), .c (.v (.int .i64 p)), .c (.v (.int .i32 (Utf8.decode s p).1))], ob.set i { o with iter := some (s, p + (Utf8.decode s p).2) })
          else some (.tup [.c (.v (.bool false))], ob)
      | none => none
    | none => none
  | _ => none
theorem step_iter {w' : World} (hh : HeapOK w E ob) (s : ByteArray) (p : Nat) (h1 : w'.os = w.os) (h2 : w'.tape = w.tape) (h3 : w'.output = w.output) (h4 : w'.heap = w.heap.push (.stringIter s p)) :
    Step w E ob w' { E with blk := upd E.blk ob.length w.heap.size } (ob ++ [iterOb s p]) := by
  have hold : ∀ b, b < w.heap.size → w'.heap[b]? = w.heap[b]? := fun b hb => by rw [h4, Array.getElem?_push, if_neg (by omega)]
  have hnew : w'.heap[w.heap.size]? = some (.stringIter s p) := by rw [h4]; simp
  have hsz : w'.heap.size = w.heap.size + 1 := by rw [h4]; simp
  have hext : Ext w E ob w' { E with blk := upd E.blk ob.length w.heap.size } (ob ++ [iterOb s p]) := by
    refine ⟨fun b hb => ⟨hb, hold b (hh.stb b hb)⟩, fun i o ho => ?_⟩
    have hlt : i < ob.length := (List.getElem?_eq_some_iff.1 ho).1
    exact ⟨o, by rw [getElem?_snoc, if_pos hlt]; exact ho, Nat.le_refl _, rfl, fun _ => upd_ne _ _ _ (by omega), fun _ => ⟨rfl, rfl, upd_ne _ _ _ (by omega), rfl⟩⟩
  refine ⟨⟨fun i o ho => ?_, fun i j oi oj hi hj ni nj he => ?_, fun b hb => by have := hh.stb b hb; omega, fun i o ho hn => ?_⟩, hext, ?_⟩
  · rw [getElem?_snoc] at ho
    split at ho
    · rename_i hlt
      exact (hh.obj i o ho).keep hext (upd_ne _ _ _ (by omega)) rfl (fun hn => hold _ (hh.own i o ho hn).2)
    · split at ho
      · rename_i e
        subst e
        obtain rfl := Option.some.inj ho
        simp only [ObOK, iterOb]
        exact ⟨by rw [upd_same]; exact hnew, trivial⟩
      · simp at ho
  · rw [getElem?_snoc] at hi hj
    simp only [upd] at he
    split at hi <;> split at hj
    · rename_i p q
      rw [if_neg (by omega), if_neg (by omega)] at he
      exact hh.inj i j oi oj hi hj ni nj he
    · split at hj
      · rename_i p q r
        rw [if_neg (by omega), if_pos r] at he
        have := (hh.own i oi hi ni).2
        omega
      · simp at hj
    · split at hi
      · rename_i p q r
        rw [if_pos r, if_neg (by omega)] at he
        have := (hh.own j oj hj nj).2
        omega
      · simp at hi
    · split at hi
      · split at hj
        · omega
        · simp at hj
      · simp at hi
  · rw [getElem?_snoc] at ho
    split at ho
    · rename_i p
      have := hh.own i o ho hn
      simp only [upd]
      rw [if_neg (by omega)]
      exact ⟨this.1, by omega⟩
    · split at ho
      · rename_i e
        simp only [upd]
        rw [if_pos e]
        exact ⟨fun hs => by have := hh.stb _ hs; omega, by omega⟩
      · simp at ho
  · refine ⟨h1, h2, h3, by omega, fun b hb _ => hold b hb, fun b hb => hb, fun b hb => .inl hb, fun i o ho hn => ?_⟩
    rw [getElem?_snoc] at ho
    simp only [upd]
    split at ho
    · rename_i p
      rw [if_neg (by omega)]
      exact .inl ⟨i, o, ho, hn, rfl⟩
    · split at ho
      · rename_i e
        rw [if_pos e]
        exact .inr (Nat.le_refl _)
      · simp at ho
theorem step_next {w' : World} (hh : HeapOK w E ob) {i : Nat} {o : Ob} (ho : ob[i]? = some o) (hni : o.nil = false) (hit : o.iter.isSome = true) (s : ByteArray) (p : Nat)
    (h1 : w'.os = w.os) (h2 : w'.tape = w.tape) (h3 : w'.output = w.output) (h4 : w'.heap.size = w.heap.size) (h5 : ∀ b, b ≠ E.blk i → w'.heap[b]? = w.heap[b]?) (h6 : w'.heap[E.blk i]? = some (.stringIter s p)) : Step w E ob w' E (ob.set i { o with iter := some (s, p) }) := by
  have hlt : i < ob.length := (List.getElem?_eq_some_iff.1 ho).1
  have hext : Ext w E ob w' E (ob.set i { o with iter := some (s, p) }) := by
    refine ⟨fun b hb => ⟨hb, h5 b (fun e => (hh.own i o ho hni).1 (e ▸ hb))⟩, fun k q hq => ?_⟩
    by_cases e : i = k
    · subst e
      obtain rfl := Option.some.inj (ho.symm.trans hq)
      exact ⟨{ o with iter := some (s, p) }, by rw [getElem?_set, if_pos rfl, if_pos hlt], Nat.le_refl _, by simp [hit], fun _ => rfl, fun _ => ⟨rfl, rfl, rfl, rfl⟩⟩
    · exact ⟨q, by rw [getElem?_set, if_neg e]; exact hq, Nat.le_refl _, rfl, fun _ => rfl, fun _ => ⟨rfl, rfl, rfl, rfl⟩⟩
  have hback : ∀ (k : Nat) (q : Ob), (ob.set i { o with iter := some (s, p) })[k]? = some q → ∃ q0, ob[k]? = some q0 ∧ q0.nil = q.nil := by
    intro k q hq
    rw [getElem?_set] at hq
    split at hq
    · rename_i e
      subst e
      try rw [if_pos hlt] at hq
      obtain rfl := Option.some.inj hq
      exact ⟨o, ho, rfl⟩
    · exact ⟨q, hq, rfl⟩
  refine ⟨⟨fun k q hq => ?_, fun a b oa ob_ ha hb na nb he => ?_, fun b hb => by rw [h4]; exact hh.stb b hb, fun k q hq hn => ?_⟩, hext, ⟨h1, h2, h3, by omega, fun b hb hn => h5 b (fun e => hn ⟨i, o, ho, hni, e.symm⟩), fun b hb => hb, fun b hb => .inl hb, fun k q hq hn => ?_⟩⟩
  · rw [getElem?_set] at hq
    split at hq
    · rename_i e
      subst e
      try rw [if_pos hlt] at hq
      obtain rfl := Option.some.inj hq
      simp only [ObOK]
      exact ⟨h6, hni⟩
    · rename_i e
      exact (hh.obj k q hq).keep hext rfl rfl (fun hn => h5 _ (fun eb => e (hh.inj i k o q ho hq hni hn eb.symm)))
  · obtain ⟨qa, ha1, ha2⟩ := hback a oa ha
    obtain ⟨qb, hb1, hb2⟩ := hback b ob_ hb
    exact hh.inj a b qa qb ha1 hb1 (ha2.trans na) (hb2.trans nb) he
  · obtain ⟨q0, hq1, hq2⟩ := hback k q hq
    rw [h4]
    exact hh.own k q0 hq1 (hq2.trans hn)
  · obtain ⟨q0, hq1, hq2⟩ := hback k q hq
    exact .inl ⟨k, q0, hq1, hq2.trans hn, rfl⟩
theorem sound_range (hh : HeapOK w E ob) {t : TypeId} {x m : M} {y : Value} {ob' : List Ob} (hx : RepM w E ob x y) (h : rangeM P ob t x = some (m, ob')) :
    ∃ v w' E', (Instr.range t y).run P w = .ok v w' ∧ RepM w' E' ob' m v ∧ Step w E ob w' E' ob' := by
  unfold rangeM at h
  split at h
  · rename_i s
    split at h
    · rename_i hu
      simp only [Option.some.injEq, Prod.mk.injEq] at h
      obtain ⟨rfl, rfl⟩ := h
      cases hx with
      | c hc =>
        cases hc
        refine ⟨_, _, _, run_range_string w t s hu, .it ⟨iterOb s 0, by rw [getElem?_snoc, if_neg (by omega), if_pos rfl], ⟨_, rfl⟩, ?_⟩, step_iter hh s 0 rfl rfl rfl rfl⟩
        simp [upd]
    · simp at h
  · simp at h
theorem sound_next (hh : HeapOK w E ob) {ty : TypeId} {x m : M} {y : Value} {ob' : List Ob} (hx : RepM w E ob x y) (h : nextM ob x = some (m, ob')) :
    ∃ v w' E', (Instr.next y true ty).run P w = .ok v w' ∧ RepM w' E' ob' m v ∧ Step w E ob w' E' ob' := by
  unfold nextM at h
  split at h
  · rename_i i
    split at h
    · rename_i o ho
      split at h
      · rename_i s p hit
        cases hx with
        | it hq =>
          obtain ⟨o', ho', _, rfl⟩ := hq
          obtain rfl := Option.some.inj (ho.symm.trans ho')
          have hob := hh.obj i o ho
          unfold ObOK at hob
          rw [hit] at hob
          obtain ⟨hk, hni⟩ := hob
          split at h
          · rename_i hp
            simp only [Option.some.injEq, Prod.mk.injEq] at h
            obtain ⟨rfl, rfl⟩ := h
            refine ⟨_, _, E, Lib.run_next_any_at w _ s p ty hk hp, ?_, step_next hh ho hni (by simp [hit]) s _ rfl rfl rfl (Lib.iterAt_size _ _ _ _) (fun b hb => Lib.iterAt_other w _ b s _ hb) (Lib.iterAt_heap w _ s p _ hk)⟩
            refine .tup _ _ rfl (fun j hj m hm => ?_)
            match j, hm with
            | 0, hm => obtain rfl := Option.some.inj hm; exact .c (.v _)
            | 1, hm => obtain rfl := Option.some.inj hm; exact .c (.v _)
            | 2, hm => obtain rfl := Option.some.inj hm; exact .c (.v _)
          · rename_i hp
            simp only [Option.some.injEq, Prod.mk.injEq] at h
            obtain ⟨rfl, rfl⟩ := h
            refine ⟨_, w, E, Lib.run_next_end_at w _ s p ty hk hp, ?_, .refl hh⟩
            refine .tup _ _ rfl (fun j hj m hm => ?_)
            match j, hm with
            | 0, hm => obtain rfl := Option.some.inj hm; exact .c (.v _)
      · simp at h
    · simp at h
  · simp at h

/-! ### copy -/
theorem sound_first (hh : HeapOK w E ob) {sz : Nat} {tx : TypeId} {x : M} {y : Value} {ns : List M} {n' : Nat} (hx : RepM w E ob x y) (ht : isSrcT P tx x = true) (h : newsM ob sz x = some (ns, n')) (k : Nat) (hk : k ≤ n') :
    ∃ vs : List Value, vs.length = k * sz ∧ (Builtin.firstCells sz k y).run P w = .ok vs.toArray w ∧ (∀ w' : World, (Builtin.lenOf y).run P w' = .ok n' w') ∧ (∀ u ∈ vs, u.oneCell' = true) ∧ Row w E ob (ns.take (k * sz)) vs.toArray := by
  have hlen := (sound_news hh hx ht h).choose_spec.1.len
  have fin : ∀ (x' : M) (y' : Value), RepM w E ob x' y' → isSrcT P tx x' = true → newsM ob sz x' = some (ns.take (k * sz), k) → Builtin.firstCells sz k y' = Builtin.firstCells sz k y →
      ∃ vs : List Value, vs.length = k * sz ∧ (Builtin.firstCells sz k y).run P w = .ok vs.toArray w ∧ (∀ w' : World, (Builtin.lenOf y).run P w' = .ok n' w') ∧ (∀ u ∈ vs, u.oneCell' = true) ∧ Row w E ob (ns.take (k * sz)) vs.toArray := by
    intro x' y' h1 h2 h3 h4
    obtain ⟨vs, q1, q2, q3⟩ := sound_news hh h1 h2 h3
    exact ⟨vs, q1.newsLen, by rw [← h4]; exact q1.cells, hlen, q1.one, q3⟩
  have hmul : k * sz ≤ n' * sz := Nat.mul_le_mul_right _ hk
  unfold newsM at h
  split at h
  · simp only [Option.some.injEq, Prod.mk.injEq] at h
    obtain ⟨rfl, rfl⟩ := h
    obtain rfl : k = 0 := by omega
    refine fin _ _ hx ht ?_ rfl
    simp [newsM]
  · rename_i s
    split at h
    · rename_i hs
      subst hs
      simp only [Option.some.injEq, Prod.mk.injEq] at h
      obtain ⟨rfl, rfl⟩ := h
      cases hx with
      | c hc =>
        cases hc
        have hsz : s.data.toList.length = s.size := by simp
        refine ⟨((s.data.toList.map fun b => Value.int .u8 (b.toNat : Int)).take k), by simp; omega, ?_, hlen, fun u hu => ?_, fun j m hm => ?_⟩
        · simp only [Builtin.firstCells, Sem.run_pure]
          congr 1
          apply Array.ext'
          simp [ByteArray.extract, ByteArray.copySlice]
        · have hu' := List.mem_of_mem_take hu
          obtain ⟨_, _, rfl⟩ := List.mem_map.1 hu'
          rfl
        · rw [Nat.mul_one] at hm
          have hj := (List.getElem?_eq_some_iff.1 hm).1
          simp at hj
          rw [List.getElem?_take_of_lt (by omega)] at hm
          simp only [up, List.map_map, toList_data, List.getElem?_map] at hm
          obtain ⟨b, hb, rfl⟩ := Option.map_eq_some_iff.1 hm
          refine ⟨.int .u8 (b.toNat : Int), ?_, rfl, .c (.v _)⟩
          simp only [List.getElem?_toArray]
          rw [List.getElem?_take_of_lt (by omega)]
          simp [hb]
    · simp at h
  · rename_i cs n full
    split at h
    · rename_i hl
      simp only [Option.some.injEq, Prod.mk.injEq] at h
      obtain ⟨rfl, rfl⟩ := h
      have ht' : ∀ cs' n' f', isSrcT P tx (.c (.sl cs' n' f')) = true := by
        intro cs' n' f'
        unfold isSrcT at ht ⊢
        split at ht <;> simp_all
      have hnw : newsM ob sz (.c (.sl (cs.take (k * sz)) k false)) = some ((up cs).take (k * sz), k) := by
        simp only [newsM]
        rw [if_pos (by simp; omega)]
        simp [up]
      cases hx with
      | c hc =>
        cases hc with
        | nl full =>
          obtain rfl : k = 0 := by omega
          refine fin (.c (.sl ([].take (0 * sz)) 0 false)) (.slice none 0 0) ?_ (ht' _ _ _) hnw rfl
          simp only [List.take_nil]
          exact .c (.nl false)
        | sl cs n full a cap ys hf hn h1 h2 =>
          refine fin (.c (.sl (cs.take (k * sz)) k false)) (.slice (some a) k cap) ?_ (ht' _ _ _) hnw rfl
          have htk : ∀ (j : Nat) c, (cs.take (k * sz))[j]? = some c → cs[j]? = some c := fun j c hj => by
            have := (List.getElem?_eq_some_iff.1 hj).1
            simp at this
            rwa [List.getElem?_take_of_lt (by omega)] at hj
          exact .c (.sl _ k false a cap ys (by simp) (by omega) (fun j c hj => h1 j c (htk j c hj)) (fun j c hj => h2 j c (htk j c hj)))
    · simp at h
  · rename_i i g off n
    have ht' : ∀ k', isSrcT P tx (.ms i g off k') = true := by
      intro k'
      unfold isSrcT at ht ⊢
      split at ht <;> simp_all
    split at h
    · rename_i o hl
      cases hx with
      | ms hq =>
        obtain ⟨ho, hit, hg, r1, r2⟩ := live_ok hq hl
        cases hn : o.nil with
        | true =>
          rw [hn] at h
          simp only [if_true, Option.some.injEq, Prod.mk.injEq] at h
          obtain ⟨rfl, rfl⟩ := h
          obtain rfl : k = 0 := by omega
          refine fin (.ms i g off n) y (.ms hq) (ht' _) ?_ rfl
          simp [newsM, hl, hn]
        | false =>
          rw [hn] at h
          simp only [Bool.false_eq_true, if_false] at h
          split at h
          · rename_i hle
            simp only [Option.some.injEq, Prod.mk.injEq] at h
            obtain ⟨rfl, rfl⟩ := h
            obtain ⟨cap, rfl, hc1, hc2⟩ := r2 hn
            refine fin (.ms i g off k) (.slice (some ⟨E.blk i, off, none⟩) k cap) (.ms ⟨rfl, o, ho, hit, by omega, fun _ => ⟨fun h => by simp [hn] at h, fun _ => ⟨cap, rfl, by omega, hc2⟩⟩⟩) (ht' _) ?_ rfl
            simp only [newsM, hl, hn, Bool.false_eq_true, if_false]
            rw [if_pos (by omega), List.take_take, Nat.min_eq_left hmul]
          · simp at h
    · simp at h
  · simp at h

theorem run_copy_gen {dT sT ty elem : TypeId} {sz b off dLen dCap sl : Nat} {y : Value} {cells : List Value} {w' : World} (hu : P.underlying dT = some (.slice elem)) (hsz : (sizeOf elem).run P w = .ok sz w) (hlen : ∀ w' : World, (Builtin.lenOf y).run P w' = .ok sl w')
    (hfc : (Builtin.firstCells sz (min sl dLen) y).run P w = .ok cells.toArray w) (hst : (storeCells ⟨b, off, none⟩ cells 0).run P w = .ok () w') :
    (Builtin.copy_ #[dT, sT] ty #[.slice (some ⟨b, off, none⟩) dLen dCap, y]).run P w = .ok (.int .i64 (min sl dLen : Nat)) w' := by
  simp only [Builtin.copy_, List.getElem?_toArray, List.getElem?_cons_zero, List.getElem?_cons_succ, run_underlying hu, Sem.run_bind, Result.andThen_ok, hlen, hsz, hst, Sem.run_pure, goInt]
  rw [show Nat.min sl dLen = min sl dLen from rfl, hfc]
  simp only [Result.andThen_ok, hst]
def copyM (P : Program) (ob : List Ob) (dt st : TypeId) (d x : M) : Option (M × List Ob) :=
  match P.underlying dt with
  | some (.slice e) =>
    if isSrcT P st x = false then none else
    match newsM ob (szT P e) x with
    | none => none
    | some (ns, n') =>
      match d with
      | .ms i g off n => match liveS ob i g with
        | some o => if o.nil then none else (if off + min n' n * szT P e ≤ o.cs.length then (if ns.length = n' * szT P e then
            some (.c (.v (.int .i64 (min n' n : Nat))), ob.set i { o with cs := lay o.cs off (ns.take (min n' n * szT P e)) }) else none) else none)
        | none => none
      | _ => none
  | _ => none
theorem sound_copy (hh : HeapOK w E ob) {dt st ty : TypeId} {d x m : M} {y z : Value} {ob' : List Ob} (hd : RepM w E ob d y) (hx : RepM w E ob x z) (hz : ∀ e, P.underlying dt = some (.slice e) → ∃ i, P.info? e = some i) (h : copyM P ob dt st d x = some (m, ob')) :
    ∃ v w' E', (Builtin.copy_ #[dt, st] ty #[y, z]).run P w = .ok v w' ∧ RepM w' E' ob' m v ∧ Step w E ob w' E' ob' := by
  unfold copyM at h
  split at h
  · rename_i e hu
    obtain ⟨ti, hti⟩ := hz e hu
    split at h
    · simp at h
    · rename_i ht
      split at h
      · simp at h
      · rename_i ns n' hns
        split at h
        · rename_i i g off n
          split at h
          · rename_i o hl
            split at h
            · simp at h
            · rename_i hnil
              obtain ⟨hle, h⟩ := of_ite h
              obtain ⟨hnl, h⟩ := of_ite h
              simp only [Option.some.injEq, Prod.mk.injEq] at h
              obtain ⟨rfl, rfl⟩ := h
              have hni : o.nil = false := by simpa using hnil
              cases hd with
              | ms hq =>
                obtain ⟨ho, hit, hg, _, _⟩ := live_ok hq hl
                obtain ⟨cap, arr, lo, hi, rfl, hc1, hc2, hblk, hfz, hasz, hrow⟩ := slice_of_live hq hl hh hni
                obtain ⟨vs, v1, v2, v3, v4, v5⟩ := sound_first (P := P) hh hx (by simpa using ht) hns (min n' n) (Nat.min_le_left _ _)
                have hlen := hrow.len
                obtain ⟨w', hr, a1, a2, a3, a4, a5, cur', hc, hcs, hcj⟩ := store_cells (P := P) (E.blk i) o.ty lo hi vs 0 off arr w hblk hfz (by omega) v4
                have htk : (ns.take (min n' n * szT P e)).length = vs.length := by
                  rw [List.length_take, v1, hnl]
                  exact Nat.min_eq_left (Nat.mul_le_mul_right _ (Nat.min_le_left _ _))
                refine ⟨_, w', E, run_copy_gen hu (run_size hti w) v3 v2 hr, .c (.v _), ?_⟩
                have hll : off + (ns.take (min n' n * szT P e)).length ≤ o.cs.length := by rw [htk, v1]; exact hle
                have := step_set hh ho hni hit (lay o.cs off (ns.take (min n' n * szT P e))) o.gen (Nat.le_refl _) cur' o.ty lo hi rfl (w' := w') ?_ (fun j hj => hfz j (by omega)) (by omega) a1 a2 a3 a4 a5 hc
                · exact this
                · intro j m hm
                  rw [getElem?_lay _ _ _ hll] at hm
                  rw [hcj j]
                  simp only [Nat.add_zero]
                  split at hm
                  · rename_i hin
                    rw [if_pos (by omega)]
                    obtain ⟨v, hv, h1v, hrv⟩ := v5 _ m hm
                    exact ⟨v, by simpa using hv, h1v, hrv⟩
                  · rename_i hin
                    rw [if_neg (by omega)]
                    exact hrow j m hm
          · simp at h
        · simp at h
  · simp at h
end Go.Av
