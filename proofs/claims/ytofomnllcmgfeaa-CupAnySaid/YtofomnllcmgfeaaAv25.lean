/- Interfaces, function values, min, max, cap. -/
import Derived.Test.YtofomnllcmgfeaaAv21
set_option linter.unusedVariables false
set_option linter.unusedSimpArgs false
namespace Go.Av
open Go
variable {P : Program} {w : World} {E : Env} {ob : List Ob}

/-! ### interfaces -/
def mkIfaceM (P : Program) (t : TypeId) (x : M) : Option M :=
  match P.underlying t with
  | some (.interface _) => none
  | some _ => match x with
    | .c c => some (.c (.ifc t false [c]))
    | .agg ms => match downs ms with
      | some cs => some (.c (.ifc t true cs))
      | none => none
    | .mp i g off => some (.mi t i g off)
    | _ => none
  | none => none
def unfaceM : M → Option (TypeId × M)
  | .c (.ifc t false [c]) => some (t, .c c)
  | .c (.ifc t true cs) => some (t, .agg (up cs))
  | .mi t i g off => some (t, .mp i g off)
  | _ => none
theorem sound_mkIface {t : TypeId} {x m : M} {y : Value} (hx : RepM w E ob x y) (h : mkIfaceM P t x = some m) : ∃ v, (Instr.makeInterface t y).run P w = .ok v w ∧ RepM w E ob m v := by
  unfold mkIfaceM at h
  split at h
  · simp at h
  · rename_i d hd hu
    refine ⟨.iface t y, ?_, ?_⟩
    · simp only [Instr.makeInterface, Sem.run_bind, run_underlying hu, Result.andThen_ok]
      cases d <;> first | rfl | exact absurd rfl (hd _)
    · split at h
      · obtain rfl := Option.some.inj h
        cases hx with
        | c hc => exact .c (.ifc1 _ _ _ hc)
      · split at h
        · rename_i cs hcs
          obtain rfl := Option.some.inj h
          have e := up_downs hcs
          subst e
          cases hx with
          | agg ms arr hs ho hr =>
            refine .c (.ifca t cs arr (by simpa [up] using hs) ho fun j hj c hc => ?_)
            have := hr j hj (.c c) (by simp [up, hc])
            cases this with
            | c q => exact q
        · simp at h
      · obtain rfl := Option.some.inj h
        cases hx with
        | mp hp => exact .mi hp
      · simp at h
  · simp at h
theorem sound_unface {x x' : M} {y : Value} {t : TypeId} (hx : RepM w E ob x y) (h : unfaceM x = some (t, x')) : ∃ v, y = .iface t v ∧ RepM w E ob x' v := by
  unfold unfaceM at h
  split at h
  · simp only [Option.some.injEq, Prod.mk.injEq] at h
    obtain ⟨rfl, rfl⟩ := h
    cases hx with
    | c hc =>
      cases hc with
      | ifc1 _ _ y hy => exact ⟨y, rfl, .c hy⟩
  · simp only [Option.some.injEq, Prod.mk.injEq] at h
    obtain ⟨rfl, rfl⟩ := h
    cases hx with
    | c hc =>
      cases hc with
      | ifca _ cs arr hs ho hr =>
        refine ⟨_, rfl, .agg _ arr (by simpa [up] using hs) ho fun j hj m hm => ?_⟩
        simp only [up, List.getElem?_map, Option.map_eq_some_iff] at hm
        obtain ⟨c, hc, rfl⟩ := hm
        exact .c (hr j hj c hc)
  · simp only [Option.some.injEq, Prod.mk.injEq] at h
    obtain ⟨rfl, rfl⟩ := h
    cases hx with
    | mi hp => exact ⟨_, rfl, .mp hp⟩
  · simp at h

/-- A type's method: the function, and whether it wants a pointer. -/
def methT (P : Program) (t : TypeId) (name : String) : Option (FuncId × Bool) :=
  match P.info? t with
  | some i => match i.methods.find? (·.name == name) with
    | some m => match m.path.toList with
      | [] => m.func
      | _ => none
    | none => none
  | none => none
def methM (P : Program) (ob : List Ob) (t : TypeId) (x : M) (name : String) : Option (FuncId × M) :=
  match methT P t name with
  | some (f, b) => match P.underlying t with
    | some (.pointer e) => if b then some (f, x) else (if okT P e then (match loadM P ob e x with
      | some m => some (f, m)
      | none => none) else none)
    | some _ => if b then none else some (f, x)
    | none => none
  | none => none
theorem load_asAddr' {t : TypeId} {y z : Value} {w : World} (h : (Instr.loadAt t y).run P w = .ok z w) : ∃ a, y = .pointer (some a) ∧ (loadVar t a).run P w = .ok z w := by
  cases y with
  | pointer p =>
    cases p with
    | some a => exact ⟨a, rfl, h⟩
    | none => simp [Instr.loadAt, Instr.sureAddr, stuck, Sem.run] at h
  | _ => simp [Instr.loadAt, Instr.sureAddr, stuck, Sem.run] at h
theorem wrapNil (ts : Array TypeId) (t : TypeId) (a : Addr) (s n : ByteArray) : Builtin.ssaWrapNilChk_ ts t #[.pointer (some a), .string s, .string n] = pure (.pointer (some a)) := rfl
theorem sound_meth (hh : HeapOK w E ob) {t : TypeId} {x r : M} {y : Value} {name : String} {f : FuncId} {fuel : Nat} (hx : RepM w E ob x y) (h : methM P ob t x name = some (f, r)) :
    ∃ v, (method (fuel + 1) t y name).run P w = .ok (f, v) w ∧ RepM w E ob r v := by
  unfold methM at h
  split at h
  · rename_i f' b hm
    unfold methT at hm
    split at hm
    · rename_i ti hti
      split at hm
      · rename_i mt hmt
        split at hm
        · rename_i hp
          have hemp : mt.path = #[] := Array.toList_eq_nil_iff.1 hp
          split at h
          · rename_i e hu
            cases b with
            | true =>
              simp only [if_true, Option.some.injEq, Prod.mk.injEq] at h
              obtain ⟨rfl, rfl⟩ := h
              exact ⟨y, by simp [method, typeInfo, hti, hmt, hp, follow, hm, receiverAt, run_underlying hu, Place.get], hx⟩
            | false =>
              simp only [Bool.false_eq_true, if_false] at h
              obtain ⟨hok, h⟩ := of_ite h
              split at h
              · rename_i m hl
                simp only [Option.some.injEq, Prod.mk.injEq] at h
                obtain ⟨rfl, rfl⟩ := h
                obtain ⟨z, hz, hrz⟩ := sound_load hh hok hx hl
                obtain ⟨a, rfl, hla⟩ := load_asAddr' hz
                exact ⟨z, by simp [method, typeInfo, hti, hmt, hp, follow, hm, receiverAt, run_underlying hu, Place.get, hemp, strVal, wrapNil, asAddr, hla], hrz⟩
              · simp at h
          · rename_i d hd hu
            cases b with
            | true => simp at h
            | false =>
              simp only [Bool.false_eq_true, if_false, Option.some.injEq, Prod.mk.injEq] at h
              obtain ⟨rfl, rfl⟩ := h
              refine ⟨y, ?_, hx⟩
              cases d <;> first | exact absurd rfl (hd _) | simp [method, typeInfo, hti, hmt, hp, follow, hm, receiverAt, run_underlying hu, Place.get]
          · simp at h
        · simp at hm
      · simp at hm
    · simp at hm
  · simp at h

/-- x.(T), T not an interface. -/
def assertM (P : Program) (t : TypeId) (ok : Bool) (x : M) : Option M :=
  match P.underlying t with
  | some (.interface _) => none
  | some _ => match unfaceM x with
    | some (u, v) => if u = t then some (if ok then .tup [v, .c (.v (.bool true))] else v) else (if ok then (match (P.info? t).bind (·.zero) with
      | some z => (constM z).map fun m => .tup [m, .c (.v (.bool false))]
      | none => none) else none)
    | none => match x with
      | .c (.v .nilIface) => if ok then (match (P.info? t).bind (·.zero) with
        | some z => (constM z).map fun m => .tup [m, .c (.v (.bool false))]
        | none => none) else none
      | _ => none
  | none => none
theorem tup2 {a : M} {y : Value} {b : Bool} (h : RepM w E ob a y) : RepM w E ob (.tup [a, .c (.v (.bool b))]) (.tuple #[y, .bool b]) := by
  refine .tup _ _ rfl fun j hj m hm => ?_
  match j, hm with
  | 0, hm => obtain rfl := Option.some.inj hm; exact h
  | 1, hm => obtain rfl := Option.some.inj hm; exact .c (.v _)
theorem sound_assert {t xt : TypeId} {ok : Bool} {x m : M} {y : Value} (hx : RepM w E ob x y) (h : assertM P t ok x = some m) : ∃ v, (Instr.typeAssert y xt t ok).run P w = .ok v w ∧ RepM w E ob m v := by
  unfold assertM at h
  split at h
  · simp at h
  · rename_i d hd hu
    split at h
    · rename_i u v' hun
      obtain ⟨v, rfl, hv⟩ := sound_unface hx hun
      split at h
      · rename_i e
        subst e
        obtain rfl := Option.some.inj h
        cases ok with
        | true => exact ⟨.tuple #[v, .bool true], by cases d <;> first | exact absurd rfl (hd _) | simp [Instr.typeAssert, run_underlying hu], tup2 hv⟩
        | false => exact ⟨v, by cases d <;> first | exact absurd rfl (hd _) | simp [Instr.typeAssert, run_underlying hu], hv⟩
      · rename_i hne
        obtain ⟨rfl, h2⟩ := of_ite h
        clear h
        split at h2
        · rename_i z hz
          obtain ⟨i, hi, hiz⟩ := zero_of_ok hz
          obtain ⟨m', hm', rfl⟩ := Option.map_eq_some_iff.1 h2
          exact ⟨.tuple #[z, .bool false], by cases d <;> first | exact absurd rfl (hd _) | simp [Instr.typeAssert, run_underlying hu, hne, run_zero hi hiz], tup2 (rep_const hm')⟩
        · simp at h2
    · split at h
      · obtain ⟨rfl, h2⟩ := of_ite h
        clear h
        split at h2
        · rename_i z hz
          obtain ⟨i, hi, hiz⟩ := zero_of_ok hz
          obtain ⟨m', hm', rfl⟩ := Option.map_eq_some_iff.1 h2
          cases hx with
          | c hc =>
            cases hc
            exact ⟨.tuple #[z, .bool false], by cases d <;> first | exact absurd rfl (hd _) | simp [Instr.typeAssert, run_underlying hu, run_zero hi hiz], tup2 (rep_const hm')⟩
        · simp at h2
      · simp at h
  · simp at h

/-! ### min, max, cap -/
def minmaxM (mx : Bool) : M → M → Option M
  | .c (.v (.int k a)), .c (.v (.int _ b)) => some (.c (.v (.int k (if mx then (if b > a then b else a) else (if b < a then b else a)))))
  | _, _ => none
theorem sound_min {x y m : M} {a b : Value} (ts : Array TypeId) (ty : TypeId) (hx : RepM w E ob x a) (hy : RepM w E ob y b) (h : minmaxM false x y = some m) : ∃ v, (Builtin.min_ ts ty #[a, b]).run P w = .ok v w ∧ RepM w E ob m v := by
  unfold minmaxM at h
  split at h
  · obtain rfl := Option.some.inj h
    cases hx with
    | c hc => cases hc; cases hy with
      | c hd => cases hd; exact ⟨_, by simp [Builtin.min_, Builtin.min2], .c (.v _)⟩
  · simp at h
theorem sound_max {x y m : M} {a b : Value} (ts : Array TypeId) (ty : TypeId) (hx : RepM w E ob x a) (hy : RepM w E ob y b) (h : minmaxM true x y = some m) : ∃ v, (Builtin.max_ ts ty #[a, b]).run P w = .ok v w ∧ RepM w E ob m v := by
  unfold minmaxM at h
  split at h
  · obtain rfl := Option.some.inj h
    cases hx with
    | c hc => cases hc; cases hy with
      | c hd => cases hd; exact ⟨_, by simp [Builtin.max_, Builtin.max2], .c (.v _)⟩
  · simp at h
/-- A nil slice's room. -/
def capM (P : Program) (ob : List Ob) (t : TypeId) (x : M) : Option M :=
  match P.underlying t with
  | some (.slice _) => match x with
    | .c (.v (.slice none 0 0)) => some (.c (.v (.int .i64 0)))
    | .ms i g off n => match liveS ob i g with
      | some o => if o.nil then some (.c (.v (.int .i64 0))) else none
      | none => none
    | _ => none
  | _ => none
theorem sound_cap (hh : HeapOK w E ob) {t ty : TypeId} {x m : M} {y : Value} (hx : RepM w E ob x y) (h : capM P ob t x = some m) : ∃ v, (Builtin.cap_ #[t] ty #[y]).run P w = .ok v w ∧ RepM w E ob m v := by
  unfold capM at h
  split at h
  · rename_i e hu
    split at h
    · obtain rfl := Option.some.inj h
      cases hx with
      | c hc => cases hc; exact ⟨_, by simp [Builtin.cap_, run_underlying hu, goInt], .c (.v _)⟩
    · split at h
      · rename_i o ho
        obtain ⟨hn, h⟩ := of_ite h
        obtain rfl := Option.some.inj h
        cases hx with
        | ms hs =>
          obtain ⟨_, o', ho', _, _, hr⟩ := hs
          unfold liveS at ho
          rw [ho'] at ho
          simp only at ho
          split at ho
          · rename_i hg
            split at ho
            · simp at ho
            · obtain rfl := Option.some.inj ho
              obtain ⟨rfl, _, _⟩ := (hr hg).1 hn
              exact ⟨_, by simp [Builtin.cap_, run_underlying hu, goInt], .c (.v _)⟩
          · simp at ho
      · simp at h
    · simp at h
  · simp at h
end Go.Av
