/- An argument that reads as data is a closed datum of its type; a law's contract, as a call. -/
import Derived.Test.YtofomnllcmgfeaaAv19
import Derived.ShutString
import Derived.ChangeOld
import Derived.OpenShut
import Derived.SizedLaws
import Derived.ProofKit
import Derived.Deep.Slices
set_option linter.unusedVariables false
set_option linter.unusedSimpArgs false
namespace Go.Av
open Go

/-- Cell for cell. -/
def Reads (W : World) (es : List C) (cs : List Value) : Prop := es.length = cs.length ∧ ∀ (j : Nat) c y, es[j]? = some c → cs[j]? = some y → one1 y = true ∧ RepC W (fun b => b < W.heap.size) c y
def Opens (P : Program) (t : TypeId) {A : Type} (enc : A → List C) (Hyp : A → Prop) : Prop :=
  ∀ (H : Type) (e0 : TypeId × Value → H) (W : World) (fuel : Nat) (cs : List Value) (x : DataW H × List MemPlace), DataW.trod e0 P W 0 (fun _ => true) true fuel t cs = some x → ∃ a, Hyp a ∧ Reads W (enc a) cs

theorem Opens.conv {P : Program} {t : TypeId} {A B : Type} {enc : A → List C} {Hyp : A → Prop} {enc' : B → List C} {Hyp' : B → Prop} (h : Opens P t enc Hyp) (hc : ∀ a, Hyp a → ∃ b, Hyp' b ∧ enc' b = enc a) : Opens P t enc' Hyp' := fun H e0 W fuel cs x hx => by
  obtain ⟨a, ha, hr⟩ := h H e0 W fuel cs x hx
  obtain ⟨b, hb, he⟩ := hc a ha
  exact ⟨b, hb, by rw [he]; exact hr⟩
theorem reads1 {W : World} {c : C} {y : Value} (h1 : one1 y = true) (h2 : RepC W (fun b => b < W.heap.size) c y) : Reads W [c] [y] := by
  refine ⟨rfl, fun j c' y' hc hy => ?_⟩
  cases j with
  | zero => simp at hc hy; subst hc; subst hy; exact ⟨h1, h2⟩
  | succ j => simp at hc

variable {P : Program}
theorem opens_int {t : TypeId} {k : IntKind} (ht : P.underlying t = some (.int k)) : Opens P t (fun n : Int => [.v (.int k n)]) (fun n => (Lit.int k n).wf = true) := fun H e0 W fuel cs x hx => by
  obtain ⟨n, rfl, rfl, hw⟩ := DataW.trod_int ht hx
  exact ⟨n, hw, reads1 rfl (.v _)⟩
theorem opens_bool {t : TypeId} (ht : P.underlying t = some .bool) : Opens P t (fun b : Bool => [.v (.bool b)]) (fun _ => True) := fun H e0 W fuel cs x hx => by
  obtain ⟨n, rfl, rfl⟩ := DataW.trod_bool ht hx
  exact ⟨n, trivial, reads1 rfl (.v _)⟩
theorem opens_string {t : TypeId} (ht : P.underlying t = some .string) : Opens P t (fun s : ByteArray => [.v (.string s)]) (fun s => s.size ≤ maxLen) := fun H e0 W fuel cs x hx => by
  obtain ⟨n, rfl, rfl, hw⟩ := DataW.trod_string ht hx
  exact ⟨n, hw, reads1 rfl (.v _)⟩

theorem list_choose {A : Type} {p : Nat → A → Prop} (n : Nat) (h : ∀ i, i < n → ∃ a, p i a) : ∃ l : List A, l.length = n ∧ ∀ i a, l[i]? = some a → p i a := by
  induction n with
  | zero => exact ⟨[], rfl, fun i a h => by simp at h⟩
  | succ n ih =>
    obtain ⟨l, hl, hp⟩ := ih fun i hi => h i (by omega)
    obtain ⟨a, ha⟩ := h n (by omega)
    refine ⟨l ++ [a], by simp [hl], fun i b hb => ?_⟩
    rw [getElem?_snoc] at hb
    split at hb
    · exact hp i b hb
    · split at hb
      · obtain rfl := Option.some.inj hb
        rename_i h1 h2
        have : i = n := by omega
        rw [this]; exact ha
      · simp at hb
theorem flat_len {A B : Type} {f : A → List B} {sz : Nat} (hf : ∀ a, (f a).length = sz) (l : List A) : (l.flatMap f).length = l.length * sz := by
  induction l with
  | nil => simp
  | cons a l ih => simp [hf, ih, Nat.add_mul]; omega
theorem flat_get {A B : Type} {f : A → List B} {sz : Nat} (hf : ∀ a, (f a).length = sz) {l : List A} : ∀ {j : Nat} {c : B}, (l.flatMap f)[j]? = some c → ∃ i r a, j = i * sz + r ∧ r < sz ∧ l[i]? = some a ∧ (f a)[r]? = some c := by
  induction l with
  | nil => intro j c h; simp at h
  | cons a l ih =>
    intro j c h
    simp only [List.flatMap_cons] at h
    by_cases hj : j < sz
    · rw [List.getElem?_append_left (by rw [hf]; exact hj)] at h
      exact ⟨0, j, a, by omega, hj, rfl, h⟩
    · rw [List.getElem?_append_right (by rw [hf]; omega), hf] at h
      obtain ⟨i, r, b, h1, h2, h3, h4⟩ := ih h
      refine ⟨i + 1, r, b, ?_, h2, by simpa using h3, h4⟩
      rw [Nat.add_mul]; omega
theorem cells_get {W : World} {b : Nat} {a : Addr} {n : Nat} {cs : List Value} (h : W.cells? b a n = some cs) : cs.length = n ∧ ∀ (j : Nat) y, cs[j]? = some y → W.cell? (a.add j) = some y := by
  unfold World.cells? at h
  split at h
  · have hl := mapM_some_length h
    simp at hl
    refine ⟨hl, fun j y hj => ?_⟩
    have hlt := (List.getElem?_eq_some_iff.1 hj).1
    have := mapM_some_get h j j (by rw [List.getElem?_range (by omega)])
    rw [hj] at this
    exact this
  · simp at h
theorem cell_lt {W : World} {a : Addr} {y : Value} (h : W.cell? a = some y) : a.block < W.heap.size := by
  unfold World.cell? at h
  rcases Nat.lt_or_ge a.block W.heap.size with hlt | hge
  · exact hlt
  · rw [Array.getElem?_eq_none hge] at h
    simp at h

theorem opens_slice {t e : TypeId} {A : Type} {enc : A → List C} {Hyp : A → Prop} (ht : P.underlying t = some (.slice e)) (hsz : ∀ a, (enc a).length = P.cellsOf e) (he : Opens P e enc Hyp) :
    Opens P t (fun l : List A => [.sl (l.flatMap enc) l.length false]) (fun l => l.length ≤ maxLen ∧ ∀ a ∈ l, Hyp a) := fun H e0 W fuel cs x hx => by
  rcases DataW.trod_slice ht hx with ⟨rfl, rfl⟩ | ⟨a, len, cap, elems, rest, n, _, rfl, rfl, hb, hl, hm, hlen, hel, hsp, hns⟩
  · exact ⟨[], ⟨by simp, by simp⟩, reads1 rfl (.nl false)⟩
  · obtain ⟨l, hll, hp⟩ := list_choose (p := fun i q => Hyp q ∧ ∀ (r : Nat) c, (enc q)[r]? = some c → ∃ y, W.cell? (a.add (i * P.cellsOf e + r)) = some y ∧ one1 y = true ∧ RepC W (fun b => b < W.heap.size) c y) len (fun i hi => by
      have h1 := hel i hi
      have h2 : elems[i]? = some elems[i] := List.getElem?_eq_getElem (by omega)
      rw [h2, Option.bind_eq_some_iff] at h1
      obtain ⟨cs', hc, ht'⟩ := h1
      obtain ⟨q, hq, hlq, hrq⟩ := he H e0 W n cs' _ ht'
      obtain ⟨c1, c2⟩ := cells_get hc
      refine ⟨q, hq, fun r c hr => ?_⟩
      have hrl := (List.getElem?_eq_some_iff.1 hr).1
      have hy : cs'[r]? = some cs'[r] := List.getElem?_eq_getElem (by omega)
      obtain ⟨o1, o2⟩ := hrq r c _ hr hy
      refine ⟨_, ?_, o1, o2⟩
      have := c2 r _ hy
      rwa [add_add] at this)
    refine ⟨l, ⟨by omega, fun q hq => ?_⟩, reads1 rfl ?_⟩
    · obtain ⟨i, hi⟩ := List.getElem?_of_mem hq
      exact (hp i q hi).1
    · have key : ∀ (j : Nat) c, (l.flatMap enc)[j]? = some c → ∃ y, W.cell? (a.add j) = some y ∧ one1 y = true ∧ RepC W (fun b => b < W.heap.size) c y := fun j c hc => by
        obtain ⟨i, r, q, rfl, _, h3, h4⟩ := flat_get hsz hc
        exact (hp i q h3).2 r c h4
      rw [hll]
      refine .sl _ len false a cap (fun j => (W.cell? (a.add j)).getD undef) (by simp) hl (fun j c hc => ?_) (fun j c hc => ?_)
      · obtain ⟨y, h1, h2, h3⟩ := key j c hc
        have := cell_lt h1
        rw [add_block] at this
        simp only [h1, Option.getD_some]
        exact ⟨this, h2, trivial⟩
      · obtain ⟨y, h1, h2, h3⟩ := key j c hc
        simp only [h1, Option.getD_some]
        exact h3

theorem opens_array {t e : TypeId} {n : Nat} {A : Type} {enc : A → List C} {Hyp : A → Prop} (ht : P.underlying t = some (.array n e)) (hc : P.cellsOf t = n * P.cellsOf e) (hsz : ∀ a, (enc a).length = P.cellsOf e) (he : Opens P e enc Hyp) :
    Opens P t (fun l : List A => l.flatMap enc) (fun l => l.length = n ∧ ∀ a ∈ l, Hyp a) := fun H e0 W fuel cs x hx => by
  obtain ⟨xs, m, _, _, hlen, hxl, hel⟩ := DataW.trod_array ht hx
  obtain ⟨l, hll, hp⟩ := list_choose (p := fun i q => Hyp q ∧ ∀ (r : Nat) c y, r < P.cellsOf e → (enc q)[r]? = some c → cs[i * P.cellsOf e + r]? = some y → one1 y = true ∧ RepC W (fun b => b < W.heap.size) c y) n (fun i hi => by
    have h1 := hel i hi
    have h2 : xs[i]? = some xs[i] := List.getElem?_eq_getElem (by omega)
    rw [h2] at h1
    obtain ⟨q, hq, hlq, hrq⟩ := he H e0 W m _ _ h1
    refine ⟨q, hq, fun r c y hr hcq hy => hrq r c y hcq ?_⟩
    rw [List.getElem?_take_of_lt hr, List.getElem?_drop]
    exact hy)
  refine ⟨l, ⟨hll, fun q hq => ?_⟩, ?_, fun j c y hj hy => ?_⟩
  · obtain ⟨i, hi⟩ := List.getElem?_of_mem hq
    exact (hp i q hi).1
  · rw [flat_len hsz, hll, hlen, hc]
  · obtain ⟨i, r, q, rfl, hr, h3, h4⟩ := flat_get hsz hj
    exact (hp i q h3).2 r c y hr h4 hy

/-! ### ready types -/
theorem flat_one {A B : Type} (g : A → B) (l : List A) : (l.flatMap fun a => [g a]) = l.map g := by
  induction l with
  | nil => rfl
  | cons a l ih => simp [ih]
theorem opens_ints {t e : TypeId} (ht : P.underlying t = some (.slice e)) (he : P.underlying e = some (.int .i64)) (hc : P.cellsOf e = 1) :
    Opens P t (fun l => [intsC l]) (fun l => l.length ≤ maxLen ∧ ∀ n ∈ l, (Lit.int .i64 n).wf = true) :=
  (opens_slice ht (by simp [hc]) (opens_int he)).conv fun l hl => ⟨l, hl, by rw [flat_one]; rfl⟩
theorem opens_rows {t e q : TypeId} (ht : P.underlying t = some (.slice e)) (he : P.underlying e = some (.slice q)) (hq : P.underlying q = some (.int .i64)) (hc : P.cellsOf q = 1) (hce : P.cellsOf e = 1) :
    Opens P t (fun l => [rowsC l]) (fun l => l.length ≤ maxLen ∧ ∀ r ∈ l, r.length ≤ maxLen ∧ ∀ n ∈ r, (Lit.int .i64 n).wf = true) :=
  (opens_slice ht (by simp [hce]) (opens_ints he hq hc)).conv fun l hl => ⟨l, hl, by rw [flat_one]; rfl⟩

theorem opens_arr2 {t e : TypeId} (ht : P.underlying t = some (.array 2 e)) (he : P.underlying e = some (.int .i64)) (hc : P.cellsOf e = 1) (hct : P.cellsOf t = 2) :
    Opens P t (fun p : Int × Int => [iC p.1, iC p.2]) (fun p => (Lit.int .i64 p.1).wf = true ∧ (Lit.int .i64 p.2).wf = true) :=
  (opens_array ht (by rw [hct, hc]) (by simp [hc]) (opens_int he)).conv fun l ⟨hl, hw⟩ => by
    match l, hl with
    | [a, b], _ => exact ⟨(a, b), ⟨hw a (by simp), hw b (by simp)⟩, rfl⟩
theorem okWide_arrN {w : World} {r : Reach} {base : Nat} {t e : TypeId} {n : Nat} {v : Value} (ht : P.underlying t = some (.array n e)) (h : Value.okWide P w r base t v) : ∃ cs, v = .agg cs ∧ cs.size = P.cellsOf t := by
  simp only [Value.okWide, ht] at h
  obtain ⟨cs, h1, h2, _⟩ := h
  exact ⟨cs, h1, h2⟩

/-! ### a law -/
/-- Where a law begins. -/
def E0 (W : World) : Env := ⟨fun b => b < W.heap.size, fun _ => 0, fun _ => 0⟩
theorem arg1 {W : World} {c : C} {v : Value} {cs : List Value} (hcs : cs = [v]) (h : Reads W [c] cs) : RepM W (E0 W) [] (.c c) v := by
  subst hcs
  exact .c (h.2 0 c v rfl rfl).2
theorem argn {W : World} {es : List C} {arr : Array Value} (h : Reads W es arr.toList) : RepM W (E0 W) [] (.agg (up es)) (.agg arr) := by
  obtain ⟨hl, hr⟩ := h
  have hl' : es.length = arr.size := by simpa using hl
  refine .agg _ arr (by simp [up, hl']) (fun j hj => ?_) (fun j hj m hm => ?_)
  · exact (hr j es[j] arr[j] (List.getElem?_eq_getElem (by omega)) (by simp [hj])).1
  · simp only [up, List.getElem?_map, Option.map_eq_some_iff] at hm
    obtain ⟨c, hc, rfl⟩ := hm
    exact .c (hr j c arr[j] hc (by simp [hj])).2
theorem law_calls {f : FuncId} {args : List M} (hok : okF P f = true) (hden : Den P f args [] fun r ob' => r = .c (bC true) ∧ ob' = []) (W : World) (vals : Array Value) (hs : vals.size = args.length)
    (hrep : ∀ (j : Nat) m, args[j]? = some m → RepM W (E0 W) [] m (vals.getD j undef)) : Calls P f vals W fun e W' => e = .returned (.bool true) ∧ RowKit.Below W.heap.size W W' := by
  have := hden W (E0 W) vals hs hrep ⟨fun i o h => by simp at h, fun i j oi oj h => by simp at h, fun b h => h, fun i o h => by simp at h⟩
  rcases this with ⟨_, this⟩ | ⟨v, w', hv, _⟩
  · refine this.mono ?_
    rintro e W' ⟨v, rfl, r, ob', E', ⟨rfl, rfl⟩, hr, hst⟩
    cases hr with
    | c hc =>
      cases hc
      exact ⟨rfl, hst.base.os, hst.base.tape, hst.base.output, hst.base.size, fun k hk => hst.base.block k hk fun ⟨i, o, h, _⟩ => by simp at h⟩
  · rw [run_callFunc hok] at hv
    simp at hv
end Go.Av
