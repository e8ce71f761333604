import Derived.Test.YtfdbbkhglohkaaaAvTO1
import Derived.Test.YtfdbbkhglohkaaaAvTH
set_option linter.unusedVariables false
set_option linter.unusedSimpArgs false
set_option maxRecDepth 100000
set_option maxHeartbeats 4000000
namespace Go.Av
open Go Go.Proofs Go.Proofs.Ytfdbbkhglohkaaa Go.RowKit
/-! ### arguments whose weights are bounded -/
def OpensW (P : Program) (t : TypeId) {A : Type} (enc : A → List C) (Hyp : A → Prop) : Prop :=
  ∀ (H : Type) (e0 : TypeId × Value → H) (W : World) (fuel : Nat) (cs : List Value) (x : DataW H × List MemPlace), (x.1.weights P t).all (· ≤ reachBytes) = true → DataW.trod e0 P W 0 (fun _ => true) true fuel t cs = some x → ∃ a, Hyp a ∧ Reads W (enc a) cs
theorem OpensW.conv {P : Program} {t : TypeId} {A B : Type} {enc : A → List C} {Hyp : A → Prop} {enc' : B → List C} {Hyp' : B → Prop} (h : OpensW P t enc Hyp) (hc : ∀ a, Hyp a → ∃ b, Hyp' b ∧ enc' b = enc a) : OpensW P t enc' Hyp' := fun H e0 W fuel cs x hw hx => by
  obtain ⟨a, ha, hr⟩ := h H e0 W fuel cs x hw hx
  obtain ⟨b, hb, he⟩ := hc a ha
  exact ⟨b, hb, by rw [he]; exact hr⟩
theorem opens_stringW {P : Program} {t : TypeId} (ht : P.underlying t = some .string) : OpensW P t (fun s : ByteArray => [.v (.string s)]) (fun s => s.size ≤ 140737488351232) := fun H e0 W fuel cs x hw hx => by
  obtain ⟨n, rfl, rfl, hw'⟩ := DataW.trod_string ht hx
  refine ⟨n, ?_, reads1 rfl (.v _)⟩
  simp only [DataW.weights, List.all_cons, List.all_nil, Bool.and_true, decide_eq_true_eq, reachBytes] at hw
  change n.data.size ≤ _
  rw [← Array.length_toList]
  exact of_decide_eq_true hw
theorem weightsAll_mem {H : Type} {P : Program} {e : TypeId} {ds : List (DataW H)} (h : (DataW.weightsAll P e ds).all (· ≤ reachBytes) = true) {d : DataW H} (hd : d ∈ ds) : (d.weights P e).all (· ≤ reachBytes) = true := by
  induction ds with
  | nil => simp at hd
  | cons a r ih =>
    simp only [DataW.weightsAll, List.all_append, Bool.and_eq_true] at h
    rcases List.mem_cons.1 hd with rfl | hd
    · exact h.1
    · exact ih h.2 hd
theorem opens_arrayW {P : Program} {t e : TypeId} {n : Nat} {A : Type} {enc : A → List C} {Hyp : A → Prop} (ht : P.underlying t = some (.array n e)) (hc : P.cellsOf t = n * P.cellsOf e) (hsz : ∀ a, (enc a).length = P.cellsOf e) (he : OpensW P e enc Hyp) :
    OpensW P t (fun l : List A => l.flatMap enc) (fun l => l.length = n ∧ ∀ a ∈ l, Hyp a) := fun H e0 W fuel cs x hw hx => by
  obtain ⟨xs, m, _, hxe, hlen, hxl, hel⟩ := DataW.trod_array ht hx
  rw [hxe] at hw
  simp only [DataW.weights, ht] at hw
  obtain ⟨l, hll, hp⟩ := list_choose (p := fun i q => Hyp q ∧ ∀ (r : Nat) c y, r < P.cellsOf e → (enc q)[r]? = some c → cs[i * P.cellsOf e + r]? = some y → one1 y = true ∧ RepC W (fun b => b < W.heap.size) c y) n (fun i hi => by
    have h1 := hel i hi
    have h2 : xs[i]? = some xs[i] := List.getElem?_eq_getElem (by omega)
    rw [h2] at h1
    obtain ⟨q, hq, hlq, hrq⟩ := he H e0 W m _ _ (weightsAll_mem hw (List.mem_map_of_mem (List.getElem_mem _))) h1
    refine ⟨q, hq, fun r c y hr hcq hy => hrq r c y hcq ?_⟩
    rw [List.getElem?_take_of_lt hr, List.getElem?_drop]
    exact hy)
  refine ⟨l, ⟨hll, fun q hq => ?_⟩, ?_, fun j c y hj hy => ?_⟩
  · obtain ⟨i, hi⟩ := List.getElem?_of_mem hq
    exact (hp i q hi).1
  · rw [flat_len hsz, hll, hlen, hc]
  · obtain ⟨i, r, q, rfl, hr, h3, h4⟩ := flat_get hsz hj
    exact (hp i q h3).2 r c y hr h4 hy
theorem opens_str2W {P : Program} {t e : TypeId} (ht : P.underlying t = some (.array 2 e)) (he : P.underlying e = some .string) (hc : P.cellsOf e = 1) (hct : P.cellsOf t = 2) :
    OpensW P t (fun p : ByteArray × ByteArray => [.v (.string p.1), .v (.string p.2)]) (fun p => p.1.size ≤ 140737488351232 ∧ p.2.size ≤ 140737488351232) :=
  (opens_arrayW ht (by rw [hct, hc]) (by simp [hc]) (opens_stringW he)).conv fun l ⟨hl, hw⟩ => by
    match l, hl with
    | [a, b], _ => exact ⟨(a, b), ⟨hw a (by simp), hw b (by simp)⟩, rfl⟩
/-! ### hashes -/
abbrev H32 := {l : List UInt8 // l.length = 32}
theorem opens_hash {P : Program} {t e : TypeId} (ht : P.underlying t = some (.array 32 e)) (he : P.underlying e = some (.int .u8)) (hc : P.cellsOf e = 1) (hct : P.cellsOf t = 32) :
    Opens P t (fun h : H32 => h.1.map bC8) (fun _ => True) :=
  (opens_array ht (by rw [hct, hc]) (by simp [hc]) (opens_int he)).conv fun l ⟨hl, hw⟩ => by
    refine ⟨⟨l.map fun n => UInt8.ofNat n.toNat, by simp [hl]⟩, trivial, ?_⟩
    have key : ∀ l' : List Int, (∀ n ∈ l', (Lit.int .u8 n).wf = true) → (l'.map fun n => UInt8.ofNat n.toNat).map bC8 = l'.flatMap fun n => [C.v (.int .u8 n)] := fun l' => by
      induction l' with
      | nil => intro _; rfl
      | cons n r ih =>
        intro hw
        have h : 0 ≤ n ∧ n ≤ 255 := by simpa [Lit.wf, IntKind.min, IntKind.max, IntKind.signed, IntKind.bits] using hw n (by simp)
        simp only [List.map_cons, List.flatMap_cons]
        rw [ih fun x hx => hw x (by simp [hx])]
        simp only [List.singleton_append, bC8, UInt8.toNat_ofNat']
        congr 4
        omega
    exact key l hw
theorem opens_hash2 {P : Program} {t e b : TypeId} (ht : P.underlying t = some (.array 2 e)) (he : P.underlying e = some (.array 32 b)) (hb : P.underlying b = some (.int .u8)) (hc : P.cellsOf b = 1) (hce : P.cellsOf e = 32) (hct : P.cellsOf t = 64) :
    Opens P t (fun p : H32 × H32 => p.1.1.map bC8 ++ p.2.1.map bC8) (fun _ => True) :=
  (opens_array ht (by rw [hct, hce]) (fun a => by rw [hce, List.length_map]; exact a.2) (opens_hash he hb hc hce)).conv fun l ⟨hl, hw⟩ => by
    match l, hl with
    | [a, b], _ => exact ⟨(a, b), trivial, by simp⟩
theorem opens_hash4 {P : Program} {t e b : TypeId} (ht : P.underlying t = some (.array 4 e)) (he : P.underlying e = some (.array 32 b)) (hb : P.underlying b = some (.int .u8)) (hc : P.cellsOf b = 1) (hce : P.cellsOf e = 32) (hct : P.cellsOf t = 128) :
    Opens P t (fun p : H32 × H32 × H32 × H32 => p.1.1.map bC8 ++ (p.2.1.1.map bC8 ++ (p.2.2.1.1.map bC8 ++ p.2.2.2.1.map bC8))) (fun _ => True) :=
  (opens_array ht (by rw [hct, hce]) (fun a => by rw [hce, List.length_map]; exact a.2) (opens_hash he hb hc hce)).conv fun l ⟨hl, hw⟩ => by
    match l, hl with
    | [a, b, c, d], _ => exact ⟨(a, b, c, d), trivial, by simp⟩
theorem opens_u642 {P : Program} {t e : TypeId} (ht : P.underlying t = some (.array 2 e)) (he : P.underlying e = some (.int .u64)) (hc : P.cellsOf e = 1) (hct : P.cellsOf t = 2) :
    Opens P t (fun p : Nat × Nat => [u64C p.1, u64C p.2]) (fun p => p.1 < 18446744073709551616 ∧ p.2 < 18446744073709551616) :=
  (opens_array ht (by rw [hct, hc]) (by simp [hc]) (opens_u64 he)).conv fun l ⟨hl, hw⟩ => by
    match l, hl with
    | [a, b], _ => exact ⟨(a, b), ⟨hw a (by simp), hw b (by simp)⟩, rfl⟩
end Go.Av
