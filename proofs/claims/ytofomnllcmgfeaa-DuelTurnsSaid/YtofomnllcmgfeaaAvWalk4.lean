/- 30 texts of the program logic over abstract values, joined: each is proved without any condition beyond its own words. -/
import Derived.Test.YtofomnllcmgfeaaAvWalk1
import Derived.Test.YtofomnllcmgfeaaAvWalk3
import Derived.Test.YtofomnllcmgfeaaAvShelf
import Derived.Test.YtofomnllcmgfeaaAvEngine3
import Derived.Test.YtofomnllcmgfeaaAvEngine2
import Derived.Test.YtofomnllcmgfeaaAvWalk2
set_option exponentiation.threshold 1000
set_option linter.unusedVariables false
set_option linter.unusedSimpArgs false
set_option maxRecDepth 100000
set_option maxHeartbeats 4000000
namespace Go.Av
open Go Go.Proofs Go.Proofs.Ytofomnllcmgfeaa Go.RowKit
def joinS (xs : List ByteArray) (sep : ByteArray) : List UInt8 := Lib.join (xs.map (·.data.toList)) sep.data.toList
theorem ba_ext {a b : ByteArray} (h : a.data.toList = b.data.toList) : a = b := by
  obtain ⟨a⟩ := a
  obtain ⟨b⟩ := b
  simp only [ByteArray.mk.injEq]
  exact Array.toList_inj.1 h
theorem hash_take (l : List UInt8) (h : l.length = 32) : (l.map bC8).take 32 = l.map bC8 := List.take_of_length_le (by simp [h])
theorem eq_hash1 (l : List UInt8) (h : l.length = 32) : eqM (List.replicate 32 0) (up (l.map bC8)) (up (l.map bC8)) = some true := by rw [eq_hash l l h h]; simp
end Go.Av

set_option exponentiation.threshold 1000
set_option linter.unusedVariables false
set_option linter.unusedSimpArgs false
set_option maxRecDepth 100000
set_option maxHeartbeats 4000000
namespace Go.Av
open Go Go.Proofs Go.Proofs.Ytofomnllcmgfeaa Go.RowKit
def leafT (s : ByteArray) : List UInt8 := 0 :: s.data.toList
def headT (s : ByteArray) : List UInt8 := 3 :: s.data.toList
def nodeT (a b : List UInt8) : List UInt8 := 1 :: (a ++ b)
def rootT (n : Nat) (a : List UInt8) : List UInt8 := 2 :: (putN n 8 ++ a)
end Go.Av

set_option exponentiation.threshold 1000
set_option linter.unusedVariables false
set_option linter.unusedSimpArgs false
set_option maxRecDepth 100000
set_option maxHeartbeats 4000000
namespace Go.Av
open Go Go.Proofs Go.Proofs.Ytofomnllcmgfeaa Go.RowKit
/-! ### bytes as words -/
def u32C (n : Nat) : C := .v (.int .u32 (n : Int))
def byteI (b : ByteArray) (at_ : Int) (i : Nat) : Nat := if 0 ≤ at_ ∧ at_ + i < b.size then (b.data.toList.getD (at_ + i).toNat 0).toNat else 0
def takeN (b : ByteArray) (at_ : Int) : Nat → Nat
  | 0 => 0
  | n + 1 => takeN b at_ n * 256 + byteI b at_ n
end Go.Av

set_option exponentiation.threshold 1000
set_option linter.unusedVariables false
set_option linter.unusedSimpArgs false
set_option maxRecDepth 100000
set_option maxHeartbeats 4000000
namespace Go.Av
open Go Go.Proofs Go.Proofs.Ytofomnllcmgfeaa Go.RowKit
/-! ### sha: words -/
abbrev W := BitVec 32
def rotr (x : W) (n : Nat) : W := (x >>> n) ||| (x <<< (32 - n))
def g0 (x : W) : W := rotr x 7 ^^^ rotr x 18 ^^^ (x >>> 3)
def g1 (x : W) : W := rotr x 17 ^^^ rotr x 19 ^^^ (x >>> 10)
def spStep (b : ByteArray) (l : List W) : W :=
  if l.length < 16 then BitVec.ofNat 32 (takeN b (4 * l.length : Nat) 4) else l.getD (l.length - 16) 0 + g0 (l.getD (l.length - 15) 0) + l.getD (l.length - 7) 0 + g1 (l.getD (l.length - 2) 0)
def spTo (b : ByteArray) : Nat → List W
  | 0 => []
  | n + 1 => spTo b n ++ [spStep b (spTo b n)]
def spread (b : ByteArray) : List W := spTo b 64
/-- The row as it is filled. -/
def spRow (b : ByteArray) (i : Nat) : List C := ((spTo b i) ++ List.replicate (64 - i) 0).map wC
end Go.Av

set_option exponentiation.threshold 1000
set_option linter.unusedVariables false
set_option linter.unusedSimpArgs false
set_option maxRecDepth 100000
set_option maxHeartbeats 4000000
namespace Go.Av
open Go Go.Proofs Go.Proofs.Ytofomnllcmgfeaa Go.RowKit
/-! ### sha: a block laid into eight words -/
def kK : List W := [1116352408, 1899447441, 3049323471, 3921009573, 961987163, 1508970993, 2453635748, 2870763221, 3624381080, 310598401, 607225278, 1426881987, 1925078388, 2162078206, 2614888103, 3248222580, 3835390401, 4022224774, 264347078, 604807628, 770255983, 1249150122, 1555081692, 1996064986, 2554220882, 2821834349, 2952996808, 3210313671, 3336571891, 3584528711, 113926993, 338241895, 666307205, 773529912, 1294757372, 1396182291, 1695183700, 1986661051, 2177026350, 2456956037, 2730485921, 2820302411, 3259730800, 3345764771, 3516065817, 3600352804, 4094571909, 275423344, 430227734, 506948616, 659060556, 883997877, 958139571, 1322822218, 1537002063, 1747873779, 1955562222, 2024104815, 2227730452, 2361852424, 2428436474, 2756734187, 3204031479, 3329325298]
/-- Eight words. -/
structure S8 where
  (a b c d e f g h : W)
def S8.l (s : S8) : List W := [s.a, s.b, s.c, s.d, s.e, s.f, s.g, s.h]
def S8.add (s t : S8) : S8 := ⟨s.a + t.a, s.b + t.b, s.c + t.c, s.d + t.d, s.e + t.e, s.f + t.f, s.g + t.g, s.h + t.h⟩
def S8.t1 (s : S8) (k w : W) : W := s.h + (rotr s.e 6 ^^^ rotr s.e 11 ^^^ rotr s.e 25) + ((s.e &&& s.f) ^^^ (~~~ s.e &&& s.g)) + k + w
def S8.t2 (s : S8) : W := rotr s.a 2 ^^^ rotr s.a 13 ^^^ rotr s.a 22
def S8.t3 (s : S8) : W := (s.a &&& s.b) ^^^ (s.a &&& s.c) ^^^ (s.b &&& s.c)
def S8.step (s : S8) (k w : W) : S8 := ⟨s.t1 k w + s.t2 + s.t3, s.a, s.b, s.c, s.d + s.t1 k w, s.e, s.f, s.g⟩
def mixTo (ws : List W) (s : S8) : Nat → S8
  | 0 => s
  | n + 1 => (mixTo ws s n).step (kK.getD n 0) (ws.getD n 0)
def mix (s : S8) (b : ByteArray) : S8 := s.add (mixTo (spread b) s 64)
def s8M (s : S8) : M := .agg (up (s.l.map wC))
/-- Words moved one place on, from the end. -/
def shl8 (l : List W) (i : Nat) : List W := l.take (8 - i) ++ (l.drop (7 - i)).take i
end Go.Av

set_option exponentiation.threshold 1000
set_option linter.unusedVariables false
set_option linter.unusedSimpArgs false
set_option maxRecDepth 100000
set_option maxHeartbeats 4000000
namespace Go.Av
open Go Go.Proofs Go.Proofs.Ytofomnllcmgfeaa Go.RowKit
/-! ### strings.Join, strings.Repeat -/
def zerosB (n : Nat) : List UInt8 := List.replicate n 0
/-! ### sha: what stands behind -/
def padL (n : Nat) : List UInt8 := 128 :: (zerosB ((119 - n % 64) % 64) ++ putN (8 * n % 18446744073709551616) 8)
end Go.Av

set_option exponentiation.threshold 1000
set_option linter.unusedVariables false
set_option linter.unusedSimpArgs false
set_option maxRecDepth 100000
set_option maxHeartbeats 4000000
namespace Go.Av
open Go Go.Proofs Go.Proofs.Ytofomnllcmgfeaa Go.RowKit
/-! ### sha: a State -/
def firstS : S8 := ⟨0x6a09e667, 0xbb67ae85, 0x3c6ef372, 0xa54ff53a, 0x510e527f, 0x9b05688c, 0x1f83d9ab, 0x5be0cd19⟩
def blk (t : ByteArray) (i : Nat) : ByteArray := t.extract (64 * i) (64 * i + 64)
def blocksTo (s : S8) (t : ByteArray) : Nat → S8
  | 0 => s
  | i + 1 => mix (blocksTo s t i) (blk t i)
/-- A State's cells. -/
def stC (s : S8) (rest : ByteArray) (n : Nat) (on : Bool) : List C := [wC s.a, wC s.b, wC s.c, wC s.d, wC s.e, wC s.f, wC s.g, wC s.h, .v (.string rest), u64C n, bC on]
def stO (s : S8) (rest : ByteArray) (n : Nat) (on : Bool) : Ob := ⟨171, 11, false, 0, up (stC s rest n on), none⟩
def wS (s : S8) (on : Bool) : S8 := if on then s else firstS
/-- Words as bytes. -/
def wBytes (l : List W) : List UInt8 := l.flatMap fun x => putN x.toNat 4
/-- What comes of a State. -/
def sumS (s : S8) (rest : ByteArray) (n : Nat) (on : Bool) : List UInt8 := wBytes (blocksTo (wS s on) (rest ++ bsS (padL n)) ((rest ++ bsS (padL n)).size / 64)).l
theorem wBytes_len (l : List W) : (wBytes l).length = 4 * l.length := by
  induction l with
  | nil => rfl
  | cons x r ih => simp only [wBytes, List.flatMap_cons, List.length_append, putN_len, List.length_cons] at *; omega
/-- The sum as it is filled. -/
def outTo (l : List W) (i : Nat) : List C := (wBytes (l.take i)).map bC8 ++ List.replicate (32 - 4 * i) (bC8 0)
end Go.Av

set_option exponentiation.threshold 1000
set_option linter.unusedVariables false
set_option linter.unusedSimpArgs false
set_option maxRecDepth 100000
set_option maxHeartbeats 4000000
namespace Go.Av
open Go Go.Proofs Go.Proofs.Ytofomnllcmgfeaa Go.RowKit
def restOf (t : ByteArray) : ByteArray := t.extract (64 * (t.size / 64)) t.size
/-- A State that a text came to. -/
def stT (t : ByteArray) : Ob := stO (blocksTo firstS t (t.size / 64)) (restOf t) t.size true
def st0 : Ob := stO ⟨0, 0, 0, 0, 0, 0, 0, 0⟩ ⟨#[]⟩ 0 false
/-- The sum of a text. -/
def shaL (t : ByteArray) : List UInt8 := wBytes (blocksTo firstS (t ++ bsS (padL t.size)) ((t ++ bsS (padL t.size)).size / 64)).l
end Go.Av

set_option exponentiation.threshold 1000
set_option linter.unusedVariables false
set_option linter.unusedSimpArgs false
set_option maxRecDepth 100000
set_option maxHeartbeats 4000000
namespace Go.Av
open Go Go.Proofs Go.Proofs.Ytofomnllcmgfeaa Go.RowKit
/-- The sum as it is filled, byte by byte. -/
def outTo2 (l : List W) (j : Nat) (p : List UInt8) (q : Nat) : List C := (wBytes (l.take j) ++ p.take q).map bC8 ++ List.replicate (32 - 4 * j - q) (bC8 0)
end Go.Av

set_option exponentiation.threshold 1000
set_option linter.unusedVariables false
set_option linter.unusedSimpArgs false
set_option maxRecDepth 100000
set_option maxHeartbeats 4000000
namespace Go.Av
open Go Go.Proofs Go.Proofs.Ytofomnllcmgfeaa Go.RowKit
theorem shaL_len (t : ByteArray) : (shaL t).length = 32 := wBytes_len _
def primes8 : List Nat := [2, 3, 5, 7, 11, 13, 17, 19]
end Go.Av

set_option exponentiation.threshold 1000
set_option linter.unusedVariables false
set_option linter.unusedSimpArgs false
set_option maxRecDepth 100000
set_option maxHeartbeats 4000000
namespace Go.Av
open Go Go.Proofs Go.Proofs.Ytofomnllcmgfeaa Go.RowKit
/-! ### arguments whose weights are bounded -/
def OpensW (P : Program) (t : TypeId) {A : Type} (enc : A → List C) (Hyp : A → Prop) : Prop :=
  ∀ (H : Type) (e0 : TypeId × Value → H) (W : World) (fuel : Nat) (cs : List Value) (x : DataW H × List MemPlace), (x.1.weights P t).all (· ≤ reachBytes) = true → DataW.trod e0 P W 0 (fun _ => true) true fuel t cs = some x → ∃ a, Hyp a ∧ Reads W (enc a) cs
theorem OpensW.conv {P : Program} {t : TypeId} {A B : Type} {enc : A → List C} {Hyp : A → Prop} {enc' : B → List C} {Hyp' : B → Prop} (h : OpensW P t enc Hyp) (hc : ∀ a, Hyp a → ∃ b, Hyp' b ∧ enc' b = enc a) : OpensW P t enc' Hyp' := fun H e0 W fuel cs x hw hx => by
  obtain ⟨a, ha, hr⟩ := h H e0 W fuel cs x hw hx
  obtain ⟨b, hb, he⟩ := hc a ha
  exact ⟨b, hb, by rw [he]; exact hr⟩
/-! ### hashes -/
abbrev H32 := {l : List UInt8 // l.length = 32}
theorem opens_hash {P : Program} {t e : TypeId} (ht : P.underlying t = some (.array 32 e)) (he : P.underlying e = some (.int .u8)) (hc : P.cellsOf e = 1) (hct : P.cellsOf t = 32) :
    Opens P t (fun h : H32 => h.1.map bC8) (fun _ => True) :=
  (opens_array ht (by rw [hct, hc]) (by simp [hc]) (opens_int he)).conv fun l ⟨hl, hw⟩ => by
    refine ⟨⟨l.map fun n => UInt8.ofNat n.toNat, by simp [hl]⟩, trivial, ?_⟩
    have key : ∀ l' : List Int, (∀ n ∈ l', (Lit.int .u8 n).wf = true) → (l'.map fun n => UInt8.ofNat n.toNat).map bC8 = l'.flatMap fun n => [C.v (.int .u8 n)] := fun l' => by
      induction l' with
      | nil => intro _; rfl
      | cons n r ih =>
        intro hw
        have h : 0 ≤ n ∧ n ≤ 255 := by simpa [Lit.wf, IntKind.min, IntKind.max, IntKind.signed, IntKind.bits] using hw n (by simp)
        simp only [List.map_cons, List.flatMap_cons]
        rw [ih fun x hx => hw x (by simp [hx])]
        simp only [List.singleton_append, bC8, UInt8.toNat_ofNat']
        congr 4
        omega
    exact key l hw
end Go.Av

set_option exponentiation.threshold 1000
set_option linter.unusedVariables false
set_option linter.unusedSimpArgs false
set_option maxRecDepth 100000
set_option maxHeartbeats 4000000
namespace Go.Av
open Go Go.Proofs Go.Proofs.Ytofomnllcmgfeaa Go.RowKit
end Go.Av

set_option exponentiation.threshold 1000
set_option linter.unusedVariables false
set_option linter.unusedSimpArgs false
set_option maxRecDepth 100000
set_option maxHeartbeats 4000000
namespace Go.Av
open Go Go.Proofs Go.Proofs.Ytofomnllcmgfeaa Go.RowKit
end Go.Av

set_option exponentiation.threshold 1000
set_option linter.unusedVariables false
set_option linter.unusedSimpArgs false
set_option maxRecDepth 100000
set_option maxHeartbeats 4000000
namespace Go.Av
open Go Go.Proofs Go.Proofs.Ytofomnllcmgfeaa Go.RowKit
theorem data_inj (a b : ByteArray) : a.data.toList = b.data.toList ↔ a = b := ⟨ba_ext, fun h => by rw [h]⟩
def textAt (s : ByteArray) (a b : List UInt8) (n : Nat) : List (List UInt8) := [leafT s, nodeT a b, rootT n a, headT s]
def sameAt (s t : ByteArray) (a b c d : List UInt8) (n m : Nat) : List Bool := [decide (s = t), decide (a = c) && decide (b = d), decide (n = m) && decide (a = c), decide (s = t)]
theorem toList_inj (x y : ByteArray) : x.toList = y.toList ↔ x = y := by rw [toList_data, toList_data]; exact data_inj x y
end Go.Av

set_option exponentiation.threshold 1000
set_option linter.unusedVariables false
set_option linter.unusedSimpArgs false
set_option maxRecDepth 100000
set_option maxHeartbeats 4000000
namespace Go.Av
open Go Go.Proofs Go.Proofs.Ytofomnllcmgfeaa Go.RowKit
/-! ### headers -/
structure HD where
  v : Nat
  a : H32
  b : H32
  n : Nat
def u32v (n : Nat) : C := .v (.int .u32 (n : Int))
def hdC (h : HD) : List C := u32v h.v :: (h.a.1.map bC8 ++ (h.b.1.map bC8 ++ [u64C h.n]))
def HDok (h : HD) : Prop := h.v < 4294967296 ∧ h.n < 18446744073709551616
def hdL (h : HD) : List UInt8 := putN h.v 4 ++ (h.a.1 ++ (h.b.1 ++ putN h.n 8))
def hdM (h : HD) : M := .agg (up (hdC h))
end Go.Av

set_option exponentiation.threshold 1000
set_option linter.unusedVariables false
set_option linter.unusedSimpArgs false
set_option maxRecDepth 100000
set_option maxHeartbeats 4000000
namespace Go.Av
open Go Go.Proofs Go.Proofs.Ytofomnllcmgfeaa Go.RowKit
/-! ### ident -/
def idL (h : HD) : List UInt8 := shaL (bsS (3 :: hdL h))
/-! ### lists of hashes -/
def hsC (l : List H32) : List C := l.flatMap fun h => h.1.map bC8
theorem hsC_len (l : List H32) : (hsC l).length = 32 * l.length := by
  have := flat_len (f := fun h : H32 => h.1.map bC8) (sz := 32) (fun h => by simp [h.2]) l
  unfold hsC
  omega
theorem flat_take {A B : Type} {f : A → List B} {sz : Nat} (hf : ∀ a, (f a).length = sz) (l : List A) : ∀ (i : Nat) (a : A), l[i]? = some a → ((l.flatMap f).drop (i * sz)).take sz = f a := by
  induction l with
  | nil => intro i a h; simp at h
  | cons x l ih =>
    intro i a h
    simp only [List.flatMap_cons]
    cases i with
    | zero =>
      simp at h
      subst h
      rw [Nat.zero_mul, List.drop_zero, List.take_append_of_le_length (by rw [hf]; exact Nat.le_refl _), List.take_of_length_le (by rw [hf]; exact Nat.le_refl _)]
    | succ i =>
      have hx := hf x
      rw [Nat.add_mul, Nat.one_mul, Nat.add_comm (i * sz) sz, ← List.drop_drop, List.drop_left' hx]
      exact ih i a (by simpa using h)
theorem hsC_at (l : List H32) (i : Nat) (h : H32) (hi : l[i]? = some h) : ((hsC l).drop (i * 32)).take 32 = h.1.map bC8 := flat_take (fun h => by simp [h.2]) l i h hi
def fstI : List H32 → List UInt8 → Nat → Int
  | [], _, _ => -1
  | x :: r, id, k => if x.1 = id then (k : Int) else fstI r id (k + 1)
theorem fstI_step (l : List H32) (id : List UInt8) (i : Nat) (h : H32) (hi : l[i]? = some h) : fstI (l.drop i) id i = if h.1 = id then (i : Int) else fstI (l.drop (i + 1)) id (i + 1) := by
  obtain ⟨hlt, rfl⟩ := List.getElem?_eq_some_iff.1 hi
  rw [List.drop_eq_getElem_cons hlt]
  rfl
set_option maxHeartbeats 2000000 in
theorem identFirst_den (l : List H32) (id : List UInt8) (hid : id.length = 32) (n : Nat) (full : Bool) (hn : l.length = n) (hN : n ≤ 1000000) :
    DenV Try.prog 81 [.c (.sl (hsC l) n full), hashM id] (.c (iC (fstI l id 0))) := by
  refine Den.frame (by simp [ltBs, ltB, lt_hash]) rfl ?_
  have hlen := hsC_len l
  have hat := hsC_at l
  have hst := fstI_step l id
  have t1 := hash_take id hid
  subst hn
  obtain ⟨res, hres⟩ : ∃ r, r = fstI l id 0 := ⟨_, rfl⟩
  rw [← hres]
  generalize hsC l = cs at *
  refine den_of Try.func81 rfl rfl (by simp [Try.ntmps81]) (fun X hX hO => ?_)
  rw [Try.ntmps81] at hX
  simp only [Try.results81]
  repeat' (first 
   | (with_reducible first | refine awp_scope ?_ | refine awp_seq ?_ | refine awp_block ?_)
   | ((with_reducible first | refine awp_label ?_ | refine awp_skip ?_); try simp only [thenA, inBlockA, noGotoA])
   | (with_reducible refine awp_exit ?_; simp only [thenA, inBlockA, noGotoA, if_true, Nat.reduceEqDiff, if_false, ↓reduceIte])
   | (with_reducible refine awp_ret ?_; (try simp only [thenA, inBlockA, noGotoA]); (try simp [-List.reduceReplicate, Nat.add_one_le_iff, -getElem?_pos, -getElem?_neg, List.getElem?_cons_zero, List.getElem?_cons_succ, hashM, hid, t1]))
   | ((with_reducible first | refine awp_reg 19 hX [0, 3, 4, 5, 6, 7, 8, 9, 10, 16] ?_ | change postOf _ _ _ _ _); simp [-List.reduceReplicate, Nat.add_one_le_iff, -getElem?_pos, -getElem?_neg, List.getElem?_cons_zero, List.getElem?_cons_succ, hashM, hid, t1])
   | (with_reducible refine awp_if_b rfl (fun hc => ?_) (fun hc => ?_) <;> (try simp [-getElem?_pos, -getElem?_neg] at hc) <;> (try (exfalso; omega)))
   | ((with_reducible first | refine GuardK_b (fun hc => ?_) (fun hc => ?_)) <;> (try simp only [Bool.not_eq_true', Bool.not_eq_false', decide_eq_true_eq, decide_eq_false_iff_not] at hc) <;> (first | (exfalso; omega) | skip) <;> simp [-List.reduceReplicate, Nat.add_one_le_iff, -getElem?_pos, -getElem?_neg, List.getElem?_cons_zero, List.getElem?_cons_succ, hashM, hid, t1, hc])
   | ((with_reducible first | refine hother _ _ rfl ?_); simp only [inBlockA, thenA, noGotoA, Nat.reduceEqDiff, if_false, if_true, ↓reduceIte])
   | (with_reducible refine And.intro (by omega) ?_)
   | fail)
  refine awp_forU [3, 7, 8, 9] (fun i (g : List Ob) => [(9, .c (iC i))]) (fun i (g : List Ob) => ⟨71, 1, false, 0, up (id.map bC8), none⟩ :: g) (fun i (g : List Ob) => (fstI (l.drop i) id i = res)) (l.length) ([]) ((by rw [hres]; rfl)) (by simp [-List.reduceReplicate, keep, iC, bC8]) (by simp [-List.reduceReplicate, iC, bC8]) ?_
  rintro i g Q1 hi hH next hother
  conv => arg 5; arg 1; simp only [List.cons_append, List.nil_append, keep, get, Nat.reduceEqDiff, if_true, if_false, ↓reduceIte]
  have hwi := wrap_in ((i : Int) + 1) (by omega)
  by_cases hlt : i < l.length
  · obtain ⟨h, hh⟩ : ∃ h, l[i]? = some h := ⟨_, List.getElem?_eq_getElem hlt⟩
    have ha := hat i h hh
    have hs := hst i h hh
    have hl2 := h.2
    have he := eq_hash h.1 id hl2 hid
    have t2 := hash_take h.1 hl2
    have hb : 32 ≤ cs.length - i * 32 := by omega
    have hb2 : i * 32 + 32 ≤ cs.length := by omega
    by_cases heq : h.1 = id
    · rw [if_pos heq] at hs
      have he1 := eq_hash1 id hid
      have hr : res = (i : Int) := by rw [← hH, hs]
      repeat' (first 
       | (with_reducible first | refine awp_scope ?_ | refine awp_seq ?_ | refine awp_block ?_)
       | ((with_reducible first | refine awp_label ?_ | refine awp_skip ?_); try simp only [thenA, inBlockA, noGotoA])
       | (with_reducible refine awp_exit ?_; simp only [thenA, inBlockA, noGotoA, if_true, Nat.reduceEqDiff, if_false, ↓reduceIte])
       | (with_reducible refine awp_ret ?_; (try simp only [thenA, inBlockA, noGotoA]); (try simp [-List.reduceReplicate, Nat.add_one_le_iff, -getElem?_pos, -getElem?_neg, List.getElem?_cons_zero, List.getElem?_cons_succ, iC, hlt, hwi, ha, hl2, he, he1, heq, t2, hb, hb2, hid, t1, hr]))
       | ((with_reducible first | refine awp_reg 19 hX [0, 3, 4, 5, 6, 7, 8, 9, 10, 16] ?_ | change postOf _ _ _ _ _); simp [-List.reduceReplicate, Nat.add_one_le_iff, -getElem?_pos, -getElem?_neg, List.getElem?_cons_zero, List.getElem?_cons_succ, iC, hlt, hwi, ha, hl2, he, he1, heq, t2, hb, hb2, hid, t1, hr])
       | (with_reducible refine awp_if_b rfl (fun hc => ?_) (fun hc => ?_) <;> (try simp [-getElem?_pos, -getElem?_neg] at hc) <;> (try (exfalso; omega)))
       | ((with_reducible first | refine GuardK_b (fun hc => ?_) (fun hc => ?_)) <;> (try simp only [Bool.not_eq_true', Bool.not_eq_false', decide_eq_true_eq, decide_eq_false_iff_not] at hc) <;> (first | (exfalso; omega) | skip) <;> simp [-List.reduceReplicate, Nat.add_one_le_iff, -getElem?_pos, -getElem?_neg, List.getElem?_cons_zero, List.getElem?_cons_succ, iC, hlt, hwi, ha, hl2, he, he1, heq, t2, hb, hb2, hid, t1, hr, hc])
       | ((with_reducible first | refine hother _ _ rfl ?_); simp only [inBlockA, thenA, noGotoA, Nat.reduceEqDiff, if_false, if_true, ↓reduceIte])
       | (with_reducible refine And.intro (by omega) ?_)
       | fail)
    · rw [if_neg heq] at hs
      have hH' : fstI (l.drop (i + 1)) id (i + 1) = res := by rw [← hs]; exact hH
      repeat' (first 
       | (with_reducible first | refine awp_scope ?_ | refine awp_seq ?_ | refine awp_block ?_)
       | ((with_reducible first | refine awp_label ?_ | refine awp_skip ?_); try simp only [thenA, inBlockA, noGotoA])
       | (with_reducible refine awp_exit ?_; simp only [thenA, inBlockA, noGotoA, if_true, Nat.reduceEqDiff, if_false, ↓reduceIte])
       | (with_reducible refine awp_ret ?_; (try simp only [thenA, inBlockA, noGotoA]); (try simp [-List.reduceReplicate, Nat.add_one_le_iff, -getElem?_pos, -getElem?_neg, List.getElem?_cons_zero, List.getElem?_cons_succ, iC, hlt, hwi, ha, hl2, he, heq, t2, hb, hb2, hid, t1]))
       | ((with_reducible first | refine awp_reg 19 hX [0, 3, 4, 5, 6, 7, 8, 9, 10, 16] ?_ | change postOf _ _ _ _ _); simp [-List.reduceReplicate, Nat.add_one_le_iff, -getElem?_pos, -getElem?_neg, List.getElem?_cons_zero, List.getElem?_cons_succ, iC, hlt, hwi, ha, hl2, he, heq, t2, hb, hb2, hid, t1])
       | (with_reducible refine awp_if_b rfl (fun hc => ?_) (fun hc => ?_) <;> (try simp [-getElem?_pos, -getElem?_neg] at hc) <;> (try (exfalso; omega)))
       | ((with_reducible first | refine GuardK_b (fun hc => ?_) (fun hc => ?_)) <;> (try simp only [Bool.not_eq_true', Bool.not_eq_false', decide_eq_true_eq, decide_eq_false_iff_not] at hc) <;> (first | (exfalso; omega) | skip) <;> simp [-List.reduceReplicate, Nat.add_one_le_iff, -getElem?_pos, -getElem?_neg, List.getElem?_cons_zero, List.getElem?_cons_succ, iC, hlt, hwi, ha, hl2, he, heq, t2, hb, hb2, hid, t1, hc])
       | ((with_reducible first | refine hother _ _ rfl ?_); simp only [inBlockA, thenA, noGotoA, Nat.reduceEqDiff, if_false, if_true, ↓reduceIte])
       | (with_reducible refine And.intro (by omega) ?_)
       | fail)
      refine next _ _ ((g ++ [⟨71, 1, false, 0, up (h.1.map bC8), none⟩])) (by omega) (by first | trivial | omega | assumption) (by simp [-List.reduceReplicate, keep, iC]) (by simp [-List.reduceReplicate, iC])
  · have hi2 : i = l.length := by omega
    have hr : res = -1 := by rw [← hH, hi2, List.drop_length]; rfl
    repeat' (first 
     | (with_reducible first | refine awp_scope ?_ | refine awp_seq ?_ | refine awp_block ?_)
     | ((with_reducible first | refine awp_label ?_ | refine awp_skip ?_); try simp only [thenA, inBlockA, noGotoA])
     | (with_reducible refine awp_exit ?_; simp only [thenA, inBlockA, noGotoA, if_true, Nat.reduceEqDiff, if_false, ↓reduceIte])
     | (with_reducible refine awp_ret ?_; (try simp only [thenA, inBlockA, noGotoA]); (try simp [-List.reduceReplicate, Nat.add_one_le_iff, -getElem?_pos, -getElem?_neg, List.getElem?_cons_zero, List.getElem?_cons_succ, iC, hlt, hr]))
     | ((with_reducible first | refine awp_reg 19 hX [0, 3, 4, 5, 6, 7, 8, 9, 10, 16] ?_ | change postOf _ _ _ _ _); simp [-List.reduceReplicate, Nat.add_one_le_iff, -getElem?_pos, -getElem?_neg, List.getElem?_cons_zero, List.getElem?_cons_succ, iC, hlt, hr])
     | (with_reducible refine awp_if_b rfl (fun hc => ?_) (fun hc => ?_) <;> (try simp [-getElem?_pos, -getElem?_neg] at hc) <;> (try (exfalso; omega)))
     | ((with_reducible first | refine GuardK_b (fun hc => ?_) (fun hc => ?_)) <;> (try simp only [Bool.not_eq_true', Bool.not_eq_false', decide_eq_true_eq, decide_eq_false_iff_not] at hc) <;> (first | (exfalso; omega) | skip) <;> simp [-List.reduceReplicate, Nat.add_one_le_iff, -getElem?_pos, -getElem?_neg, List.getElem?_cons_zero, List.getElem?_cons_succ, iC, hlt, hr, hc])
     | ((with_reducible first | refine hother _ _ rfl ?_); simp only [inBlockA, thenA, noGotoA, Nat.reduceEqDiff, if_false, if_true, ↓reduceIte])
     | (with_reducible refine And.intro (by omega) ?_)
     | fail)
end Go.Av

set_option exponentiation.threshold 1000
set_option linter.unusedVariables false
set_option linter.unusedSimpArgs false
set_option maxRecDepth 100000
set_option maxHeartbeats 4000000
namespace Go.Av
open Go Go.Proofs Go.Proofs.Ytofomnllcmgfeaa Go.RowKit
/-! ### ident: lists of headers -/
def hdsC (l : List HD) : List C := l.flatMap hdC
def idH (h : HD) : H32 := ⟨idL h, shaL_len _⟩
def idsTo (l : List HD) (i : Nat) : List C := hsC ((l.take i).map idH)
end Go.Av

set_option exponentiation.threshold 1000
set_option linter.unusedVariables false
set_option linter.unusedSimpArgs false
set_option maxRecDepth 100000
set_option maxHeartbeats 4000000
namespace Go.Av
open Go Go.Proofs Go.Proofs.Ytofomnllcmgfeaa Go.RowKit
def Z32 : H32 := ⟨List.replicate 32 0, by simp⟩
def H0 : HD := ⟨0, Z32, Z32, 0⟩
def H1 : HD := ⟨0, Z32, Z32, 1⟩
end Go.Av

set_option exponentiation.threshold 1000
set_option linter.unusedVariables false
set_option linter.unusedSimpArgs false
set_option maxRecDepth 100000
set_option maxHeartbeats 4000000
namespace Go.Av
open Go Go.Proofs Go.Proofs.Ytofomnllcmgfeaa Go.RowKit
theorem opens_hashes {P : Program} {t e b : TypeId} (ht : P.underlying t = some (.slice e)) (he : P.underlying e = some (.array 32 b)) (hb : P.underlying b = some (.int .u8)) (hc : P.cellsOf b = 1) (hce : P.cellsOf e = 32) :
    Opens P t (fun l : List H32 => [.sl (hsC l) l.length false]) (fun l => l.length ≤ maxLen ∧ ∀ a ∈ l, True) :=
  opens_slice ht (fun a => by rw [hce, List.length_map]; exact a.2) (opens_hash he hb hc hce)
end Go.Av

set_option exponentiation.threshold 1000
set_option linter.unusedVariables false
set_option linter.unusedSimpArgs false
set_option maxRecDepth 100000
set_option maxHeartbeats 4000000
namespace Go.Av
open Go Go.Proofs Go.Proofs.Ytofomnllcmgfeaa Go.RowKit
/-! ### ident: the laws -/
end Go.Av

set_option exponentiation.threshold 1000
set_option linter.unusedVariables false
set_option linter.unusedSimpArgs false
set_option maxRecDepth 100000
set_option maxHeartbeats 4000000
namespace Go.Av
open Go Go.Proofs Go.Proofs.Ytofomnllcmgfeaa Go.RowKit
/-! ### score, common, duel -/
open Go.Av.Up (pl hit)
def cntN (zs : List Int) (lv : Nat) : Nat := (plI zs 0 lv).length
theorem cntN_le (zs : List Int) (lv : Nat) : cntN zs lv ≤ zs.length := plI_len _ _ _
def valN (zs : List Int) (lv : Nat) : Nat := cntN zs lv * 2 ^ lv
def mayN (zs : List Int) (lv : Nat) (m : Int) : Bool := decide (lv = 0) || decide (m ≤ (cntN zs lv : Int))
def bestN (zs : List Int) (m : Int) : Nat → Nat × Nat
  | 0 => (0, 0)
  | lv + 1 => if mayN zs lv m = true ∧ (bestN zs m lv).1 < valN zs lv then (valN zs lv, lv) else bestN zs m lv
theorem valN_lt (zs : List Int) (lv : Nat) (h : zs.length ≤ 1000000) (hl : lv ≤ 255) : valN zs lv < 2 ^ (64 * 5) := by
  have h1 : valN zs lv ≤ 2 ^ 20 * 2 ^ 255 := Nat.mul_le_mul (by have := cntN_le zs lv; omega) (Nat.pow_le_pow_right (by decide) hl)
  rw [← Nat.pow_add] at h1
  exact Nat.lt_of_le_of_lt h1 (Nat.pow_lt_pow_right (by decide) (by decide))
theorem bestN_lt (zs : List Int) (m : Int) (h : zs.length ≤ 1000000) : ∀ k, k ≤ 256 → (bestN zs m k).1 < 2 ^ (64 * 5)
  | 0, _ => by simp only [bestN]; exact Nat.two_pow_pos _
  | k + 1, hk => by
    unfold bestN
    split
    · exact valN_lt zs k h (by omega)
    · exact bestN_lt zs m h k (by omega)
def limL (x : Nat) : List C := [u64C (lim x 0), u64C (lim x 1), u64C (lim x 2), u64C (lim x 3), u64C (lim x 4)]
theorem limL_eq (x : Nat) : limC 5 x = limL x := by simp [limC, limL, List.range_succ]
theorem lims_eq {x y : Nat} (hx : x < 2 ^ (64 * 5)) (hy : y < 2 ^ (64 * 5)) (h0 : lim x 0 = lim y 0) (h1 : lim x 1 = lim y 1) (h2 : lim x 2 = lim y 2) (h3 : lim x 3 = lim y 3) (h4 : lim x 4 = lim y 4) : x = y := by
  have e5 : x / 2 ^ (64 * (4 + 1)) = y / 2 ^ (64 * (4 + 1)) := by rw [Nat.div_eq_of_lt hx, Nat.div_eq_of_lt hy]
  have e := lim_eq_of (lim_eq_of (lim_eq_of (lim_eq_of (lim_eq_of e5 h4) h3) h2) h1) h0
  simpa using e
set_option maxHeartbeats 4000000 in
theorem value_den (zs : List Int) (lv : Nat) (full : Bool) (hl : lv ≤ 255) (hn : zs.length ≤ 1000000) : DenV Try.prog 82 [.c (.sl (zs.map iC) zs.length full), .c (iC lv)] (largeM (valN zs lv)) := by
  refine Den.frame rfl (by simp [largeM, ltB]) ?_
  have p1 := count_den zs lv full hn
  have hc := cntN_le zs lv
  have p2 := of_den (cntN zs lv) (by omega)
  have hv := valN_lt zs lv hn hl
  have p3 := shl_den (cntN zs lv) lv (Nat.lt_of_le_of_lt (show cntN zs lv ≤ 2 ^ 20 by omega) (Nat.pow_lt_pow_right (by decide) (by decide))) hv (by omega)
  have e : (plI zs 0 lv).length = cntN zs lv := rfl
  rw [e] at p1
  have ev : cntN zs lv * 2 ^ lv = valN zs lv := rfl
  rw [ev] at p3
  clear e ev
  unfold largeM at *
  have l1 := limC_len 5 (cntN zs lv)
  have l2 := limC_len 5 (valN zs lv)
  have t2 : (limC 5 (valN zs lv)).take 5 = limC 5 (valN zs lv) := List.take_of_length_le (by omega)
  generalize limC 5 (valN zs lv) = cv at *
  generalize limC 5 (cntN zs lv) = cc at *
  generalize cntN zs lv = c at *
  have w1 := wrapU64 (c : Int) (by omega)
  have i1 : ¬ (lv : Int) < 0 := by omega
  have i2 : ¬ (255 : Int) < lv := by omega
  refine den_of Try.func82 rfl rfl (by simp [Try.ntmps82]) (fun X hX hO => ?_)
  rw [Try.ntmps82] at hX
  simp only [Try.results82]
  repeat' (first 
   | (with_reducible first | refine awp_scope ?_ | refine awp_seq ?_ | refine awp_block ?_)
   | ((with_reducible first | refine awp_label ?_ | refine awp_skip ?_); try simp only [thenA, inBlockA, noGotoA])
   | (with_reducible refine awp_exit ?_; simp only [thenA, inBlockA, noGotoA, if_true, Nat.reduceEqDiff, if_false, ↓reduceIte])
   | (with_reducible refine awp_ret ?_; (try simp only [thenA, inBlockA, noGotoA]); (try simp [-List.reduceReplicate, Nat.add_one_le_iff, -getElem?_pos, -getElem?_neg, List.getElem?_cons_zero, List.getElem?_cons_succ, iC, bC, u64C, w1, i1, i2, l1, l2, t2]))
   | ((with_reducible first | refine awp_reg 25 hX [0, 1, 4, 5, 12] ?_ | change postOf _ _ _ _ _); simp [-List.reduceReplicate, Nat.add_one_le_iff, -getElem?_pos, -getElem?_neg, List.getElem?_cons_zero, List.getElem?_cons_succ, iC, bC, u64C, w1, i1, i2, l1, l2, t2])
   | ((first | (refine (p1 _).det ?_) | (refine (p2 _).det ?_) | (refine (p3 _).det ?_)); try simp [-List.reduceReplicate, Nat.add_one_le_iff, -getElem?_pos, -getElem?_neg, List.getElem?_cons_zero, List.getElem?_cons_succ, iC, bC, u64C, w1, i1, i2, l1, l2, t2])
   | (with_reducible refine awp_if_b rfl (fun hc => ?_) (fun hc => ?_) <;> (try simp [-getElem?_pos, -getElem?_neg] at hc) <;> (try (exfalso; omega)))
   | ((with_reducible first | refine GuardK_b (fun hc => ?_) (fun hc => ?_)) <;> (try simp only [Bool.not_eq_true', Bool.not_eq_false', decide_eq_true_eq, decide_eq_false_iff_not] at hc) <;> (first | (exfalso; omega) | skip) <;> simp [-List.reduceReplicate, Nat.add_one_le_iff, -getElem?_pos, -getElem?_neg, List.getElem?_cons_zero, List.getElem?_cons_succ, iC, bC, u64C, w1, i1, i2, l1, l2, t2, hc])
   | (with_reducible refine And.intro (by omega) ?_)
   | fail)
set_option maxHeartbeats 4000000 in
theorem may_den (zs : List Int) (lv : Nat) (m : Int) (full : Bool) (hl : lv ≤ 255) (hn : zs.length ≤ 1000000) : DenV Try.prog 83 [.c (.sl (zs.map iC) zs.length full), .c (iC lv), .c (iC m)] (.c (bC (mayN zs lv m))) := by
  refine Den.frame rfl rfl ?_
  have p1 := count_den zs lv full hn
  have e : (plI zs 0 lv).length = cntN zs lv := rfl
  rw [e] at p1
  unfold mayN
  generalize cntN zs lv = c at *
  refine den_of Try.func83 rfl rfl (by simp [Try.ntmps83]) (fun X hX hO => ?_)
  rw [Try.ntmps83] at hX
  simp only [Try.results83]
  by_cases h0 : lv = 0
  · subst h0
    repeat' (first 
     | (with_reducible first | refine awp_scope ?_ | refine awp_seq ?_ | refine awp_block ?_)
     | ((with_reducible first | refine awp_label ?_ | refine awp_skip ?_); try simp only [thenA, inBlockA, noGotoA])
     | (with_reducible refine awp_exit ?_; simp only [thenA, inBlockA, noGotoA, if_true, Nat.reduceEqDiff, if_false, ↓reduceIte])
     | (with_reducible refine awp_ret ?_; (try simp only [thenA, inBlockA, noGotoA]); (try simp [-List.reduceReplicate, Nat.add_one_le_iff, -getElem?_pos, -getElem?_neg, List.getElem?_cons_zero, List.getElem?_cons_succ, iC, bC]))
     | ((with_reducible first | refine awp_reg 24 hX [0, 1, 2, 6] ?_ | change postOf _ _ _ _ _); simp [-List.reduceReplicate, Nat.add_one_le_iff, -getElem?_pos, -getElem?_neg, List.getElem?_cons_zero, List.getElem?_cons_succ, iC, bC])
     | (with_reducible refine awp_if_b rfl (fun hc => ?_) (fun hc => ?_) <;> (try simp [-getElem?_pos, -getElem?_neg] at hc) <;> (try (exfalso; omega)))
     | ((with_reducible first | refine GuardK_b (fun hc => ?_) (fun hc => ?_)) <;> (try simp only [Bool.not_eq_true', Bool.not_eq_false', decide_eq_true_eq, decide_eq_false_iff_not] at hc) <;> (first | (exfalso; omega) | skip) <;> simp [-List.reduceReplicate, Nat.add_one_le_iff, -getElem?_pos, -getElem?_neg, List.getElem?_cons_zero, List.getElem?_cons_succ, iC, bC, hc])
     | (with_reducible refine And.intro (by omega) ?_)
     | fail)
  · have i0 : 0 < lv := by omega
    have i1 : ¬ (lv : Int) = 0 := by omega
    have i2 : (0 : Int) < lv := by omega
    have i3 : (lv : Int) ≤ 255 := by omega
    repeat' (first 
     | (with_reducible first | refine awp_scope ?_ | refine awp_seq ?_ | refine awp_block ?_)
     | ((with_reducible first | refine awp_label ?_ | refine awp_skip ?_); try simp only [thenA, inBlockA, noGotoA])
     | (with_reducible refine awp_exit ?_; simp only [thenA, inBlockA, noGotoA, if_true, Nat.reduceEqDiff, if_false, ↓reduceIte])
     | (with_reducible refine awp_ret ?_; (try simp only [thenA, inBlockA, noGotoA]); (try simp [-List.reduceReplicate, Nat.add_one_le_iff, -getElem?_pos, -getElem?_neg, List.getElem?_cons_zero, List.getElem?_cons_succ, iC, bC, h0, i0, i1, i2, i3]))
     | ((with_reducible first | refine awp_reg 24 hX [0, 1, 2, 6] ?_ | change postOf _ _ _ _ _); simp [-List.reduceReplicate, Nat.add_one_le_iff, -getElem?_pos, -getElem?_neg, List.getElem?_cons_zero, List.getElem?_cons_succ, iC, bC, h0, i0, i1, i2, i3])
     | ((first | (refine (p1 _).det ?_)); try simp [-List.reduceReplicate, Nat.add_one_le_iff, -getElem?_pos, -getElem?_neg, List.getElem?_cons_zero, List.getElem?_cons_succ, iC, bC, h0, i0, i1, i2, i3])
     | (with_reducible refine awp_if_b rfl (fun hc => ?_) (fun hc => ?_) <;> (try simp [-getElem?_pos, -getElem?_neg] at hc) <;> (try (exfalso; omega)))
     | ((with_reducible first | refine GuardK_b (fun hc => ?_) (fun hc => ?_)) <;> (try simp only [Bool.not_eq_true', Bool.not_eq_false', decide_eq_true_eq, decide_eq_false_iff_not] at hc) <;> (first | (exfalso; omega) | skip) <;> simp [-List.reduceReplicate, Nat.add_one_le_iff, -getElem?_pos, -getElem?_neg, List.getElem?_cons_zero, List.getElem?_cons_succ, iC, bC, h0, i0, i1, i2, i3, hc])
     | (with_reducible refine And.intro (by omega) ?_)
     | fail)
theorem eq_score (x y : Nat) (l k : Int) (hx : x < 2 ^ (64 * 5)) (hy : y < 2 ^ (64 * 5)) : eqM (List.replicate 6 0) (up (limL x ++ [iC l])) (up (limL y ++ [iC k])) = some (decide (x = y ∧ l = k)) := by
  have h : (x = y ∧ l = k) ↔ (lim x 0 = lim y 0 ∧ lim x 1 = lim y 1 ∧ lim x 2 = lim y 2 ∧ lim x 3 = lim y 3 ∧ lim x 4 = lim y 4 ∧ l = k) := by
    constructor
    · rintro ⟨rfl, rfl⟩; exact ⟨rfl, rfl, rfl, rfl, rfl, rfl⟩
    · rintro ⟨h0, h1, h2, h3, h4, h5⟩; exact ⟨lims_eq hx hy h0 h1 h2 h3 h4, h5⟩
  have hd : decide (x = y ∧ l = k) = decide (lim x 0 = lim y 0 ∧ lim x 1 = lim y 1 ∧ lim x 2 = lim y 2 ∧ lim x 3 = lim y 3 ∧ lim x 4 = lim y 4 ∧ l = k) := decide_eq_decide.2 h
  rw [hd]
  simp [limL, up, u64C, iC, Int.natCast_inj, Bool.decide_and]
def scoreC (p : Nat × Nat) : List C := limL p.1 ++ [iC p.2]
set_option maxHeartbeats 4000000 in
theorem best_den (zs : List Int) (m : Int) (full : Bool) (hn : zs.length ≤ 1000000) : DenV Try.prog 65 [.c (.sl (zs.map iC) zs.length full), .c (iC m)] (.agg (up (scoreC (bestN zs m 256)))) := by
  refine Den.frame rfl (by simp [ltB]) ?_
  have hb : ∀ k, bestN zs m (k + 1) = if mayN zs k m = true ∧ (bestN zs m k).1 < valN zs k then (valN zs k, k) else bestN zs m k := fun _ => rfl
  have hb0 : bestN zs m 0 = (0, 0) := rfl
  have hlt := bestN_lt zs m hn
  have hvl := fun k (h : k ≤ 255) => valN_lt zs k hn h
  have pm := fun k (h : k ≤ 255) => may_den zs k m full h hn
  have pv := fun k (h : k ≤ 255) => value_den zs k full h hn
  have hs0 : scoreC (0, 0) = [C.v (.int .u64 0), C.v (.int .u64 0), C.v (.int .u64 0), C.v (.int .u64 0), C.v (.int .u64 0), C.v (.int .i64 0)] := by simp [scoreC, limL, lim, u64C, iC]
  have es := eq_score
  have l6 : ∀ x l, (limL x ++ [iC l]).length = 6 := fun _ _ => rfl
  have l5 : ∀ x, (limL x).length = 5 := fun _ => rfl
  have t6 : ∀ x l, (limL x ++ [iC l]).take 6 = limL x ++ [iC l] := fun _ _ => rfl
  have t5 : ∀ x l, (limL x ++ [iC l]).take 5 = limL x := fun _ _ => rfl
  have cm := fun x y hx hy => cmp_den x y hx hy
  have ly : ∀ x, lay [M.c (C.v (.int .u64 0)), M.c (C.v (.int .u64 0)), M.c (C.v (.int .u64 0)), M.c (C.v (.int .u64 0)), M.c (C.v (.int .u64 0)), M.c (C.v (.int .i64 0))] 0 (up (limL x)) = up (limL x ++ [C.v (.int .i64 0)]) := fun _ => rfl
  have st : ∀ x l, (up (limL x ++ [C.v (.int .i64 0)])).set 5 (M.c (C.v (.int .i64 l))) = up (limL x ++ [C.v (.int .i64 l)]) := fun _ _ => rfl
  have hz : List.map M.c (limL 0) = [M.c (C.v (.int .u64 0)), M.c (C.v (.int .u64 0)), M.c (C.v (.int .u64 0)), M.c (C.v (.int .u64 0)), M.c (C.v (.int .u64 0))] := by simp [limL, lim, u64C]
  unfold largeM at *
  simp only [limL_eq, scoreC] at *
  generalize bestN zs m = f at *
  generalize valN zs = vf at *
  refine den_of Try.func65 rfl rfl (by simp [Try.ntmps65]) (fun X hX hO => ?_)
  rw [Try.ntmps65] at hX
  simp only [Try.results65]
  repeat' (first 
   | (with_reducible first | refine awp_scope ?_ | refine awp_seq ?_ | refine awp_block ?_)
   | ((with_reducible first | refine awp_label ?_ | refine awp_skip ?_); try simp only [thenA, inBlockA, noGotoA])
   | (with_reducible refine awp_exit ?_; simp only [thenA, inBlockA, noGotoA, if_true, Nat.reduceEqDiff, if_false, ↓reduceIte])
   | (with_reducible refine awp_ret ?_; (try simp only [thenA, inBlockA, noGotoA]); (try simp [-List.reduceReplicate, Nat.add_one_le_iff, -getElem?_pos, -getElem?_neg, List.getElem?_cons_zero, List.getElem?_cons_succ, iC]))
   | ((with_reducible first | refine awp_reg 35 hX [0, 1, 4, 5, 6, 7, 8, 9, 25, 31] ?_ | change postOf _ _ _ _ _); simp [-List.reduceReplicate, Nat.add_one_le_iff, -getElem?_pos, -getElem?_neg, List.getElem?_cons_zero, List.getElem?_cons_succ, iC])
   | (with_reducible refine awp_if_b rfl (fun hc => ?_) (fun hc => ?_) <;> (try simp [-getElem?_pos, -getElem?_neg] at hc) <;> (try (exfalso; omega)))
   | ((with_reducible first | refine GuardK_b (fun hc => ?_) (fun hc => ?_)) <;> (try simp only [Bool.not_eq_true', Bool.not_eq_false', decide_eq_true_eq, decide_eq_false_iff_not] at hc) <;> (first | (exfalso; omega) | skip) <;> simp [-List.reduceReplicate, Nat.add_one_le_iff, -getElem?_pos, -getElem?_neg, List.getElem?_cons_zero, List.getElem?_cons_succ, iC, hc])
   | ((with_reducible first | refine hother _ _ rfl ?_); simp only [inBlockA, thenA, noGotoA, Nat.reduceEqDiff, if_false, if_true, ↓reduceIte])
   | (with_reducible refine And.intro (by omega) ?_)
   | fail)
  refine awp_forU [0, 1, 4, 5, 8] (fun k (g : List Ob) => [(8, .c (iC k))]) (fun k (g : List Ob) => [⟨52, 1, false, 0, up (limL 0 ++ [iC 0]), none⟩, ⟨52, 1, false, 0, up (limL (f k).1 ++ [iC (f k).2]), none⟩] ++ g) (fun k (g : List Ob) => True) (256) ([]) (by first | trivial | (simp; done) | omega | (intros; simp at *; done)) (by simp [-List.reduceReplicate, keep, iC, hb0, hz, up]) (by simp [-List.reduceReplicate, iC, hb0, hz, up]) ?_
  rintro k g Q1 hi hH next hother
  conv => arg 5; arg 1; simp only [List.cons_append, List.nil_append, keep, get, Nat.reduceEqDiff, if_true, if_false, ↓reduceIte]
  have hwk := wrap_in ((k : Int) + 1) (by omega)
  by_cases hk : k < 256
  · have qv := pv k (by omega)
    have qm := pm k (by omega)
    have bk := hb k
    have hk2 : (k : Int) < 256 := by omega
    have e1 := es (vf k) (f k).1 k (f k).2 (hvl k (by omega)) (hlt k (by omega))
    have c1 := cm (vf k) (f k).1 (hvl k (by omega)) (hlt k (by omega))
    obtain ⟨bv, hbv⟩ : ∃ x, (f k).1 = x := ⟨_, rfl⟩
    obtain ⟨bl', hbl⟩ : ∃ x, (f k).2 = x := ⟨_, rfl⟩
    rw [hbv, hbl] at e1 ⊢
    rw [hbv] at c1 bk
    generalize vf k = v at *
    unfold iC at e1 t6 t5 l6
    by_cases hq : v = bv ∧ (k : Int) = (bl' : Int)
    · have fk : f (k + 1) = f k := by rw [bk, if_neg (by intro h; omega)]
      obtain ⟨hq1, hq2⟩ := hq
      have hq3 : k = bl' := by omega
      subst hq1 hq3
      simp only [and_self, decide_true] at e1
      repeat' (first 
       | (with_reducible first | refine awp_scope ?_ | refine awp_seq ?_ | refine awp_block ?_)
       | ((with_reducible first | refine awp_label ?_ | refine awp_skip ?_); try simp only [thenA, inBlockA, noGotoA])
       | (with_reducible refine awp_exit ?_; simp only [thenA, inBlockA, noGotoA, if_true, Nat.reduceEqDiff, if_false, ↓reduceIte])
       | (with_reducible refine awp_ret ?_; (try simp only [thenA, inBlockA, noGotoA]); (try simp [-List.reduceReplicate, Nat.add_one_le_iff, -getElem?_pos, -getElem?_neg, List.getElem?_cons_zero, List.getElem?_cons_succ, iC, bC, hk2, l5, l6, t5, t6, ly, st, e1, hwk]))
       | ((with_reducible first | refine awp_reg 35 hX [0, 1, 4, 5, 6, 7, 8, 9, 25, 31] ?_ | change postOf _ _ _ _ _); simp [-List.reduceReplicate, Nat.add_one_le_iff, -getElem?_pos, -getElem?_neg, List.getElem?_cons_zero, List.getElem?_cons_succ, iC, bC, hk2, l5, l6, t5, t6, ly, st, e1, hwk])
       | ((first | (refine (qv _).det ?_) | (refine (qm _).det ?_) | (refine (c1 _).det ?_)); try simp [-List.reduceReplicate, Nat.add_one_le_iff, -getElem?_pos, -getElem?_neg, List.getElem?_cons_zero, List.getElem?_cons_succ, iC, bC, hk2, l5, l6, t5, t6, ly, st, e1, hwk])
       | (with_reducible refine awp_if_b rfl (fun hc => ?_) (fun hc => ?_) <;> (try simp [-getElem?_pos, -getElem?_neg] at hc) <;> (try (exfalso; omega)))
       | ((with_reducible first | refine GuardK_b (fun hc => ?_) (fun hc => ?_)) <;> (try simp only [Bool.not_eq_true', Bool.not_eq_false', decide_eq_true_eq, decide_eq_false_iff_not] at hc) <;> (first | (exfalso; omega) | skip) <;> simp [-List.reduceReplicate, Nat.add_one_le_iff, -getElem?_pos, -getElem?_neg, List.getElem?_cons_zero, List.getElem?_cons_succ, iC, bC, hk2, l5, l6, t5, t6, ly, st, e1, hwk, hc])
       | ((with_reducible first | refine hother _ _ rfl ?_); simp only [inBlockA, thenA, noGotoA, Nat.reduceEqDiff, if_false, if_true, ↓reduceIte])
       | (with_reducible refine And.intro (by omega) ?_)
       | fail)
      refine next _ _ (g ++ [⟨52, 1, false, 0, up (limL v ++ [iC k]), none⟩]) (by omega) (by first | trivial | omega | assumption) (by simp [-List.reduceReplicate, keep, iC, fk, hbv, hbl]) (by simp [-List.reduceReplicate, iC, fk, hbv, hbl])
    · simp only [hq, decide_false] at e1
      cases hm : mayN zs k m
      · have fk : f (k + 1) = f k := by rw [bk, if_neg (by rw [hm]; intro h; simp at h)]
        rw [hm] at qm
        repeat' (first 
         | (with_reducible first | refine awp_scope ?_ | refine awp_seq ?_ | refine awp_block ?_)
         | ((with_reducible first | refine awp_label ?_ | refine awp_skip ?_); try simp only [thenA, inBlockA, noGotoA])
         | (with_reducible refine awp_exit ?_; simp only [thenA, inBlockA, noGotoA, if_true, Nat.reduceEqDiff, if_false, ↓reduceIte])
         | (with_reducible refine awp_ret ?_; (try simp only [thenA, inBlockA, noGotoA]); (try simp [-List.reduceReplicate, Nat.add_one_le_iff, -getElem?_pos, -getElem?_neg, List.getElem?_cons_zero, List.getElem?_cons_succ, iC, bC, hk2, l5, l6, t5, t6, ly, st, e1, hwk]))
         | ((with_reducible first | refine awp_reg 35 hX [0, 1, 4, 5, 6, 7, 8, 9, 25, 31] ?_ | change postOf _ _ _ _ _); simp [-List.reduceReplicate, Nat.add_one_le_iff, -getElem?_pos, -getElem?_neg, List.getElem?_cons_zero, List.getElem?_cons_succ, iC, bC, hk2, l5, l6, t5, t6, ly, st, e1, hwk])
         | ((first | (refine (qv _).det ?_) | (refine (qm _).det ?_) | (refine (c1 _).det ?_)); try simp [-List.reduceReplicate, Nat.add_one_le_iff, -getElem?_pos, -getElem?_neg, List.getElem?_cons_zero, List.getElem?_cons_succ, iC, bC, hk2, l5, l6, t5, t6, ly, st, e1, hwk])
         | (with_reducible refine awp_if_b rfl (fun hc => ?_) (fun hc => ?_) <;> (try simp [-getElem?_pos, -getElem?_neg] at hc) <;> (try (exfalso; omega)))
         | ((with_reducible first | refine GuardK_b (fun hc => ?_) (fun hc => ?_)) <;> (try simp only [Bool.not_eq_true', Bool.not_eq_false', decide_eq_true_eq, decide_eq_false_iff_not] at hc) <;> (first | (exfalso; omega) | skip) <;> simp [-List.reduceReplicate, Nat.add_one_le_iff, -getElem?_pos, -getElem?_neg, List.getElem?_cons_zero, List.getElem?_cons_succ, iC, bC, hk2, l5, l6, t5, t6, ly, st, e1, hwk, hc])
         | ((with_reducible first | refine hother _ _ rfl ?_); simp only [inBlockA, thenA, noGotoA, Nat.reduceEqDiff, if_false, if_true, ↓reduceIte])
         | (with_reducible refine And.intro (by omega) ?_)
         | fail)
        refine next _ _ (g ++ [⟨52, 1, false, 0, up (limL v ++ [iC k]), none⟩]) (by omega) (by first | trivial | omega | assumption) (by simp [-List.reduceReplicate, keep, iC, fk, hbv, hbl]) (by simp [-List.reduceReplicate, iC, fk, hbv, hbl])
      · rw [hm] at qm
        by_cases hlt : bv < v
        · have fk : f (k + 1) = (v, k) := by rw [bk, if_pos ⟨hm, hlt⟩]
          rw [cmpN_gt hlt] at c1
          repeat' (first 
           | (with_reducible first | refine awp_scope ?_ | refine awp_seq ?_ | refine awp_block ?_)
           | ((with_reducible first | refine awp_label ?_ | refine awp_skip ?_); try simp only [thenA, inBlockA, noGotoA])
           | (with_reducible refine awp_exit ?_; simp only [thenA, inBlockA, noGotoA, if_true, Nat.reduceEqDiff, if_false, ↓reduceIte])
           | (with_reducible refine awp_ret ?_; (try simp only [thenA, inBlockA, noGotoA]); (try simp [-List.reduceReplicate, Nat.add_one_le_iff, -getElem?_pos, -getElem?_neg, List.getElem?_cons_zero, List.getElem?_cons_succ, iC, bC, hk2, l5, l6, t5, t6, ly, st, e1, hwk]))
           | ((with_reducible first | refine awp_reg 35 hX [0, 1, 4, 5, 6, 7, 8, 9, 25, 31] ?_ | change postOf _ _ _ _ _); simp [-List.reduceReplicate, Nat.add_one_le_iff, -getElem?_pos, -getElem?_neg, List.getElem?_cons_zero, List.getElem?_cons_succ, iC, bC, hk2, l5, l6, t5, t6, ly, st, e1, hwk])
           | ((first | (refine (qv _).det ?_) | (refine (qm _).det ?_) | (refine (c1 _).det ?_)); try simp [-List.reduceReplicate, Nat.add_one_le_iff, -getElem?_pos, -getElem?_neg, List.getElem?_cons_zero, List.getElem?_cons_succ, iC, bC, hk2, l5, l6, t5, t6, ly, st, e1, hwk])
           | (with_reducible refine awp_if_b rfl (fun hc => ?_) (fun hc => ?_) <;> (try simp [-getElem?_pos, -getElem?_neg] at hc) <;> (try (exfalso; omega)))
           | ((with_reducible first | refine GuardK_b (fun hc => ?_) (fun hc => ?_)) <;> (try simp only [Bool.not_eq_true', Bool.not_eq_false', decide_eq_true_eq, decide_eq_false_iff_not] at hc) <;> (first | (exfalso; omega) | skip) <;> simp [-List.reduceReplicate, Nat.add_one_le_iff, -getElem?_pos, -getElem?_neg, List.getElem?_cons_zero, List.getElem?_cons_succ, iC, bC, hk2, l5, l6, t5, t6, ly, st, e1, hwk, hc])
           | ((with_reducible first | refine hother _ _ rfl ?_); simp only [inBlockA, thenA, noGotoA, Nat.reduceEqDiff, if_false, if_true, ↓reduceIte])
           | (with_reducible refine And.intro (by omega) ?_)
           | fail)
          refine next _ _ (g ++ [⟨52, 1, false, 0, up (limL v ++ [iC k]), none⟩]) (by omega) (by first | trivial | omega | assumption) (by simp [-List.reduceReplicate, keep, iC, fk]) (by simp [-List.reduceReplicate, iC, fk])
        · have fk : f (k + 1) = f k := by rw [bk, if_neg (by intro h; omega)]
          have hc : ¬ 0 < cmpN v bv := by unfold cmpN; split <;> (first | omega | (rw [if_neg hlt]; omega))
          repeat' (first 
           | (with_reducible first | refine awp_scope ?_ | refine awp_seq ?_ | refine awp_block ?_)
           | ((with_reducible first | refine awp_label ?_ | refine awp_skip ?_); try simp only [thenA, inBlockA, noGotoA])
           | (with_reducible refine awp_exit ?_; simp only [thenA, inBlockA, noGotoA, if_true, Nat.reduceEqDiff, if_false, ↓reduceIte])
           | (with_reducible refine awp_ret ?_; (try simp only [thenA, inBlockA, noGotoA]); (try simp [-List.reduceReplicate, Nat.add_one_le_iff, -getElem?_pos, -getElem?_neg, List.getElem?_cons_zero, List.getElem?_cons_succ, iC, bC, hk2, l5, l6, t5, t6, ly, st, e1, hwk, hc]))
           | ((with_reducible first | refine awp_reg 35 hX [0, 1, 4, 5, 6, 7, 8, 9, 25, 31] ?_ | change postOf _ _ _ _ _); simp [-List.reduceReplicate, Nat.add_one_le_iff, -getElem?_pos, -getElem?_neg, List.getElem?_cons_zero, List.getElem?_cons_succ, iC, bC, hk2, l5, l6, t5, t6, ly, st, e1, hwk, hc])
           | ((first | (refine (qv _).det ?_) | (refine (qm _).det ?_) | (refine (c1 _).det ?_)); try simp [-List.reduceReplicate, Nat.add_one_le_iff, -getElem?_pos, -getElem?_neg, List.getElem?_cons_zero, List.getElem?_cons_succ, iC, bC, hk2, l5, l6, t5, t6, ly, st, e1, hwk, hc])
           | (with_reducible refine awp_if_b rfl (fun hc => ?_) (fun hc => ?_) <;> (try simp [-getElem?_pos, -getElem?_neg] at hc) <;> (try (exfalso; omega)))
           | ((with_reducible first | refine GuardK_b (fun hc => ?_) (fun hc => ?_)) <;> (try simp only [Bool.not_eq_true', Bool.not_eq_false', decide_eq_true_eq, decide_eq_false_iff_not] at hc) <;> (first | (exfalso; omega) | skip) <;> simp [-List.reduceReplicate, Nat.add_one_le_iff, -getElem?_pos, -getElem?_neg, List.getElem?_cons_zero, List.getElem?_cons_succ, iC, bC, hk2, l5, l6, t5, t6, ly, st, e1, hwk, hc, hc])
           | ((with_reducible first | refine hother _ _ rfl ?_); simp only [inBlockA, thenA, noGotoA, Nat.reduceEqDiff, if_false, if_true, ↓reduceIte])
           | (with_reducible refine And.intro (by omega) ?_)
           | fail)
          refine next _ _ (g ++ [⟨52, 1, false, 0, up (limL v ++ [iC k]), none⟩]) (by omega) (by first | trivial | omega | assumption) (by simp [-List.reduceReplicate, keep, iC, fk, hbv, hbl]) (by simp [-List.reduceReplicate, iC, fk, hbv, hbl])
  · have hk3 : k = 256 := by omega
    subst hk3
    have t6' := t6
    unfold iC at t6 t6' l6 ⊢
    repeat' (first 
     | (with_reducible first | refine awp_scope ?_ | refine awp_seq ?_ | refine awp_block ?_)
     | ((with_reducible first | refine awp_label ?_ | refine awp_skip ?_); try simp only [thenA, inBlockA, noGotoA])
     | (with_reducible refine awp_exit ?_; simp only [thenA, inBlockA, noGotoA, if_true, Nat.reduceEqDiff, if_false, ↓reduceIte])
     | (with_reducible refine awp_ret ?_; (try simp only [thenA, inBlockA, noGotoA]); (try simp [-List.reduceReplicate, Nat.add_one_le_iff, -getElem?_pos, -getElem?_neg, List.getElem?_cons_zero, List.getElem?_cons_succ, iC, l6, t6]))
     | ((with_reducible first | refine awp_reg 35 hX [0, 1, 4, 5, 6, 7, 8, 9, 25, 31] ?_ | change postOf _ _ _ _ _); simp [-List.reduceReplicate, Nat.add_one_le_iff, -getElem?_pos, -getElem?_neg, List.getElem?_cons_zero, List.getElem?_cons_succ, iC, l6, t6])
     | (with_reducible refine awp_if_b rfl (fun hc => ?_) (fun hc => ?_) <;> (try simp [-getElem?_pos, -getElem?_neg] at hc) <;> (try (exfalso; omega)))
     | ((with_reducible first | refine GuardK_b (fun hc => ?_) (fun hc => ?_)) <;> (try simp only [Bool.not_eq_true', Bool.not_eq_false', decide_eq_true_eq, decide_eq_false_iff_not] at hc) <;> (first | (exfalso; omega) | skip) <;> simp [-List.reduceReplicate, Nat.add_one_le_iff, -getElem?_pos, -getElem?_neg, List.getElem?_cons_zero, List.getElem?_cons_succ, iC, l6, t6, hc])
     | ((with_reducible first | refine hother _ _ rfl ?_); simp only [inBlockA, thenA, noGotoA, Nat.reduceEqDiff, if_false, if_true, ↓reduceIte])
     | (with_reducible refine And.intro (by omega) ?_)
     | fail)
end Go.Av

set_option exponentiation.threshold 1000
set_option linter.unusedVariables false
set_option linter.unusedSimpArgs false
set_option maxRecDepth 100000
set_option maxHeartbeats 4000000
namespace Go.Av
open Go Go.Proofs Go.Proofs.Ytofomnllcmgfeaa Go.RowKit
/-! ### common.Last, the document's Last -/
set_option maxHeartbeats 2000000 in
theorem place_den (l : List H32) (id : List UInt8) (hid : id.length = 32) (n : Nat) (full : Bool) (hn : l.length = n) (hN : n ≤ 1000000) :
    DenV Try.prog 67 [.c (.sl (hsC l) n full), hashM id] (.c (iC (fstI l id 0))) := by
  refine Den.frame (by simp [ltBs, ltB, lt_hash]) rfl ?_
  have hlen := hsC_len l
  have hat := hsC_at l
  have hst := fstI_step l id
  have t1 := hash_take id hid
  subst hn
  obtain ⟨res, hres⟩ : ∃ r, r = fstI l id 0 := ⟨_, rfl⟩
  rw [← hres]
  generalize hsC l = cs at *
  refine den_of Try.func67 rfl rfl (by simp [Try.ntmps67]) (fun X hX hO => ?_)
  rw [Try.ntmps67] at hX
  simp only [Try.results67]
  repeat' (first 
   | (with_reducible first | refine awp_scope ?_ | refine awp_seq ?_ | refine awp_block ?_)
   | ((with_reducible first | refine awp_label ?_ | refine awp_skip ?_); try simp only [thenA, inBlockA, noGotoA])
   | (with_reducible refine awp_exit ?_; simp only [thenA, inBlockA, noGotoA, if_true, Nat.reduceEqDiff, if_false, ↓reduceIte])
   | (with_reducible refine awp_ret ?_; (try simp only [thenA, inBlockA, noGotoA]); (try simp [-List.reduceReplicate, Nat.add_one_le_iff, -getElem?_pos, -getElem?_neg, List.getElem?_cons_zero, List.getElem?_cons_succ, hashM, hid, t1]))
   | ((with_reducible first | refine awp_reg 19 hX [0, 3, 4, 5, 9, 17] ?_ | refine awp_drw 19 hX [0, 3, 4, 5, 9, 17] Tab.mixed (by kernel_rfl) ?_ | refine DEv_cut _ _ _ _ _ _ _ _ _ _ _ _ (by kernel_rfl) ?_ | change postOf _ _ _ _ _); simp [-List.reduceReplicate, Nat.add_one_le_iff, -getElem?_pos, -getElem?_neg, List.getElem?_cons_zero, List.getElem?_cons_succ, hashM, hid, t1])
   | (with_reducible refine awp_if_b rfl (fun hc => ?_) (fun hc => ?_) <;> (try simp [-getElem?_pos, -getElem?_neg] at hc) <;> (try (exfalso; omega)))
   | ((with_reducible first | refine GuardK_b (fun hc => ?_) (fun hc => ?_) | refine DGuard_b _ _ _ _ _ _ _ _ _ _ (fun hc => ?_) (fun hc => ?_)) <;> (try simp only [Bool.not_eq_true', Bool.not_eq_false', decide_eq_true_eq, decide_eq_false_iff_not] at hc) <;> (first | (exfalso; omega) | skip) <;> simp [-List.reduceReplicate, Nat.add_one_le_iff, -getElem?_pos, -getElem?_neg, List.getElem?_cons_zero, List.getElem?_cons_succ, hashM, hid, t1, hc])
   | ((with_reducible first | refine hother _ _ rfl ?_); simp only [inBlockA, thenA, noGotoA, Nat.reduceEqDiff, if_false, if_true, ↓reduceIte])
   | (with_reducible refine And.intro (by omega) ?_)
   | fail)
  refine awp_forU [0, 3, 5] (fun i (_u : Unit) => [(5, .c (iC i))]) (fun i (_u : Unit) => [⟨71, 1, false, 0, up (id.map bC8), none⟩]) (fun i (_u : Unit) => (fstI (l.drop i) id i = res)) (l.length) (()) ((by rw [hres]; rfl)) (by simp [-List.reduceReplicate, keep, iC, bC8]) (by simp [-List.reduceReplicate, iC, bC8]) ?_
  rintro i _u Q1 hi hH next hother
  conv => arg 5; arg 1; simp only [List.cons_append, List.nil_append, keep, get, Nat.reduceEqDiff, if_true, if_false, ↓reduceIte]
  have hwi := wrap_in ((i : Int) + 1) (by omega)
  by_cases hlt : i < l.length
  · obtain ⟨h, hh⟩ : ∃ h, l[i]? = some h := ⟨_, List.getElem?_eq_getElem hlt⟩
    have ha := hat i h hh
    have hs := hst i h hh
    have hl2 := h.2
    have he := eq_hash h.1 id hl2 hid
    have t2 := hash_take h.1 hl2
    have hb : 32 ≤ cs.length - i * 32 := by omega
    have hb2 : i * 32 + 32 ≤ cs.length := by omega
    by_cases heq : h.1 = id
    · rw [if_pos heq] at hs
      have he1 := eq_hash1 id hid
      have hr : res = (i : Int) := by rw [← hH, hs]
      repeat' (first 
       | (with_reducible first | refine awp_scope ?_ | refine awp_seq ?_ | refine awp_block ?_)
       | ((with_reducible first | refine awp_label ?_ | refine awp_skip ?_); try simp only [thenA, inBlockA, noGotoA])
       | (with_reducible refine awp_exit ?_; simp only [thenA, inBlockA, noGotoA, if_true, Nat.reduceEqDiff, if_false, ↓reduceIte])
       | (with_reducible refine awp_ret ?_; (try simp only [thenA, inBlockA, noGotoA]); (try simp [-List.reduceReplicate, Nat.add_one_le_iff, -getElem?_pos, -getElem?_neg, List.getElem?_cons_zero, List.getElem?_cons_succ, iC, hlt, hwi, ha, hl2, he, he1, heq, t2, hb, hb2, hid, t1, hr]))
       | ((with_reducible first | refine awp_reg 19 hX [0, 3, 4, 5, 9, 17] ?_ | refine awp_drw 19 hX [0, 3, 4, 5, 9, 17] Tab.mixed (by kernel_rfl) ?_ | refine DEv_cut _ _ _ _ _ _ _ _ _ _ _ _ (by kernel_rfl) ?_ | change postOf _ _ _ _ _); simp [-List.reduceReplicate, Nat.add_one_le_iff, -getElem?_pos, -getElem?_neg, List.getElem?_cons_zero, List.getElem?_cons_succ, iC, hlt, hwi, ha, hl2, he, he1, heq, t2, hb, hb2, hid, t1, hr])
       | (with_reducible refine awp_if_b rfl (fun hc => ?_) (fun hc => ?_) <;> (try simp [-getElem?_pos, -getElem?_neg] at hc) <;> (try (exfalso; omega)))
       | ((with_reducible first | refine GuardK_b (fun hc => ?_) (fun hc => ?_) | refine DGuard_b _ _ _ _ _ _ _ _ _ _ (fun hc => ?_) (fun hc => ?_)) <;> (try simp only [Bool.not_eq_true', Bool.not_eq_false', decide_eq_true_eq, decide_eq_false_iff_not] at hc) <;> (first | (exfalso; omega) | skip) <;> simp [-List.reduceReplicate, Nat.add_one_le_iff, -getElem?_pos, -getElem?_neg, List.getElem?_cons_zero, List.getElem?_cons_succ, iC, hlt, hwi, ha, hl2, he, he1, heq, t2, hb, hb2, hid, t1, hr, hc])
       | ((with_reducible first | refine hother _ _ rfl ?_); simp only [inBlockA, thenA, noGotoA, Nat.reduceEqDiff, if_false, if_true, ↓reduceIte])
       | (with_reducible refine And.intro (by omega) ?_)
       | fail)
    · rw [if_neg heq] at hs
      have hH' : fstI (l.drop (i + 1)) id (i + 1) = res := by rw [← hs]; exact hH
      repeat' (first 
       | (with_reducible first | refine awp_scope ?_ | refine awp_seq ?_ | refine awp_block ?_)
       | ((with_reducible first | refine awp_label ?_ | refine awp_skip ?_); try simp only [thenA, inBlockA, noGotoA])
       | (with_reducible refine awp_exit ?_; simp only [thenA, inBlockA, noGotoA, if_true, Nat.reduceEqDiff, if_false, ↓reduceIte])
       | (with_reducible refine awp_ret ?_; (try simp only [thenA, inBlockA, noGotoA]); (try simp [-List.reduceReplicate, Nat.add_one_le_iff, -getElem?_pos, -getElem?_neg, List.getElem?_cons_zero, List.getElem?_cons_succ, iC, hlt, hwi, ha, hl2, he, heq, t2, hb, hb2, hid, t1]))
       | ((with_reducible first | refine awp_reg 19 hX [0, 3, 4, 5, 9, 17] ?_ | refine awp_drw 19 hX [0, 3, 4, 5, 9, 17] Tab.mixed (by kernel_rfl) ?_ | refine DEv_cut _ _ _ _ _ _ _ _ _ _ _ _ (by kernel_rfl) ?_ | change postOf _ _ _ _ _); simp [-List.reduceReplicate, Nat.add_one_le_iff, -getElem?_pos, -getElem?_neg, List.getElem?_cons_zero, List.getElem?_cons_succ, iC, hlt, hwi, ha, hl2, he, heq, t2, hb, hb2, hid, t1])
       | (with_reducible refine awp_if_b rfl (fun hc => ?_) (fun hc => ?_) <;> (try simp [-getElem?_pos, -getElem?_neg] at hc) <;> (try (exfalso; omega)))
       | ((with_reducible first | refine GuardK_b (fun hc => ?_) (fun hc => ?_) | refine DGuard_b _ _ _ _ _ _ _ _ _ _ (fun hc => ?_) (fun hc => ?_)) <;> (try simp only [Bool.not_eq_true', Bool.not_eq_false', decide_eq_true_eq, decide_eq_false_iff_not] at hc) <;> (first | (exfalso; omega) | skip) <;> simp [-List.reduceReplicate, Nat.add_one_le_iff, -getElem?_pos, -getElem?_neg, List.getElem?_cons_zero, List.getElem?_cons_succ, iC, hlt, hwi, ha, hl2, he, heq, t2, hb, hb2, hid, t1, hc])
       | ((with_reducible first | refine hother _ _ rfl ?_); simp only [inBlockA, thenA, noGotoA, Nat.reduceEqDiff, if_false, if_true, ↓reduceIte])
       | (with_reducible refine And.intro (by omega) ?_)
       | fail)
      refine next _ _ (()) (by omega) (by first | trivial | omega | assumption) (by simp [-List.reduceReplicate, keep, iC]) (by simp [-List.reduceReplicate, iC])
  · have hi2 : i = l.length := by omega
    have hr : res = -1 := by rw [← hH, hi2, List.drop_length]; rfl
    repeat' (first 
     | (with_reducible first | refine awp_scope ?_ | refine awp_seq ?_ | refine awp_block ?_)
     | ((with_reducible first | refine awp_label ?_ | refine awp_skip ?_); try simp only [thenA, inBlockA, noGotoA])
     | (with_reducible refine awp_exit ?_; simp only [thenA, inBlockA, noGotoA, if_true, Nat.reduceEqDiff, if_false, ↓reduceIte])
     | (with_reducible refine awp_ret ?_; (try simp only [thenA, inBlockA, noGotoA]); (try simp [-List.reduceReplicate, Nat.add_one_le_iff, -getElem?_pos, -getElem?_neg, List.getElem?_cons_zero, List.getElem?_cons_succ, iC, hlt, hr]))
     | ((with_reducible first | refine awp_reg 19 hX [0, 3, 4, 5, 9, 17] ?_ | refine awp_drw 19 hX [0, 3, 4, 5, 9, 17] Tab.mixed (by kernel_rfl) ?_ | refine DEv_cut _ _ _ _ _ _ _ _ _ _ _ _ (by kernel_rfl) ?_ | change postOf _ _ _ _ _); simp [-List.reduceReplicate, Nat.add_one_le_iff, -getElem?_pos, -getElem?_neg, List.getElem?_cons_zero, List.getElem?_cons_succ, iC, hlt, hr])
     | (with_reducible refine awp_if_b rfl (fun hc => ?_) (fun hc => ?_) <;> (try simp [-getElem?_pos, -getElem?_neg] at hc) <;> (try (exfalso; omega)))
     | ((with_reducible first | refine GuardK_b (fun hc => ?_) (fun hc => ?_) | refine DGuard_b _ _ _ _ _ _ _ _ _ _ (fun hc => ?_) (fun hc => ?_)) <;> (try simp only [Bool.not_eq_true', Bool.not_eq_false', decide_eq_true_eq, decide_eq_false_iff_not] at hc) <;> (first | (exfalso; omega) | skip) <;> simp [-List.reduceReplicate, Nat.add_one_le_iff, -getElem?_pos, -getElem?_neg, List.getElem?_cons_zero, List.getElem?_cons_succ, iC, hlt, hr, hc])
     | ((with_reducible first | refine hother _ _ rfl ?_); simp only [inBlockA, thenA, noGotoA, Nat.reduceEqDiff, if_false, if_true, ↓reduceIte])
     | (with_reducible refine And.intro (by omega) ?_)
     | fail)
theorem fstI_range (l : List H32) (id : List UInt8) : ∀ k, fstI l id k = -1 ∨ ((k : Int) ≤ fstI l id k ∧ fstI l id k < (k : Int) + l.length) := by
  induction l with
  | nil => intro k; exact .inl rfl
  | cons x r ih =>
    intro k
    unfold fstI
    split
    · right; simp only [List.length_cons]; omega
    · rcases ih (k + 1) with h | h
      · exact .inl h
      · right; simp only [List.length_cons]; omega
/-- The last place of the first ones whose id stands in another list, and its place there. -/
def lastHTo (a b : List H32) : Nat → Int × Int
  | 0 => (-1, -1)
  | n + 1 => if 0 ≤ fstI b ((a[n]?.map (·.1)).getD []) 0 then ((n : Int), fstI b ((a[n]?.map (·.1)).getD []) 0) else lastHTo a b n
def lastH (a b : List H32) : Int × Int := lastHTo a b a.length
theorem lastTo_range (a b : List H32) : ∀ n, lastHTo a b n = (-1, -1) ∨ (0 ≤ (lastHTo a b n).1 ∧ (lastHTo a b n).1 < (n : Int) ∧ 0 ≤ (lastHTo a b n).2 ∧ (lastHTo a b n).2 < (b.length : Int))
  | 0 => .inl rfl
  | n + 1 => by
    unfold lastHTo
    split
    · rename_i h
      right
      rcases fstI_range b ((a[n]?.map (·.1)).getD []) 0 with e | e
      · omega
      · simp only; omega
    · rcases lastTo_range a b n with h | h
      · exact .inl h
      · right; omega
set_option maxHeartbeats 4000000 in
theorem commonLast_den (a b : List H32) (n m : Nat) (fa fb : Bool) (hn : a.length = n) (hm : b.length = m) (hN : n ≤ 1000000) (hM : m ≤ 1000000) :
    DenV Try.prog 64 [.c (.sl (hsC a) n fa), .c (.sl (hsC b) m fb)] (.tup [.c (iC (lastH a b).1), .c (iC (lastH a b).2)]) := by
  refine Den.frame rfl rfl ?_
  have hlen := hsC_len a
  have hat := hsC_at a
  have p1 := fun id hid => identFirst_den b id hid m fb hm hM
  have hst : ∀ i, lastHTo a b (i + 1) = if 0 ≤ fstI b ((a[i]?.map (·.1)).getD []) 0 then ((i : Int), fstI b ((a[i]?.map (·.1)).getD []) 0) else lastHTo a b i := fun _ => rfl
  have h0 : lastHTo a b 0 = (-1, -1) := rfl
  have hl : lastH a b = lastHTo a b n := by unfold lastH; rw [hn]
  generalize lastH a b = r at *
  generalize lastHTo a b = f at *
  generalize hsC b = cb at *
  generalize hsC a = ca at *
  refine den_of Try.func64 rfl rfl (by simp [Try.ntmps64]) (fun X hX hO => ?_)
  rw [Try.ntmps64] at hX
  simp only [Try.results64]
  have w0 := wrap_in ((n : Int) - 1) (by omega)
  repeat' (first 
   | (with_reducible first | refine awp_scope ?_ | refine awp_seq ?_ | refine awp_block ?_)
   | ((with_reducible first | refine awp_label ?_ | refine awp_skip ?_); try simp only [thenA, inBlockA, noGotoA])
   | (with_reducible refine awp_exit ?_; simp only [thenA, inBlockA, noGotoA, if_true, Nat.reduceEqDiff, if_false, ↓reduceIte])
   | (with_reducible refine awp_ret ?_; (try simp only [thenA, inBlockA, noGotoA]); (try simp [-List.reduceReplicate, Nat.add_one_le_iff, -getElem?_pos, -getElem?_neg, List.getElem?_cons_zero, List.getElem?_cons_succ, iC, w0]))
   | ((with_reducible first | refine awp_reg 25 hX [0, 1, 4, 5, 6, 7, 12, 22] ?_ | change postOf _ _ _ _ _); simp [-List.reduceReplicate, Nat.add_one_le_iff, -getElem?_pos, -getElem?_neg, List.getElem?_cons_zero, List.getElem?_cons_succ, iC, w0])
   | (with_reducible refine awp_if_b rfl (fun hc => ?_) (fun hc => ?_) <;> (try simp [-getElem?_pos, -getElem?_neg] at hc) <;> (try (exfalso; omega)))
   | ((with_reducible first | refine GuardK_b (fun hc => ?_) (fun hc => ?_)) <;> (try simp only [Bool.not_eq_true', Bool.not_eq_false', decide_eq_true_eq, decide_eq_false_iff_not] at hc) <;> (first | (exfalso; omega) | skip) <;> simp [-List.reduceReplicate, Nat.add_one_le_iff, -getElem?_pos, -getElem?_neg, List.getElem?_cons_zero, List.getElem?_cons_succ, iC, w0, hc])
   | ((with_reducible first | refine hother _ _ rfl ?_); simp only [inBlockA, thenA, noGotoA, Nat.reduceEqDiff, if_false, if_true, ↓reduceIte])
   | (with_reducible refine And.intro (by omega) ?_)
   | fail)
  refine awp_forU [0, 1, 6] (fun j (_u : Unit) => [(6, .c (iC ((n : Int) - 1 - j)))]) (fun j (_u : Unit) => []) (fun j (_u : Unit) => r = f (n - j)) (n) (()) (by first | trivial | (simp; done) | omega | (intros; simp at *; done)) (by simp [-List.reduceReplicate, keep, iC]) (by simp [-List.reduceReplicate, iC]) ?_
  rintro j _u Q1 hi hH next hother
  conv => arg 5; arg 1; simp only [List.cons_append, List.nil_append, keep, get, Nat.reduceEqDiff, if_true, if_false, ↓reduceIte]
  by_cases hlt : j < n
  · obtain ⟨i, hi'⟩ : ∃ i, n - j = i + 1 := ⟨n - j - 1, by omega⟩
    have e1 : (n : Int) - 1 - (j : Int) = (i : Int) := by omega
    have e2 : n - (j + 1) = i := by omega
    have e3 : (n : Int) - 1 - ((j : Int) + 1) = (i : Int) - 1 := by omega
    obtain ⟨h, hh⟩ : ∃ h, a[i]? = some h := ⟨_, List.getElem?_eq_getElem (by omega)⟩
    have ha := hat i h hh
    have hl2 := h.2
    have q1 := p1 h.1 hl2
    have t2 := hash_take h.1 hl2
    have hb : 32 ≤ ca.length - i * 32 := by omega
    have hin : i < n := by omega
    have hs := hst i
    simp only [hh, Option.map_some, Option.getD_some] at hs
    rw [hi', hs] at hH
    rw [e2] at next
    have wi := wrap_in ((i : Int) - 1) (by omega)
    unfold hashM at q1
    generalize fstI b h.1 0 = k at *
    by_cases hk : 0 ≤ k
    · rw [if_pos hk] at hH
      subst hH
      repeat' (first 
       | (with_reducible first | refine awp_scope ?_ | refine awp_seq ?_ | refine awp_block ?_)
       | ((with_reducible first | refine awp_label ?_ | refine awp_skip ?_); try simp only [thenA, inBlockA, noGotoA])
       | (with_reducible refine awp_exit ?_; simp only [thenA, inBlockA, noGotoA, if_true, Nat.reduceEqDiff, if_false, ↓reduceIte])
       | (with_reducible refine awp_ret ?_; (try simp only [thenA, inBlockA, noGotoA]); (try simp [-List.reduceReplicate, Nat.add_one_le_iff, -getElem?_pos, -getElem?_neg, List.getElem?_cons_zero, List.getElem?_cons_succ, iC, bC, e1, hin, ha, hl2, t2, hb, hk]))
       | ((with_reducible first | refine awp_reg 25 hX [0, 1, 4, 5, 6, 7, 12, 22] ?_ | change postOf _ _ _ _ _); simp [-List.reduceReplicate, Nat.add_one_le_iff, -getElem?_pos, -getElem?_neg, List.getElem?_cons_zero, List.getElem?_cons_succ, iC, bC, e1, hin, ha, hl2, t2, hb, hk])
       | ((first | (refine (q1 _).det ?_)); try simp [-List.reduceReplicate, Nat.add_one_le_iff, -getElem?_pos, -getElem?_neg, List.getElem?_cons_zero, List.getElem?_cons_succ, iC, bC, e1, hin, ha, hl2, t2, hb, hk])
       | (with_reducible refine awp_if_b rfl (fun hc => ?_) (fun hc => ?_) <;> (try simp [-getElem?_pos, -getElem?_neg] at hc) <;> (try (exfalso; omega)))
       | ((with_reducible first | refine GuardK_b (fun hc => ?_) (fun hc => ?_)) <;> (try simp only [Bool.not_eq_true', Bool.not_eq_false', decide_eq_true_eq, decide_eq_false_iff_not] at hc) <;> (first | (exfalso; omega) | skip) <;> simp [-List.reduceReplicate, Nat.add_one_le_iff, -getElem?_pos, -getElem?_neg, List.getElem?_cons_zero, List.getElem?_cons_succ, iC, bC, e1, hin, ha, hl2, t2, hb, hk, hc])
       | ((with_reducible first | refine hother _ _ rfl ?_); simp only [inBlockA, thenA, noGotoA, Nat.reduceEqDiff, if_false, if_true, ↓reduceIte])
       | (with_reducible refine And.intro (by omega) ?_)
       | fail)
    · rw [if_neg hk] at hH
      repeat' (first 
       | (with_reducible first | refine awp_scope ?_ | refine awp_seq ?_ | refine awp_block ?_)
       | ((with_reducible first | refine awp_label ?_ | refine awp_skip ?_); try simp only [thenA, inBlockA, noGotoA])
       | (with_reducible refine awp_exit ?_; simp only [thenA, inBlockA, noGotoA, if_true, Nat.reduceEqDiff, if_false, ↓reduceIte])
       | (with_reducible refine awp_ret ?_; (try simp only [thenA, inBlockA, noGotoA]); (try simp [-List.reduceReplicate, Nat.add_one_le_iff, -getElem?_pos, -getElem?_neg, List.getElem?_cons_zero, List.getElem?_cons_succ, iC, bC, e1, hin, ha, hl2, t2, hb, hk, wi]))
       | ((with_reducible first | refine awp_reg 25 hX [0, 1, 4, 5, 6, 7, 12, 22] ?_ | change postOf _ _ _ _ _); simp [-List.reduceReplicate, Nat.add_one_le_iff, -getElem?_pos, -getElem?_neg, List.getElem?_cons_zero, List.getElem?_cons_succ, iC, bC, e1, hin, ha, hl2, t2, hb, hk, wi])
       | ((first | (refine (q1 _).det ?_)); try simp [-List.reduceReplicate, Nat.add_one_le_iff, -getElem?_pos, -getElem?_neg, List.getElem?_cons_zero, List.getElem?_cons_succ, iC, bC, e1, hin, ha, hl2, t2, hb, hk, wi])
       | (with_reducible refine awp_if_b rfl (fun hc => ?_) (fun hc => ?_) <;> (try simp [-getElem?_pos, -getElem?_neg] at hc) <;> (try (exfalso; omega)))
       | ((with_reducible first | refine GuardK_b (fun hc => ?_) (fun hc => ?_)) <;> (try simp only [Bool.not_eq_true', Bool.not_eq_false', decide_eq_true_eq, decide_eq_false_iff_not] at hc) <;> (first | (exfalso; omega) | skip) <;> simp [-List.reduceReplicate, Nat.add_one_le_iff, -getElem?_pos, -getElem?_neg, List.getElem?_cons_zero, List.getElem?_cons_succ, iC, bC, e1, hin, ha, hl2, t2, hb, hk, wi, hc])
       | ((with_reducible first | refine hother _ _ rfl ?_); simp only [inBlockA, thenA, noGotoA, Nat.reduceEqDiff, if_false, if_true, ↓reduceIte])
       | (with_reducible refine And.intro (by omega) ?_)
       | fail)
      refine next _ _ (()) (by omega) (by first | trivial | omega | assumption) (by simp [-List.reduceReplicate, keep, iC, e3]) (by simp [-List.reduceReplicate, iC, e3])
  · have hj : j = n := by omega
    subst hj
    rw [Nat.sub_self, h0] at hH
    subst hH
    have e1 : (j : Int) - 1 - (j : Int) = -1 := by omega
    repeat' (first 
     | (with_reducible first | refine awp_scope ?_ | refine awp_seq ?_ | refine awp_block ?_)
     | ((with_reducible first | refine awp_label ?_ | refine awp_skip ?_); try simp only [thenA, inBlockA, noGotoA])
     | (with_reducible refine awp_exit ?_; simp only [thenA, inBlockA, noGotoA, if_true, Nat.reduceEqDiff, if_false, ↓reduceIte])
     | (with_reducible refine awp_ret ?_; (try simp only [thenA, inBlockA, noGotoA]); (try simp [-List.reduceReplicate, Nat.add_one_le_iff, -getElem?_pos, -getElem?_neg, List.getElem?_cons_zero, List.getElem?_cons_succ, iC, e1]))
     | ((with_reducible first | refine awp_reg 25 hX [0, 1, 4, 5, 6, 7, 12, 22] ?_ | change postOf _ _ _ _ _); simp [-List.reduceReplicate, Nat.add_one_le_iff, -getElem?_pos, -getElem?_neg, List.getElem?_cons_zero, List.getElem?_cons_succ, iC, e1])
     | (with_reducible refine awp_if_b rfl (fun hc => ?_) (fun hc => ?_) <;> (try simp [-getElem?_pos, -getElem?_neg] at hc) <;> (try (exfalso; omega)))
     | ((with_reducible first | refine GuardK_b (fun hc => ?_) (fun hc => ?_)) <;> (try simp only [Bool.not_eq_true', Bool.not_eq_false', decide_eq_true_eq, decide_eq_false_iff_not] at hc) <;> (first | (exfalso; omega) | skip) <;> simp [-List.reduceReplicate, Nat.add_one_le_iff, -getElem?_pos, -getElem?_neg, List.getElem?_cons_zero, List.getElem?_cons_succ, iC, e1, hc])
     | ((with_reducible first | refine hother _ _ rfl ?_); simp only [inBlockA, thenA, noGotoA, Nat.reduceEqDiff, if_false, if_true, ↓reduceIte])
     | (with_reducible refine And.intro (by omega) ?_)
     | fail)
set_option maxHeartbeats 4000000 in
theorem last40_den (a b : List H32) (n m : Nat) (fa fb : Bool) (hn : a.length = n) (hm : b.length = m) (hN : n ≤ 1000000) (hM : m ≤ 1000000) :
    DenV Try.prog 38 [.c (.sl (hsC a) n fa), .c (.sl (hsC b) m fb)] (.tup [.c (iC (lastH a b).1), .c (iC (lastH a b).2)]) := by
  refine Den.frame rfl rfl ?_
  have hlen := hsC_len a
  have hat := hsC_at a
  have p1 := fun id hid => place_den b id hid m fb hm hM
  have hst : ∀ i, lastHTo a b (i + 1) = if 0 ≤ fstI b ((a[i]?.map (·.1)).getD []) 0 then ((i : Int), fstI b ((a[i]?.map (·.1)).getD []) 0) else lastHTo a b i := fun _ => rfl
  have h0 : lastHTo a b 0 = (-1, -1) := rfl
  have hl : lastH a b = lastHTo a b n := by unfold lastH; rw [hn]
  rw [hl]
  generalize lastHTo a b = f at *
  generalize hsC b = cb at *
  generalize hsC a = ca at *
  refine den_of Try.func38 rfl rfl (by simp [Try.ntmps38]) (fun X hX hO => ?_)
  rw [Try.ntmps38] at hX
  simp only [Try.results38]
  repeat' (first 
   | (with_reducible first | refine awp_scope ?_ | refine awp_seq ?_ | refine awp_block ?_)
   | ((with_reducible first | refine awp_label ?_ | refine awp_skip ?_); try simp only [thenA, inBlockA, noGotoA])
   | (with_reducible refine awp_exit ?_; simp only [thenA, inBlockA, noGotoA, if_true, Nat.reduceEqDiff, if_false, ↓reduceIte])
   | (with_reducible refine awp_ret ?_; (try simp only [thenA, inBlockA, noGotoA]); (try simp [-List.reduceReplicate, Nat.add_one_le_iff, -getElem?_pos, -getElem?_neg, List.getElem?_cons_zero, List.getElem?_cons_succ, iC]))
   | ((with_reducible first | refine awp_reg 28 hX [0, 1, 4, 5, 6, 7, 8, 9, 13, 23] ?_ | change postOf _ _ _ _ _); simp [-List.reduceReplicate, Nat.add_one_le_iff, -getElem?_pos, -getElem?_neg, List.getElem?_cons_zero, List.getElem?_cons_succ, iC])
   | (with_reducible refine awp_if_b rfl (fun hc => ?_) (fun hc => ?_) <;> (try simp [-getElem?_pos, -getElem?_neg] at hc) <;> (try (exfalso; omega)))
   | ((with_reducible first | refine GuardK_b (fun hc => ?_) (fun hc => ?_)) <;> (try simp only [Bool.not_eq_true', Bool.not_eq_false', decide_eq_true_eq, decide_eq_false_iff_not] at hc) <;> (first | (exfalso; omega) | skip) <;> simp [-List.reduceReplicate, Nat.add_one_le_iff, -getElem?_pos, -getElem?_neg, List.getElem?_cons_zero, List.getElem?_cons_succ, iC, hc])
   | ((with_reducible first | refine hother _ _ rfl ?_); simp only [inBlockA, thenA, noGotoA, Nat.reduceEqDiff, if_false, if_true, ↓reduceIte])
   | (with_reducible refine And.intro (by omega) ?_)
   | fail)
  refine awp_forU [0, 1, 6, 7, 8] (fun i (_u : Unit) => [(6, .c (iC (f i).1)), (7, .c (iC (f i).2)), (8, .c (iC i))]) (fun i (_u : Unit) => []) (fun i (_u : Unit) => True) (n) (()) (by first | trivial | (simp; done) | omega | (intros; simp at *; done)) (by simp [-List.reduceReplicate, keep, iC, h0]) (by simp [-List.reduceReplicate, iC, h0]) ?_
  rintro i _u Q1 hi hH next hother
  conv => arg 5; arg 1; simp only [List.cons_append, List.nil_append, keep, get, Nat.reduceEqDiff, if_true, if_false, ↓reduceIte]
  have hwi := wrap_in ((i : Int) + 1) (by omega)
  by_cases hin : i < n
  · obtain ⟨h, hh⟩ : ∃ h, a[i]? = some h := ⟨_, List.getElem?_eq_getElem (by omega)⟩
    have ha := hat i h hh
    have hl2 := h.2
    have q1 := p1 h.1 hl2
    have t2 := hash_take h.1 hl2
    have hb : 32 ≤ ca.length - i * 32 := by omega
    have hs := hst i
    simp only [hh, Option.map_some, Option.getD_some] at hs
    unfold hashM at q1
    generalize fstI b h.1 0 = k at *
    by_cases hk : 0 ≤ k
    · rw [if_pos hk] at hs
      repeat' (first 
       | (with_reducible first | refine awp_scope ?_ | refine awp_seq ?_ | refine awp_block ?_)
       | ((with_reducible first | refine awp_label ?_ | refine awp_skip ?_); try simp only [thenA, inBlockA, noGotoA])
       | (with_reducible refine awp_exit ?_; simp only [thenA, inBlockA, noGotoA, if_true, Nat.reduceEqDiff, if_false, ↓reduceIte])
       | (with_reducible refine awp_ret ?_; (try simp only [thenA, inBlockA, noGotoA]); (try simp [-List.reduceReplicate, Nat.add_one_le_iff, -getElem?_pos, -getElem?_neg, List.getElem?_cons_zero, List.getElem?_cons_succ, iC, bC, hin, ha, hl2, t2, hb, hk, hwi]))
       | ((with_reducible first | refine awp_reg 28 hX [0, 1, 4, 5, 6, 7, 8, 9, 13, 23] ?_ | change postOf _ _ _ _ _); simp [-List.reduceReplicate, Nat.add_one_le_iff, -getElem?_pos, -getElem?_neg, List.getElem?_cons_zero, List.getElem?_cons_succ, iC, bC, hin, ha, hl2, t2, hb, hk, hwi])
       | ((first | (refine (q1 _).det ?_)); try simp [-List.reduceReplicate, Nat.add_one_le_iff, -getElem?_pos, -getElem?_neg, List.getElem?_cons_zero, List.getElem?_cons_succ, iC, bC, hin, ha, hl2, t2, hb, hk, hwi])
       | (with_reducible refine awp_if_b rfl (fun hc => ?_) (fun hc => ?_) <;> (try simp [-getElem?_pos, -getElem?_neg] at hc) <;> (try (exfalso; omega)))
       | ((with_reducible first | refine GuardK_b (fun hc => ?_) (fun hc => ?_)) <;> (try simp only [Bool.not_eq_true', Bool.not_eq_false', decide_eq_true_eq, decide_eq_false_iff_not] at hc) <;> (first | (exfalso; omega) | skip) <;> simp [-List.reduceReplicate, Nat.add_one_le_iff, -getElem?_pos, -getElem?_neg, List.getElem?_cons_zero, List.getElem?_cons_succ, iC, bC, hin, ha, hl2, t2, hb, hk, hwi, hc])
       | ((with_reducible first | refine hother _ _ rfl ?_); simp only [inBlockA, thenA, noGotoA, Nat.reduceEqDiff, if_false, if_true, ↓reduceIte])
       | (with_reducible refine And.intro (by omega) ?_)
       | fail)
      refine next _ _ (()) (by omega) (by first | trivial | omega | assumption) (by simp [-List.reduceReplicate, keep, iC, hs]) (by simp [-List.reduceReplicate, iC, hs])
    · rw [if_neg hk] at hs
      repeat' (first 
       | (with_reducible first | refine awp_scope ?_ | refine awp_seq ?_ | refine awp_block ?_)
       | ((with_reducible first | refine awp_label ?_ | refine awp_skip ?_); try simp only [thenA, inBlockA, noGotoA])
       | (with_reducible refine awp_exit ?_; simp only [thenA, inBlockA, noGotoA, if_true, Nat.reduceEqDiff, if_false, ↓reduceIte])
       | (with_reducible refine awp_ret ?_; (try simp only [thenA, inBlockA, noGotoA]); (try simp [-List.reduceReplicate, Nat.add_one_le_iff, -getElem?_pos, -getElem?_neg, List.getElem?_cons_zero, List.getElem?_cons_succ, iC, bC, hin, ha, hl2, t2, hb, hk, hwi]))
       | ((with_reducible first | refine awp_reg 28 hX [0, 1, 4, 5, 6, 7, 8, 9, 13, 23] ?_ | change postOf _ _ _ _ _); simp [-List.reduceReplicate, Nat.add_one_le_iff, -getElem?_pos, -getElem?_neg, List.getElem?_cons_zero, List.getElem?_cons_succ, iC, bC, hin, ha, hl2, t2, hb, hk, hwi])
       | ((first | (refine (q1 _).det ?_)); try simp [-List.reduceReplicate, Nat.add_one_le_iff, -getElem?_pos, -getElem?_neg, List.getElem?_cons_zero, List.getElem?_cons_succ, iC, bC, hin, ha, hl2, t2, hb, hk, hwi])
       | (with_reducible refine awp_if_b rfl (fun hc => ?_) (fun hc => ?_) <;> (try simp [-getElem?_pos, -getElem?_neg] at hc) <;> (try (exfalso; omega)))
       | ((with_reducible first | refine GuardK_b (fun hc => ?_) (fun hc => ?_)) <;> (try simp only [Bool.not_eq_true', Bool.not_eq_false', decide_eq_true_eq, decide_eq_false_iff_not] at hc) <;> (first | (exfalso; omega) | skip) <;> simp [-List.reduceReplicate, Nat.add_one_le_iff, -getElem?_pos, -getElem?_neg, List.getElem?_cons_zero, List.getElem?_cons_succ, iC, bC, hin, ha, hl2, t2, hb, hk, hwi, hc])
       | ((with_reducible first | refine hother _ _ rfl ?_); simp only [inBlockA, thenA, noGotoA, Nat.reduceEqDiff, if_false, if_true, ↓reduceIte])
       | (with_reducible refine And.intro (by omega) ?_)
       | fail)
      refine next _ _ (()) (by omega) (by first | trivial | omega | assumption) (by simp [-List.reduceReplicate, keep, iC, hs]) (by simp [-List.reduceReplicate, iC, hs])
  · have hj : i = n := by omega
    subst hj
    repeat' (first 
     | (with_reducible first | refine awp_scope ?_ | refine awp_seq ?_ | refine awp_block ?_)
     | ((with_reducible first | refine awp_label ?_ | refine awp_skip ?_); try simp only [thenA, inBlockA, noGotoA])
     | (with_reducible refine awp_exit ?_; simp only [thenA, inBlockA, noGotoA, if_true, Nat.reduceEqDiff, if_false, ↓reduceIte])
     | (with_reducible refine awp_ret ?_; (try simp only [thenA, inBlockA, noGotoA]); (try simp [-List.reduceReplicate, Nat.add_one_le_iff, -getElem?_pos, -getElem?_neg, List.getElem?_cons_zero, List.getElem?_cons_succ, iC]))
     | ((with_reducible first | refine awp_reg 28 hX [0, 1, 4, 5, 6, 7, 8, 9, 13, 23] ?_ | change postOf _ _ _ _ _); simp [-List.reduceReplicate, Nat.add_one_le_iff, -getElem?_pos, -getElem?_neg, List.getElem?_cons_zero, List.getElem?_cons_succ, iC])
     | (with_reducible refine awp_if_b rfl (fun hc => ?_) (fun hc => ?_) <;> (try simp [-getElem?_pos, -getElem?_neg] at hc) <;> (try (exfalso; omega)))
     | ((with_reducible first | refine GuardK_b (fun hc => ?_) (fun hc => ?_)) <;> (try simp only [Bool.not_eq_true', Bool.not_eq_false', decide_eq_true_eq, decide_eq_false_iff_not] at hc) <;> (first | (exfalso; omega) | skip) <;> simp [-List.reduceReplicate, Nat.add_one_le_iff, -getElem?_pos, -getElem?_neg, List.getElem?_cons_zero, List.getElem?_cons_succ, iC, hc])
     | ((with_reducible first | refine hother _ _ rfl ?_); simp only [inBlockA, thenA, noGotoA, Nat.reduceEqDiff, if_false, if_true, ↓reduceIte])
     | (with_reducible refine And.intro (by omega) ?_)
     | fail)
end Go.Av

set_option exponentiation.threshold 1000
set_option linter.unusedVariables false
set_option linter.unusedSimpArgs false
set_option maxRecDepth 100000
set_option maxHeartbeats 4000000
namespace Go.Av
open Go Go.Proofs Go.Proofs.Ytofomnllcmgfeaa Go.RowKit
/-! ### duel: behind, Scores, Verdict -/
def sideL (a : List H32) (za : List Int) : List C := [.sl (hsC a) a.length false, .sl (za.map iC) za.length false]
def sideM (a : List H32) (za : List Int) : M := .agg (up (sideL a za))
def behI (zs : List Int) (at_ : Int) : List Int := if at_ < 0 ∨ (zs.length : Int) ≤ at_ + 1 then [] else zs.drop (at_ + 1).toNat
theorem behI_len (zs : List Int) (at_ : Int) : (behI zs at_).length ≤ zs.length := by
  unfold behI
  split
  · simp
  · simp
set_option maxHeartbeats 4000000 in
theorem behind_den (a : List H32) (zs : List Int) (at_ : Int) (h1 : -1 ≤ at_) (h2 : at_ ≤ 1000000) : DenV Try.prog 66 [sideM a zs, .c (iC at_)] (.c (.sl ((behI zs at_).map iC) (behI zs at_).length false)) := by
  refine Den.frame rfl rfl ?_
  have hw := wrap_in (at_ + 1) (by omega)
  by_cases hc : at_ < 0 ∨ (zs.length : Int) ≤ at_ + 1
  · have e : behI zs at_ = [] := by unfold behI; rw [if_pos hc]
    rw [e]
    have : Den Try.prog 66 [sideM a zs, .c (iC at_)] [] (fun r _ => r = .c (.v (.slice none 0 0))) := by
      unfold sideM sideL
      refine den_of Try.func66 rfl rfl (by simp [Try.ntmps66]) (fun X hX hO => ?_)
      rw [Try.ntmps66] at hX
      simp only [Try.results66]
      by_cases c1 : at_ < 0
      · repeat' (first 
         | (with_reducible first | refine awp_scope ?_ | refine awp_seq ?_ | refine awp_block ?_)
         | ((with_reducible first | refine awp_label ?_ | refine awp_skip ?_); try simp only [thenA, inBlockA, noGotoA])
         | (with_reducible refine awp_exit ?_; simp only [thenA, inBlockA, noGotoA, if_true, Nat.reduceEqDiff, if_false, ↓reduceIte])
         | (with_reducible refine awp_ret ?_; (try simp only [thenA, inBlockA, noGotoA]); (try simp [-List.reduceReplicate, Nat.add_one_le_iff, -getElem?_pos, -getElem?_neg, List.getElem?_cons_zero, List.getElem?_cons_succ, iC, bC, c1, hw]))
         | ((with_reducible first | refine awp_reg 20 hX [1, 2, 4, 14] ?_ | change postOf _ _ _ _ _); simp [-List.reduceReplicate, Nat.add_one_le_iff, -getElem?_pos, -getElem?_neg, List.getElem?_cons_zero, List.getElem?_cons_succ, iC, bC, c1, hw])
         | (with_reducible refine awp_if_b rfl (fun hc => ?_) (fun hc => ?_) <;> (try simp [-getElem?_pos, -getElem?_neg] at hc) <;> (try (exfalso; omega)))
         | ((with_reducible first | refine GuardK_b (fun hc => ?_) (fun hc => ?_)) <;> (try simp only [Bool.not_eq_true', Bool.not_eq_false', decide_eq_true_eq, decide_eq_false_iff_not] at hc) <;> (first | (exfalso; omega) | skip) <;> simp [-List.reduceReplicate, Nat.add_one_le_iff, -getElem?_pos, -getElem?_neg, List.getElem?_cons_zero, List.getElem?_cons_succ, iC, bC, c1, hw, hc])
         | (with_reducible refine And.intro (by omega) ?_)
         | fail)
      · have c2 : (zs.length : Int) ≤ at_ + 1 := by omega
        repeat' (first 
         | (with_reducible first | refine awp_scope ?_ | refine awp_seq ?_ | refine awp_block ?_)
         | ((with_reducible first | refine awp_label ?_ | refine awp_skip ?_); try simp only [thenA, inBlockA, noGotoA])
         | (with_reducible refine awp_exit ?_; simp only [thenA, inBlockA, noGotoA, if_true, Nat.reduceEqDiff, if_false, ↓reduceIte])
         | (with_reducible refine awp_ret ?_; (try simp only [thenA, inBlockA, noGotoA]); (try simp [-List.reduceReplicate, Nat.add_one_le_iff, -getElem?_pos, -getElem?_neg, List.getElem?_cons_zero, List.getElem?_cons_succ, iC, bC, c1, c2, hw]))
         | ((with_reducible first | refine awp_reg 20 hX [1, 2, 4, 14] ?_ | change postOf _ _ _ _ _); simp [-List.reduceReplicate, Nat.add_one_le_iff, -getElem?_pos, -getElem?_neg, List.getElem?_cons_zero, List.getElem?_cons_succ, iC, bC, c1, c2, hw])
         | (with_reducible refine awp_if_b rfl (fun hc => ?_) (fun hc => ?_) <;> (try simp [-getElem?_pos, -getElem?_neg] at hc) <;> (try (exfalso; omega)))
         | ((with_reducible first | refine GuardK_b (fun hc => ?_) (fun hc => ?_)) <;> (try simp only [Bool.not_eq_true', Bool.not_eq_false', decide_eq_true_eq, decide_eq_false_iff_not] at hc) <;> (first | (exfalso; omega) | skip) <;> simp [-List.reduceReplicate, Nat.add_one_le_iff, -getElem?_pos, -getElem?_neg, List.getElem?_cons_zero, List.getElem?_cons_succ, iC, bC, c1, c2, hw, hc])
         | (with_reducible refine And.intro (by omega) ?_)
         | fail)
    exact this.leR (fun r ob' e => ⟨_, by subst e; exact leM_c (leC_nil _), rfl⟩)
  · have e : behI zs at_ = zs.drop (at_ + 1).toNat := by unfold behI; rw [if_neg hc]
    rw [e]
    have c1 : ¬ at_ < 0 := by omega
    have c2 : ¬ (zs.length : Int) ≤ at_ + 1 := by omega
    obtain ⟨k, hk⟩ : ∃ k : Nat, at_ + 1 = (k : Int) := ⟨(at_ + 1).toNat, by omega⟩
    have hkn : (at_ + 1).toNat = k := by omega
    rw [hkn]
    have hl : (zs.drop k).length = zs.length - k := by simp
    have hle : k ≤ zs.length := by omega
    have hne : ¬ k = zs.length := by omega
    have htn : ((zs.length : Int) - (k : Int)).toNat = zs.length - k := by omega
    have htk : ((zs.map iC).drop k).take (zs.length - k) = (zs.drop k).map iC := by rw [List.take_of_length_le (by simp), List.map_drop]
    rw [hk] at hw c2
    rw [hl]
    unfold sideM sideL
    refine den_of Try.func66 rfl rfl (by simp [Try.ntmps66]) (fun X hX hO => ?_)
    rw [Try.ntmps66] at hX
    simp only [Try.results66]
    repeat' (first 
     | (with_reducible first | refine awp_scope ?_ | refine awp_seq ?_ | refine awp_block ?_)
     | ((with_reducible first | refine awp_label ?_ | refine awp_skip ?_); try simp only [thenA, inBlockA, noGotoA])
     | (with_reducible refine awp_exit ?_; simp only [thenA, inBlockA, noGotoA, if_true, Nat.reduceEqDiff, if_false, ↓reduceIte])
     | (with_reducible refine awp_ret ?_; (try simp only [thenA, inBlockA, noGotoA]); (try simp [-List.reduceReplicate, Nat.add_one_le_iff, -getElem?_pos, -getElem?_neg, List.getElem?_cons_zero, List.getElem?_cons_succ, iC, bC, c1, c2, hk, hw, hkn, hle, hne, htn, htk]))
     | ((with_reducible first | refine awp_reg 20 hX [1, 2, 4, 14] ?_ | change postOf _ _ _ _ _); simp [-List.reduceReplicate, Nat.add_one_le_iff, -getElem?_pos, -getElem?_neg, List.getElem?_cons_zero, List.getElem?_cons_succ, iC, bC, c1, c2, hk, hw, hkn, hle, hne, htn, htk])
     | (with_reducible refine awp_if_b rfl (fun hc => ?_) (fun hc => ?_) <;> (try simp [-getElem?_pos, -getElem?_neg] at hc) <;> (try (exfalso; omega)))
     | ((with_reducible first | refine GuardK_b (fun hc => ?_) (fun hc => ?_)) <;> (try simp only [Bool.not_eq_true', Bool.not_eq_false', decide_eq_true_eq, decide_eq_false_iff_not] at hc) <;> (first | (exfalso; omega) | skip) <;> simp [-List.reduceReplicate, Nat.add_one_le_iff, -getElem?_pos, -getElem?_neg, List.getElem?_cons_zero, List.getElem?_cons_succ, iC, bC, c1, c2, hk, hw, hkn, hle, hne, htn, htk, hc])
     | (with_reducible refine And.intro (by omega) ?_)
     | fail)
    intro h
    omega
/-- The arguments of two sides, and which is better. -/
def argN (a b : List H32) (za zb : List Int) (m : Int) : (Nat × Nat) × (Nat × Nat) := if (lastH a b).1 < 0 then ((0, 0), (0, 0)) else (bestN (behI za (lastH a b).1) m 256, bestN (behI zb (lastH a b).2) m 256)
def vrdN (a b : List H32) (za zb : List Int) (m : Int) : Int := if (lastH a b).1 < 0 then 0 else cmpN (bestN (behI za (lastH a b).1) m 256).1 (bestN (behI zb (lastH a b).2) m 256).1
theorem lastH_range (a b : List H32) : lastH a b = (-1, -1) ∨ (0 ≤ (lastH a b).1 ∧ (lastH a b).1 < (a.length : Int) ∧ 0 ≤ (lastH a b).2 ∧ (lastH a b).2 < (b.length : Int)) := lastTo_range a b a.length
set_option maxHeartbeats 4000000 in
theorem scores_den (a b : List H32) (za zb : List Int) (m : Int) (ha : a.length ≤ 100000) (hb : b.length ≤ 100000) (hza : za.length ≤ 100000) (hzb : zb.length ≤ 100000) :
    DenV Try.prog 37 [sideM a za, sideM b zb, .c (iC m)] (.tup [.agg (up (scoreC (argN a b za zb m).1)), .agg (up (scoreC (argN a b za zb m).2)), .c (bC (!decide ((lastH a b).1 < 0)))]) := by
  refine Den.frame rfl rfl ?_
  have p1 := commonLast_den a b a.length b.length false false rfl rfl (by omega) (by omega)
  have hr := lastH_range a b
  have pa := fun at_ h1 h2 => behind_den a za at_ h1 h2
  have pb := fun at_ h1 h2 => behind_den b zb at_ h1 h2
  have la := behI_len za
  have lb := behI_len zb
  have sl : ∀ p, (scoreC p).length = 6 := fun _ => rfl
  have tl : ∀ p, (scoreC p).take 6 = scoreC p := fun _ => rfl
  have qa := fun at_ => best_den (behI za at_) m false (by have := la at_; omega)
  have qb := fun at_ => best_den (behI zb at_) m false (by have := lb at_; omega)
  have h0 : ∀ r : (Nat × Nat) × (Nat × Nat), r = argN a b za zb m → r = (if (lastH a b).1 < 0 then ((0, 0), (0, 0)) else (bestN (behI za (lastH a b).1) m 256, bestN (behI zb (lastH a b).2) m 256)) := fun r h => h
  have hs0 : scoreC (0, 0) = [C.v (.int .u64 0), C.v (.int .u64 0), C.v (.int .u64 0), C.v (.int .u64 0), C.v (.int .u64 0), C.v (.int .i64 0)] := by simp [scoreC, limL, lim, u64C, iC]
  obtain ⟨r, hre⟩ : ∃ r, r = argN a b za zb m := ⟨_, rfl⟩
  have hre2 := h0 r hre
  rw [← hre]
  obtain ⟨i, hi⟩ : ∃ i, (lastH a b).1 = i := ⟨_, rfl⟩
  obtain ⟨k, hk⟩ : ∃ k, (lastH a b).2 = k := ⟨_, rfl⟩
  rw [hi, hk] at p1 hre2
  rw [hi]
  have lyS : ∀ p q, lay (up (scoreC p)) 0 (up (scoreC q)) = up (scoreC q) := fun _ _ => rfl
  by_cases c : i < 0
  · rw [if_pos c] at hre2
    subst hre2
    unfold sideM sideL
    refine den_of Try.func37 rfl rfl (by simp [Try.ntmps37]) (fun X hX hO => ?_)
    rw [Try.ntmps37] at hX
    simp only [Try.results37]
    repeat' (first 
     | (with_reducible first | refine awp_scope ?_ | refine awp_seq ?_ | refine awp_block ?_)
     | ((with_reducible first | refine awp_label ?_ | refine awp_skip ?_); try simp only [thenA, inBlockA, noGotoA])
     | (with_reducible refine awp_exit ?_; simp only [thenA, inBlockA, noGotoA, if_true, Nat.reduceEqDiff, if_false, ↓reduceIte])
     | (with_reducible refine awp_ret ?_; (try simp only [thenA, inBlockA, noGotoA]); (try simp [-List.reduceReplicate, Nat.add_one_le_iff, -getElem?_pos, -getElem?_neg, List.getElem?_cons_zero, List.getElem?_cons_succ, iC, bC, c, hs0, up]))
     | ((with_reducible first | refine awp_reg 33 hX [2, 3, 4, 6, 7, 8, 9, 10, 20] ?_ | refine awp_drw 33 hX [2, 3, 4, 6, 7, 8, 9, 10, 20] Tab.mixed (by kernel_rfl) ?_ | refine DEv_cut _ _ _ _ _ _ _ _ _ _ _ _ (by kernel_rfl) ?_ | change postOf _ _ _ _ _); simp [-List.reduceReplicate, Nat.add_one_le_iff, -getElem?_pos, -getElem?_neg, List.getElem?_cons_zero, List.getElem?_cons_succ, iC, bC, c, hs0, up])
     | ((first | (refine (p1 _).det ?_) | (refine ⟨_, _, p1 _, fun _ => rfl, ?_⟩)); try simp [-List.reduceReplicate, Nat.add_one_le_iff, -getElem?_pos, -getElem?_neg, List.getElem?_cons_zero, List.getElem?_cons_succ, iC, bC, c, hs0, up])
     | (with_reducible refine awp_if_b rfl (fun hc => ?_) (fun hc => ?_) <;> (try simp [-getElem?_pos, -getElem?_neg] at hc) <;> (try (exfalso; omega)))
     | ((with_reducible first | refine GuardK_b (fun hc => ?_) (fun hc => ?_) | refine DGuard_b _ _ _ _ _ _ _ _ _ _ (fun hc => ?_) (fun hc => ?_)) <;> (try simp only [Bool.not_eq_true', Bool.not_eq_false', decide_eq_true_eq, decide_eq_false_iff_not] at hc) <;> (first | (exfalso; omega) | skip) <;> simp [-List.reduceReplicate, Nat.add_one_le_iff, -getElem?_pos, -getElem?_neg, List.getElem?_cons_zero, List.getElem?_cons_succ, iC, bC, c, hs0, up, hc])
     | (with_reducible refine And.intro (by omega) ?_)
     | fail)
  · rw [if_neg c] at hre2
    have hii : 0 ≤ i ∧ i < (a.length : Int) ∧ 0 ≤ k ∧ k < (b.length : Int) := by
      rcases hr with h | h
      · rw [h] at hi; simp at hi; omega
      · rw [hi, hk] at h; exact h
    have pa1 := pa i (by omega) (by omega)
    have pb1 := pb k (by omega) (by omega)
    have qa1 := qa i
    have qb1 := qb k
    generalize bestN (behI za i) m 256 = x at *
    generalize bestN (behI zb k) m 256 = y at *
    generalize behI za i = xa at *
    generalize behI zb k = xb at *
    subst hre2
    have lz : [M.c (C.v (.int .u64 0)), M.c (C.v (.int .u64 0)), M.c (C.v (.int .u64 0)), M.c (C.v (.int .u64 0)), M.c (C.v (.int .u64 0)), M.c (C.v (.int .i64 0))] = up (scoreC (0, 0)) := by rw [hs0]; rfl
    unfold sideM sideL at *
    refine den_of Try.func37 rfl rfl (by simp [Try.ntmps37]) (fun X hX hO => ?_)
    rw [Try.ntmps37] at hX
    simp only [Try.results37]
    repeat' (first 
     | (with_reducible first | refine awp_scope ?_ | refine awp_seq ?_ | refine awp_block ?_)
     | ((with_reducible first | refine awp_label ?_ | refine awp_skip ?_); try simp only [thenA, inBlockA, noGotoA])
     | (with_reducible refine awp_exit ?_; simp only [thenA, inBlockA, noGotoA, if_true, Nat.reduceEqDiff, if_false, ↓reduceIte])
     | (with_reducible refine awp_ret ?_; (try simp only [thenA, inBlockA, noGotoA]); (try simp [-List.reduceReplicate, Nat.add_one_le_iff, -getElem?_pos, -getElem?_neg, List.getElem?_cons_zero, List.getElem?_cons_succ, iC, bC, c, sl, tl]))
     | ((with_reducible first | refine awp_reg 33 hX [2, 3, 4, 6, 7, 8, 9, 10, 20] ?_ | refine awp_drw 33 hX [2, 3, 4, 6, 7, 8, 9, 10, 20] Tab.mixed (by kernel_rfl) ?_ | refine DEv_cut _ _ _ _ _ _ _ _ _ _ _ _ (by kernel_rfl) ?_ | change postOf _ _ _ _ _); simp [-List.reduceReplicate, Nat.add_one_le_iff, -getElem?_pos, -getElem?_neg, List.getElem?_cons_zero, List.getElem?_cons_succ, iC, bC, c, sl, tl])
     | ((first | (refine (p1 _).det ?_) | (refine ⟨_, _, p1 _, fun _ => rfl, ?_⟩) | (refine (pa1 _).det ?_) | (refine ⟨_, _, pa1 _, fun _ => rfl, ?_⟩) | (refine (pb1 _).det ?_) | (refine ⟨_, _, pb1 _, fun _ => rfl, ?_⟩) | (refine (qa1 _).det ?_) | (refine ⟨_, _, qa1 _, fun _ => rfl, ?_⟩) | (refine (qb1 _).det ?_) | (refine ⟨_, _, qb1 _, fun _ => rfl, ?_⟩)); try simp [-List.reduceReplicate, Nat.add_one_le_iff, -getElem?_pos, -getElem?_neg, List.getElem?_cons_zero, List.getElem?_cons_succ, iC, bC, c, sl, tl])
     | (with_reducible refine awp_if_b rfl (fun hc => ?_) (fun hc => ?_) <;> (try simp [-getElem?_pos, -getElem?_neg] at hc) <;> (try (exfalso; omega)))
     | ((with_reducible first | refine GuardK_b (fun hc => ?_) (fun hc => ?_) | refine DGuard_b _ _ _ _ _ _ _ _ _ _ (fun hc => ?_) (fun hc => ?_)) <;> (try simp only [Bool.not_eq_true', Bool.not_eq_false', decide_eq_true_eq, decide_eq_false_iff_not] at hc) <;> (first | (exfalso; omega) | skip) <;> simp [-List.reduceReplicate, Nat.add_one_le_iff, -getElem?_pos, -getElem?_neg, List.getElem?_cons_zero, List.getElem?_cons_succ, iC, bC, c, sl, tl, hc])
     | (with_reducible refine And.intro (by omega) ?_)
     | fail)
set_option maxHeartbeats 4000000 in
theorem verdict_den (a b : List H32) (za zb : List Int) (m : Int) (ha : a.length ≤ 100000) (hb : b.length ≤ 100000) (hza : za.length ≤ 100000) (hzb : zb.length ≤ 100000) :
    DenV Try.prog 39 [sideM a za, sideM b zb, .c (iC m)] (.c (iC (vrdN a b za zb m))) := by
  refine Den.frame rfl rfl ?_
  have p1 := scores_den a b za zb m ha hb hza hzb
  have la := behI_len za
  have lb := behI_len zb
  have hba := fun at_ => bestN_lt (behI za at_) m (by have := la at_; omega) 256 (by omega)
  have hbb := fun at_ => bestN_lt (behI zb at_) m (by have := lb at_; omega) 256 (by omega)
  unfold argN at p1
  unfold vrdN
  obtain ⟨i, hi⟩ : ∃ i, (lastH a b).1 = i := ⟨_, rfl⟩
  obtain ⟨k, hk⟩ : ∃ k, (lastH a b).2 = k := ⟨_, rfl⟩
  rw [hi, hk] at p1 ⊢
  have q1 := cmp_den (bestN (behI za i) m 256).1 (bestN (behI zb k) m 256).1 (hba i) (hbb k)
  generalize bestN (behI za i) m 256 = x at *
  generalize bestN (behI zb k) m 256 = y at *
  have sl : ∀ p, (scoreC p).length = 6 := fun _ => rfl
  have tl : ∀ p, (scoreC p).take 6 = scoreC p := fun _ => rfl
  have t5 : ∀ p, (scoreC p).take 5 = limC 5 p.1 := fun p => by rw [limL_eq]; rfl
  have lyS : ∀ q, lay [M.c (C.v (.int .u64 0)), M.c (C.v (.int .u64 0)), M.c (C.v (.int .u64 0)), M.c (C.v (.int .u64 0)), M.c (C.v (.int .u64 0)), M.c (C.v (.int .i64 0))] 0 (up (scoreC q)) = up (scoreC q) := fun _ => rfl
  unfold largeM at q1
  by_cases c : i < 0
  · simp only [c, if_true, decide_true, Bool.not_true] at p1 ⊢
    unfold sideM sideL at *
    refine den_of Try.func39 rfl rfl (by simp [Try.ntmps39]) (fun X hX hO => ?_)
    rw [Try.ntmps39] at hX
    simp only [Try.results39]
    repeat' (first 
     | (with_reducible first | refine awp_scope ?_ | refine awp_seq ?_ | refine awp_block ?_)
     | ((with_reducible first | refine awp_label ?_ | refine awp_skip ?_); try simp only [thenA, inBlockA, noGotoA])
     | (with_reducible refine awp_exit ?_; simp only [thenA, inBlockA, noGotoA, if_true, Nat.reduceEqDiff, if_false, ↓reduceIte])
     | (with_reducible refine awp_ret ?_; (try simp only [thenA, inBlockA, noGotoA]); (try simp [-List.reduceReplicate, Nat.add_one_le_iff, -getElem?_pos, -getElem?_neg, List.getElem?_cons_zero, List.getElem?_cons_succ, iC, bC, sl, tl, lyS]))
     | ((with_reducible first | refine awp_reg 25 hX [2, 3, 4, 6, 7, 8, 9, 19] ?_ | change postOf _ _ _ _ _); simp [-List.reduceReplicate, Nat.add_one_le_iff, -getElem?_pos, -getElem?_neg, List.getElem?_cons_zero, List.getElem?_cons_succ, iC, bC, sl, tl, lyS])
     | ((first | (refine (p1 _).det ?_)); try simp [-List.reduceReplicate, Nat.add_one_le_iff, -getElem?_pos, -getElem?_neg, List.getElem?_cons_zero, List.getElem?_cons_succ, iC, bC, sl, tl, lyS])
     | (with_reducible refine awp_if_b rfl (fun hc => ?_) (fun hc => ?_) <;> (try simp [-getElem?_pos, -getElem?_neg] at hc) <;> (try (exfalso; omega)))
     | ((with_reducible first | refine GuardK_b (fun hc => ?_) (fun hc => ?_)) <;> (try simp only [Bool.not_eq_true', Bool.not_eq_false', decide_eq_true_eq, decide_eq_false_iff_not] at hc) <;> (first | (exfalso; omega) | skip) <;> simp [-List.reduceReplicate, Nat.add_one_le_iff, -getElem?_pos, -getElem?_neg, List.getElem?_cons_zero, List.getElem?_cons_succ, iC, bC, sl, tl, lyS, hc])
     | (with_reducible refine And.intro (by omega) ?_)
     | fail)
  · simp only [c, if_false, decide_false, Bool.not_false] at p1 ⊢
    unfold sideM sideL at *
    refine den_of Try.func39 rfl rfl (by simp [Try.ntmps39]) (fun X hX hO => ?_)
    rw [Try.ntmps39] at hX
    simp only [Try.results39]
    repeat' (first 
     | (with_reducible first | refine awp_scope ?_ | refine awp_seq ?_ | refine awp_block ?_)
     | ((with_reducible first | refine awp_label ?_ | refine awp_skip ?_); try simp only [thenA, inBlockA, noGotoA])
     | (with_reducible refine awp_exit ?_; simp only [thenA, inBlockA, noGotoA, if_true, Nat.reduceEqDiff, if_false, ↓reduceIte])
     | (with_reducible refine awp_ret ?_; (try simp only [thenA, inBlockA, noGotoA]); (try simp [-List.reduceReplicate, Nat.add_one_le_iff, -getElem?_pos, -getElem?_neg, List.getElem?_cons_zero, List.getElem?_cons_succ, iC, bC, sl, tl, t5, lyS]))
     | ((with_reducible first | refine awp_reg 25 hX [2, 3, 4, 6, 7, 8, 9, 19] ?_ | change postOf _ _ _ _ _); simp [-List.reduceReplicate, Nat.add_one_le_iff, -getElem?_pos, -getElem?_neg, List.getElem?_cons_zero, List.getElem?_cons_succ, iC, bC, sl, tl, t5, lyS])
     | ((first | (refine (p1 _).det ?_) | (refine (q1 _).det ?_)); try simp [-List.reduceReplicate, Nat.add_one_le_iff, -getElem?_pos, -getElem?_neg, List.getElem?_cons_zero, List.getElem?_cons_succ, iC, bC, sl, tl, t5, lyS])
     | (with_reducible refine awp_if_b rfl (fun hc => ?_) (fun hc => ?_) <;> (try simp [-getElem?_pos, -getElem?_neg] at hc) <;> (try (exfalso; omega)))
     | ((with_reducible first | refine GuardK_b (fun hc => ?_) (fun hc => ?_)) <;> (try simp only [Bool.not_eq_true', Bool.not_eq_false', decide_eq_true_eq, decide_eq_false_iff_not] at hc) <;> (first | (exfalso; omega) | skip) <;> simp [-List.reduceReplicate, Nat.add_one_le_iff, -getElem?_pos, -getElem?_neg, List.getElem?_cons_zero, List.getElem?_cons_succ, iC, bC, sl, tl, t5, lyS, hc])
     | (with_reducible refine And.intro (by omega) ?_)
     | fail)
end Go.Av

set_option exponentiation.threshold 1000
set_option linter.unusedVariables false
set_option linter.unusedSimpArgs false
set_option maxRecDepth 100000
set_option maxHeartbeats 4000000
namespace Go.Av
open Go Go.Proofs Go.Proofs.Ytofomnllcmgfeaa Go.RowKit
/-! ### the document's score and verdict -/
open Go.Av.Up (pl hit)
set_option maxHeartbeats 4000000 in
theorem value40_den (zs : List Int) (lv : Nat) (hl : lv ≤ 255) (hn : zs.length ≤ 1000000) : DenV Try.prog 70 [.c (intsC zs), .c (iC lv)] (.c (ndC (dg (valN zs lv)))) := by
  refine Den.frame rfl rfl ?_
  have p1 := count38_den zs lv hn
  have hc := cntN_le zs lv
  have p2 := of05_den (cntN zs lv) (by omega)
  have p3 := power_den lv (by omega)
  have hdl : (dg (cntN zs lv)).length ≤ 10000 := by
    rcases Nat.lt_or_ge (dg (cntN zs lv)).length 10000 with h | h
    · omega
    · exfalso
      by_cases h0 : cntN zs lv = 0
      · rw [h0, dg_0] at h; simp at h
      · have h1 := (dg_bd (cntN zs lv)).2 h0
        have h2 : 65536 ^ 2 ≤ 65536 ^ ((dg (cntN zs lv)).length - 1) := Nat.pow_le_pow_right (by decide) (by omega)
        omega
  have p4 := mul_den (dg (cntN zs lv)) (pwL lv) (dg_lt _) (pwL_lt lv) hdl (by rw [pwL_len]; omega)
  rw [dgv_dg, pwL_val] at p4
  have e : (plI zs 0 lv).length = cntN zs lv := rfl
  rw [e] at p1
  have ev : cntN zs lv * 2 ^ lv = valN zs lv := rfl
  rw [ev] at p4
  clear e ev hdl
  generalize dg (valN zs lv) = r at *
  generalize dg (cntN zs lv) = d at *
  generalize pwL lv = pw at *
  generalize cntN zs lv = c at *
  have w1 := wrapU64 (c : Int) (by omega)
  have i1 : ¬ (lv : Int) < 0 := by omega
  have i2 : ¬ (255 : Int) < lv := by omega
  unfold u64C intsC at *
  refine den_of Try.func70 rfl rfl (by simp [Try.ntmps70]) (fun X hX hO => ?_)
  rw [Try.ntmps70] at hX
  simp only [Try.results70]
  repeat' (first 
   | (with_reducible first | refine awp_scope ?_ | refine awp_seq ?_ | refine awp_block ?_)
   | ((with_reducible first | refine awp_label ?_ | refine awp_skip ?_); try simp only [thenA, inBlockA, noGotoA])
   | (with_reducible refine awp_exit ?_; simp only [thenA, inBlockA, noGotoA, if_true, Nat.reduceEqDiff, if_false, ↓reduceIte])
   | (with_reducible refine awp_ret ?_; (try simp only [thenA, inBlockA, noGotoA]); (try simp [-List.reduceReplicate, Nat.add_one_le_iff, -getElem?_pos, -getElem?_neg, List.getElem?_cons_zero, List.getElem?_cons_succ, iC, bC, w1, i1, i2]))
   | ((with_reducible first | refine awp_reg 19 hX [0, 1, 4, 10] ?_ | change postOf _ _ _ _ _); simp [-List.reduceReplicate, Nat.add_one_le_iff, -getElem?_pos, -getElem?_neg, List.getElem?_cons_zero, List.getElem?_cons_succ, iC, bC, w1, i1, i2])
   | ((first | (refine (p1 _).det ?_) | (refine (p2 _).det ?_) | (refine (p3 _).det ?_) | (refine (p4 _).det ?_)); try simp [-List.reduceReplicate, Nat.add_one_le_iff, -getElem?_pos, -getElem?_neg, List.getElem?_cons_zero, List.getElem?_cons_succ, iC, bC, w1, i1, i2])
   | (with_reducible refine awp_if_b rfl (fun hc => ?_) (fun hc => ?_) <;> (try simp [-getElem?_pos, -getElem?_neg] at hc) <;> (try (exfalso; omega)))
   | ((with_reducible first | refine GuardK_b (fun hc => ?_) (fun hc => ?_)) <;> (try simp only [Bool.not_eq_true', Bool.not_eq_false', decide_eq_true_eq, decide_eq_false_iff_not] at hc) <;> (first | (exfalso; omega) | skip) <;> simp [-List.reduceReplicate, Nat.add_one_le_iff, -getElem?_pos, -getElem?_neg, List.getElem?_cons_zero, List.getElem?_cons_succ, iC, bC, w1, i1, i2, hc])
   | (with_reducible refine And.intro (by omega) ?_)
   | fail)
set_option maxHeartbeats 4000000 in
theorem may40_den (zs : List Int) (lv : Nat) (m : Int) (hl : lv ≤ 255) (hn : zs.length ≤ 1000000) : DenV Try.prog 69 [.c (intsC zs), .c (iC lv), .c (iC m)] (.c (bC (mayN zs lv m))) := by
  refine Den.frame rfl rfl ?_
  have p1 := count38_den zs lv hn
  have e : (plI zs 0 lv).length = cntN zs lv := rfl
  rw [e] at p1
  unfold mayN
  generalize cntN zs lv = c at *
  unfold intsC at *
  refine den_of Try.func69 rfl rfl (by simp [Try.ntmps69]) (fun X hX hO => ?_)
  rw [Try.ntmps69] at hX
  simp only [Try.results69]
  by_cases h0 : lv = 0
  · subst h0
    repeat' (first 
     | (with_reducible first | refine awp_scope ?_ | refine awp_seq ?_ | refine awp_block ?_)
     | ((with_reducible first | refine awp_label ?_ | refine awp_skip ?_); try simp only [thenA, inBlockA, noGotoA])
     | (with_reducible refine awp_exit ?_; simp only [thenA, inBlockA, noGotoA, if_true, Nat.reduceEqDiff, if_false, ↓reduceIte])
     | (with_reducible refine awp_ret ?_; (try simp only [thenA, inBlockA, noGotoA]); (try simp [-List.reduceReplicate, Nat.add_one_le_iff, -getElem?_pos, -getElem?_neg, List.getElem?_cons_zero, List.getElem?_cons_succ, iC, bC]))
     | ((with_reducible first | refine awp_reg 24 hX [0, 1, 2, 6] ?_ | change postOf _ _ _ _ _); simp [-List.reduceReplicate, Nat.add_one_le_iff, -getElem?_pos, -getElem?_neg, List.getElem?_cons_zero, List.getElem?_cons_succ, iC, bC])
     | (with_reducible refine awp_if_b rfl (fun hc => ?_) (fun hc => ?_) <;> (try simp [-getElem?_pos, -getElem?_neg] at hc) <;> (try (exfalso; omega)))
     | ((with_reducible first | refine GuardK_b (fun hc => ?_) (fun hc => ?_)) <;> (try simp only [Bool.not_eq_true', Bool.not_eq_false', decide_eq_true_eq, decide_eq_false_iff_not] at hc) <;> (first | (exfalso; omega) | skip) <;> simp [-List.reduceReplicate, Nat.add_one_le_iff, -getElem?_pos, -getElem?_neg, List.getElem?_cons_zero, List.getElem?_cons_succ, iC, bC, hc])
     | (with_reducible refine And.intro (by omega) ?_)
     | fail)
  · have i0 : 0 < lv := by omega
    have i1 : ¬ (lv : Int) = 0 := by omega
    have i2 : (0 : Int) < lv := by omega
    have i3 : (lv : Int) ≤ 255 := by omega
    repeat' (first 
     | (with_reducible first | refine awp_scope ?_ | refine awp_seq ?_ | refine awp_block ?_)
     | ((with_reducible first | refine awp_label ?_ | refine awp_skip ?_); try simp only [thenA, inBlockA, noGotoA])
     | (with_reducible refine awp_exit ?_; simp only [thenA, inBlockA, noGotoA, if_true, Nat.reduceEqDiff, if_false, ↓reduceIte])
     | (with_reducible refine awp_ret ?_; (try simp only [thenA, inBlockA, noGotoA]); (try simp [-List.reduceReplicate, Nat.add_one_le_iff, -getElem?_pos, -getElem?_neg, List.getElem?_cons_zero, List.getElem?_cons_succ, iC, bC, h0, i0, i1, i2, i3]))
     | ((with_reducible first | refine awp_reg 24 hX [0, 1, 2, 6] ?_ | change postOf _ _ _ _ _); simp [-List.reduceReplicate, Nat.add_one_le_iff, -getElem?_pos, -getElem?_neg, List.getElem?_cons_zero, List.getElem?_cons_succ, iC, bC, h0, i0, i1, i2, i3])
     | ((first | (refine (p1 _).det ?_)); try simp [-List.reduceReplicate, Nat.add_one_le_iff, -getElem?_pos, -getElem?_neg, List.getElem?_cons_zero, List.getElem?_cons_succ, iC, bC, h0, i0, i1, i2, i3])
     | (with_reducible refine awp_if_b rfl (fun hc => ?_) (fun hc => ?_) <;> (try simp [-getElem?_pos, -getElem?_neg] at hc) <;> (try (exfalso; omega)))
     | ((with_reducible first | refine GuardK_b (fun hc => ?_) (fun hc => ?_)) <;> (try simp only [Bool.not_eq_true', Bool.not_eq_false', decide_eq_true_eq, decide_eq_false_iff_not] at hc) <;> (first | (exfalso; omega) | skip) <;> simp [-List.reduceReplicate, Nat.add_one_le_iff, -getElem?_pos, -getElem?_neg, List.getElem?_cons_zero, List.getElem?_cons_succ, iC, bC, h0, i0, i1, i2, i3, hc])
     | (with_reducible refine And.intro (by omega) ?_)
     | fail)
theorem dgl_le {x : Nat} (h : x < 2 ^ (64 * 5)) : (dg x).length ≤ 1000000 := by
  rcases Nat.lt_or_ge (dg x).length 22 with c | c
  · omega
  · exfalso
    have h0 : x ≠ 0 := fun e => by subst e; rw [dg_0] at c; simp at c
    have h1 := (dg_bd x).2 h0
    have h2 : 65536 ^ 21 ≤ 65536 ^ ((dg x).length - 1) := Nat.pow_le_pow_right (by decide) (by omega)
    have h3 : 2 ^ (64 * 5) ≤ 65536 ^ 21 := by
      rw [show (65536 : Nat) = 2 ^ 16 by rfl, ← Nat.pow_mul]
      exact Nat.pow_le_pow_right (by decide) (by decide)
    omega
set_option maxHeartbeats 4000000 in
theorem best40_den (zs : List Int) (m : Int) (hn : zs.length ≤ 1000000) : DenV Try.prog 42 [.c (intsC zs), .c (iC m)] (.tup [.c (ndC (dg (bestN zs m 256).1)), .c (iC (bestN zs m 256).2)]) := by
  refine Den.frame rfl rfl ?_
  have hb : ∀ k, bestN zs m (k + 1) = if mayN zs k m = true ∧ (bestN zs m k).1 < valN zs k then (valN zs k, k) else bestN zs m k := fun _ => rfl
  have hb0 : bestN zs m 0 = (0, 0) := rfl
  have pm := fun k (h : k ≤ 255) => may40_den zs k m h hn
  have pv := fun k (h : k ≤ 255) => value40_den zs k h hn
  have hvl := fun k (h : k ≤ 255) => dgl_le (valN_lt zs k hn h)
  have pc := fun k y (h : k ≤ 255) => cmp05_den (valN zs k) y (hvl k h)
  have hnil : ndC (dg 0) = .sl [] 0 false := by rw [dg_0]; rfl
  generalize bestN zs m = f at *
  generalize valN zs = vf at *
  unfold intsC at *
  refine den_of Try.func42 rfl rfl (by simp [Try.ntmps42]) (fun X hX hO => ?_)
  rw [Try.ntmps42] at hX
  simp only [Try.results42]
  repeat' (first 
   | (with_reducible first | refine awp_scope ?_ | refine awp_seq ?_ | refine awp_block ?_)
   | ((with_reducible first | refine awp_label ?_ | refine awp_skip ?_); try simp only [thenA, inBlockA, noGotoA])
   | (with_reducible refine awp_exit ?_; simp only [thenA, inBlockA, noGotoA, if_true, Nat.reduceEqDiff, if_false, ↓reduceIte])
   | (with_reducible refine awp_ret ?_; (try simp only [thenA, inBlockA, noGotoA]); (try simp [-List.reduceReplicate, Nat.add_one_le_iff, -getElem?_pos, -getElem?_neg, List.getElem?_cons_zero, List.getElem?_cons_succ, iC]))
   | ((with_reducible first | refine awp_reg 30 hX [0, 1, 4, 5, 6, 7, 8, 9, 11, 18, 25] ?_ | change postOf _ _ _ _ _); simp [-List.reduceReplicate, Nat.add_one_le_iff, -getElem?_pos, -getElem?_neg, List.getElem?_cons_zero, List.getElem?_cons_succ, iC])
   | (with_reducible refine awp_if_b rfl (fun hc => ?_) (fun hc => ?_) <;> (try simp [-getElem?_pos, -getElem?_neg] at hc) <;> (try (exfalso; omega)))
   | ((with_reducible first | refine GuardK_b (fun hc => ?_) (fun hc => ?_)) <;> (try simp only [Bool.not_eq_true', Bool.not_eq_false', decide_eq_true_eq, decide_eq_false_iff_not] at hc) <;> (first | (exfalso; omega) | skip) <;> simp [-List.reduceReplicate, Nat.add_one_le_iff, -getElem?_pos, -getElem?_neg, List.getElem?_cons_zero, List.getElem?_cons_succ, iC, hc])
   | ((with_reducible first | refine hother _ _ rfl ?_); simp only [inBlockA, thenA, noGotoA, Nat.reduceEqDiff, if_false, if_true, ↓reduceIte])
   | (with_reducible refine And.intro (by omega) ?_)
   | fail)
  refine awp_le 6 (.c (.v (.slice none 0 0))) (.c (ndC (dg 0))) (by simp [get]) (by rw [hnil]; exact leM_c (leC_nil _)) ?_
  simp only [put]
  refine awp_forU [0, 1, 6, 7, 8] (fun k (_u : Unit) => [(6, .c (ndC (dg (f k).1))), (7, .c (iC (f k).2)), (8, .c (iC k))]) (fun k (_u : Unit) => []) (fun k (_u : Unit) => True) (256) (()) (by first | trivial | (simp; done) | omega | (intros; simp at *; done)) (by simp [-List.reduceReplicate, keep, iC, hb0]) (by simp [-List.reduceReplicate, iC, hb0]) ?_
  rintro k _u Q1 hi hH next hother
  conv => arg 5; arg 1; simp only [List.cons_append, List.nil_append, keep, get, Nat.reduceEqDiff, if_true, if_false, ↓reduceIte]
  have hwk := wrap_in ((k : Int) + 1) (by omega)
  by_cases hk : k < 256
  · have qv := pv k (by omega)
    have qm := pm k (by omega)
    have bk := hb k
    have hk2 : (k : Int) < 256 := by omega
    obtain ⟨bv, hbv⟩ : ∃ x, (f k).1 = x := ⟨_, rfl⟩
    obtain ⟨bl', hbl⟩ : ∃ x, (f k).2 = x := ⟨_, rfl⟩
    have c1 := pc k bv (by omega)
    rw [hbv, hbl]
    rw [hbv] at bk
    generalize vf k = v at *
    have eC : ∀ z, dg z = dg z := fun _ => rfl
    cases hm : mayN zs k m
    · have fk : f (k + 1) = f k := by rw [bk, if_neg (by rw [hm]; intro h; simp at h)]
      rw [hm] at qm
      repeat' (first 
       | (with_reducible first | refine awp_scope ?_ | refine awp_seq ?_ | refine awp_block ?_)
       | ((with_reducible first | refine awp_label ?_ | refine awp_skip ?_); try simp only [thenA, inBlockA, noGotoA])
       | (with_reducible refine awp_exit ?_; simp only [thenA, inBlockA, noGotoA, if_true, Nat.reduceEqDiff, if_false, ↓reduceIte])
       | (with_reducible refine awp_ret ?_; (try simp only [thenA, inBlockA, noGotoA]); (try simp [-List.reduceReplicate, Nat.add_one_le_iff, -getElem?_pos, -getElem?_neg, List.getElem?_cons_zero, List.getElem?_cons_succ, iC, bC, hk2, hwk]))
       | ((with_reducible first | refine awp_reg 30 hX [0, 1, 4, 5, 6, 7, 8, 9, 11, 18, 25] ?_ | change postOf _ _ _ _ _); simp [-List.reduceReplicate, Nat.add_one_le_iff, -getElem?_pos, -getElem?_neg, List.getElem?_cons_zero, List.getElem?_cons_succ, iC, bC, hk2, hwk])
       | ((first | (refine (qv _).det ?_) | (refine (qm _).det ?_) | (refine (c1 _).det ?_)); try simp [-List.reduceReplicate, Nat.add_one_le_iff, -getElem?_pos, -getElem?_neg, List.getElem?_cons_zero, List.getElem?_cons_succ, iC, bC, hk2, hwk])
       | (with_reducible refine awp_if_b rfl (fun hc => ?_) (fun hc => ?_) <;> (try simp [-getElem?_pos, -getElem?_neg] at hc) <;> (try (exfalso; omega)))
       | ((with_reducible first | refine GuardK_b (fun hc => ?_) (fun hc => ?_)) <;> (try simp only [Bool.not_eq_true', Bool.not_eq_false', decide_eq_true_eq, decide_eq_false_iff_not] at hc) <;> (first | (exfalso; omega) | skip) <;> simp [-List.reduceReplicate, Nat.add_one_le_iff, -getElem?_pos, -getElem?_neg, List.getElem?_cons_zero, List.getElem?_cons_succ, iC, bC, hk2, hwk, hc])
       | ((with_reducible first | refine hother _ _ rfl ?_); simp only [inBlockA, thenA, noGotoA, Nat.reduceEqDiff, if_false, if_true, ↓reduceIte])
       | (with_reducible refine And.intro (by omega) ?_)
       | fail)
      refine next _ _ (()) (by omega) (by first | trivial | omega | assumption) (by simp [-List.reduceReplicate, keep, iC, fk, hbv, hbl]) (by simp [-List.reduceReplicate, iC, fk, hbv, hbl])
    · rw [hm] at qm
      by_cases hlt : bv < v
      · have fk : f (k + 1) = (v, k) := by rw [bk, if_pos ⟨hm, hlt⟩]
        rw [cmpN_gt hlt] at c1
        repeat' (first 
         | (with_reducible first | refine awp_scope ?_ | refine awp_seq ?_ | refine awp_block ?_)
         | ((with_reducible first | refine awp_label ?_ | refine awp_skip ?_); try simp only [thenA, inBlockA, noGotoA])
         | (with_reducible refine awp_exit ?_; simp only [thenA, inBlockA, noGotoA, if_true, Nat.reduceEqDiff, if_false, ↓reduceIte])
         | (with_reducible refine awp_ret ?_; (try simp only [thenA, inBlockA, noGotoA]); (try simp [-List.reduceReplicate, Nat.add_one_le_iff, -getElem?_pos, -getElem?_neg, List.getElem?_cons_zero, List.getElem?_cons_succ, iC, bC, hk2, hwk]))
         | ((with_reducible first | refine awp_reg 30 hX [0, 1, 4, 5, 6, 7, 8, 9, 11, 18, 25] ?_ | change postOf _ _ _ _ _); simp [-List.reduceReplicate, Nat.add_one_le_iff, -getElem?_pos, -getElem?_neg, List.getElem?_cons_zero, List.getElem?_cons_succ, iC, bC, hk2, hwk])
         | ((first | (refine (qv _).det ?_) | (refine (qm _).det ?_) | (refine (c1 _).det ?_)); try simp [-List.reduceReplicate, Nat.add_one_le_iff, -getElem?_pos, -getElem?_neg, List.getElem?_cons_zero, List.getElem?_cons_succ, iC, bC, hk2, hwk])
         | (with_reducible refine awp_if_b rfl (fun hc => ?_) (fun hc => ?_) <;> (try simp [-getElem?_pos, -getElem?_neg] at hc) <;> (try (exfalso; omega)))
         | ((with_reducible first | refine GuardK_b (fun hc => ?_) (fun hc => ?_)) <;> (try simp only [Bool.not_eq_true', Bool.not_eq_false', decide_eq_true_eq, decide_eq_false_iff_not] at hc) <;> (first | (exfalso; omega) | skip) <;> simp [-List.reduceReplicate, Nat.add_one_le_iff, -getElem?_pos, -getElem?_neg, List.getElem?_cons_zero, List.getElem?_cons_succ, iC, bC, hk2, hwk, hc])
         | ((with_reducible first | refine hother _ _ rfl ?_); simp only [inBlockA, thenA, noGotoA, Nat.reduceEqDiff, if_false, if_true, ↓reduceIte])
         | (with_reducible refine And.intro (by omega) ?_)
         | fail)
        refine next _ _ (()) (by omega) (by first | trivial | omega | assumption) (by simp [-List.reduceReplicate, keep, iC, fk]) (by simp [-List.reduceReplicate, iC, fk])
      · have fk : f (k + 1) = f k := by rw [bk, if_neg (by intro h; omega)]
        have hc : ¬ 0 < cmpN v bv := by unfold cmpN; split <;> (first | omega | (rw [if_neg hlt]; omega))
        repeat' (first 
         | (with_reducible first | refine awp_scope ?_ | refine awp_seq ?_ | refine awp_block ?_)
         | ((with_reducible first | refine awp_label ?_ | refine awp_skip ?_); try simp only [thenA, inBlockA, noGotoA])
         | (with_reducible refine awp_exit ?_; simp only [thenA, inBlockA, noGotoA, if_true, Nat.reduceEqDiff, if_false, ↓reduceIte])
         | (with_reducible refine awp_ret ?_; (try simp only [thenA, inBlockA, noGotoA]); (try simp [-List.reduceReplicate, Nat.add_one_le_iff, -getElem?_pos, -getElem?_neg, List.getElem?_cons_zero, List.getElem?_cons_succ, iC, bC, hk2, hwk, hc]))
         | ((with_reducible first | refine awp_reg 30 hX [0, 1, 4, 5, 6, 7, 8, 9, 11, 18, 25] ?_ | change postOf _ _ _ _ _); simp [-List.reduceReplicate, Nat.add_one_le_iff, -getElem?_pos, -getElem?_neg, List.getElem?_cons_zero, List.getElem?_cons_succ, iC, bC, hk2, hwk, hc])
         | ((first | (refine (qv _).det ?_) | (refine (qm _).det ?_) | (refine (c1 _).det ?_)); try simp [-List.reduceReplicate, Nat.add_one_le_iff, -getElem?_pos, -getElem?_neg, List.getElem?_cons_zero, List.getElem?_cons_succ, iC, bC, hk2, hwk, hc])
         | (with_reducible refine awp_if_b rfl (fun hc => ?_) (fun hc => ?_) <;> (try simp [-getElem?_pos, -getElem?_neg] at hc) <;> (try (exfalso; omega)))
         | ((with_reducible first | refine GuardK_b (fun hc => ?_) (fun hc => ?_)) <;> (try simp only [Bool.not_eq_true', Bool.not_eq_false', decide_eq_true_eq, decide_eq_false_iff_not] at hc) <;> (first | (exfalso; omega) | skip) <;> simp [-List.reduceReplicate, Nat.add_one_le_iff, -getElem?_pos, -getElem?_neg, List.getElem?_cons_zero, List.getElem?_cons_succ, iC, bC, hk2, hwk, hc, hc])
         | ((with_reducible first | refine hother _ _ rfl ?_); simp only [inBlockA, thenA, noGotoA, Nat.reduceEqDiff, if_false, if_true, ↓reduceIte])
         | (with_reducible refine And.intro (by omega) ?_)
         | fail)
        refine next _ _ (()) (by omega) (by first | trivial | omega | assumption) (by simp [-List.reduceReplicate, keep, iC, fk, hbv, hbl]) (by simp [-List.reduceReplicate, iC, fk, hbv, hbl])
  · have hk3 : k = 256 := by omega
    subst hk3
    repeat' (first 
     | (with_reducible first | refine awp_scope ?_ | refine awp_seq ?_ | refine awp_block ?_)
     | ((with_reducible first | refine awp_label ?_ | refine awp_skip ?_); try simp only [thenA, inBlockA, noGotoA])
     | (with_reducible refine awp_exit ?_; simp only [thenA, inBlockA, noGotoA, if_true, Nat.reduceEqDiff, if_false, ↓reduceIte])
     | (with_reducible refine awp_ret ?_; (try simp only [thenA, inBlockA, noGotoA]); (try simp [-List.reduceReplicate, Nat.add_one_le_iff, -getElem?_pos, -getElem?_neg, List.getElem?_cons_zero, List.getElem?_cons_succ, iC]))
     | ((with_reducible first | refine awp_reg 30 hX [0, 1, 4, 5, 6, 7, 8, 9, 11, 18, 25] ?_ | change postOf _ _ _ _ _); simp [-List.reduceReplicate, Nat.add_one_le_iff, -getElem?_pos, -getElem?_neg, List.getElem?_cons_zero, List.getElem?_cons_succ, iC])
     | (with_reducible refine awp_if_b rfl (fun hc => ?_) (fun hc => ?_) <;> (try simp [-getElem?_pos, -getElem?_neg] at hc) <;> (try (exfalso; omega)))
     | ((with_reducible first | refine GuardK_b (fun hc => ?_) (fun hc => ?_)) <;> (try simp only [Bool.not_eq_true', Bool.not_eq_false', decide_eq_true_eq, decide_eq_false_iff_not] at hc) <;> (first | (exfalso; omega) | skip) <;> simp [-List.reduceReplicate, Nat.add_one_le_iff, -getElem?_pos, -getElem?_neg, List.getElem?_cons_zero, List.getElem?_cons_succ, iC, hc])
     | ((with_reducible first | refine hother _ _ rfl ?_); simp only [inBlockA, thenA, noGotoA, Nat.reduceEqDiff, if_false, if_true, ↓reduceIte])
     | (with_reducible refine And.intro (by omega) ?_)
     | fail)
end Go.Av

set_option exponentiation.threshold 1000
set_option linter.unusedVariables false
set_option linter.unusedSimpArgs false
set_option maxRecDepth 100000
set_option maxHeartbeats 4000000
namespace Go.Av
open Go Go.Proofs Go.Proofs.Ytofomnllcmgfeaa Go.RowKit
/-! ### the document's Behind, Verdict; Limbs of an array of the caller's own -/
set_option maxHeartbeats 4000000 in
theorem behind40_own (zs : List Int) (k : Nat) (hn : zs.length ≤ 1000000) (hk : k ≤ 1000000) : Den Try.prog 43 [.c (intsC zs), .c (iC k)] [] (fun r ob' => ∃ g b, r = .ms 0 g 0 (zs.length - (k + 1)) ∧ ob' = [⟨3, 1, b, g, up ((zs.drop (k + 1)).map iC), none⟩]) := by
  generalize hQ : (fun (r : M) (ob' : List Ob) => ∃ g b, r = .ms 0 g 0 (zs.length - (k + 1)) ∧ ob' = [⟨3, 1, b, g, up ((zs.drop (k + 1)).map iC), none⟩]) = Q
  have hs : ∀ i x, zs[i]? = some x → (zs.take (i + 1)).drop (k + 1) = (zs.take i).drop (k + 1) ++ if k < i then [x] else [] := fun i x h => by
    have hl := (List.getElem?_eq_some_iff.1 h).1
    rw [List.take_add_one, h]
    simp only [Option.toList]
    by_cases c : k < i
    · rw [if_pos c, List.drop_append_of_le_length (by rw [List.length_take]; omega)]
    · rw [if_neg c, List.append_nil, List.drop_of_length_le (by simp; omega), List.drop_of_length_le (by simp; omega)]
  have hl : ∀ i, i ≤ zs.length → ((zs.take i).drop (k + 1)).length = i - (k + 1) := fun i h => by simp; omega
  have h0 : (zs.take 0).drop (k + 1) = [] := by simp
  have hN : (zs.take zs.length).drop (k + 1) = zs.drop (k + 1) := by simp
  obtain ⟨D, hD⟩ : ∃ D : Nat → List Int, ∀ i, (zs.take i).drop (k + 1) = D i := ⟨_, fun _ => rfl⟩
  simp only [hD] at *
  refine den_of Try.func43 rfl rfl (by simp [Try.ntmps43]) (fun X hX hO => ?_)
  rw [Try.ntmps43] at hX
  simp only [Try.results43]
  repeat' (first 
   | (with_reducible first | refine awp_scope ?_ | refine awp_seq ?_ | refine awp_block ?_)
   | ((with_reducible first | refine awp_label ?_ | refine awp_skip ?_); try simp only [thenA, inBlockA, noGotoA])
   | (with_reducible refine awp_exit ?_; simp only [thenA, inBlockA, noGotoA, if_true, Nat.reduceEqDiff, if_false, ↓reduceIte])
   | (with_reducible refine awp_ret ?_; (try simp only [thenA, inBlockA, noGotoA]); (try simp [-List.reduceReplicate, Nat.add_one_le_iff, -getElem?_pos, -getElem?_neg, List.getElem?_cons_zero, List.getElem?_cons_succ, intsC, iC]))
   | ((with_reducible first | refine awp_reg 24 hX [0, 1, 4, 5, 6, 10, 15] ?_ | change postOf _ _ _ _ _); simp [-List.reduceReplicate, Nat.add_one_le_iff, -getElem?_pos, -getElem?_neg, List.getElem?_cons_zero, List.getElem?_cons_succ, intsC, iC])
   | (with_reducible refine awp_if_b rfl (fun hc => ?_) (fun hc => ?_) <;> (try simp [-getElem?_pos, -getElem?_neg] at hc) <;> (try (exfalso; omega)))
   | ((with_reducible first | refine GuardK_b (fun hc => ?_) (fun hc => ?_)) <;> (try simp only [Bool.not_eq_true', Bool.not_eq_false', decide_eq_true_eq, decide_eq_false_iff_not] at hc) <;> (first | (exfalso; omega) | skip) <;> simp [-List.reduceReplicate, Nat.add_one_le_iff, -getElem?_pos, -getElem?_neg, List.getElem?_cons_zero, List.getElem?_cons_succ, intsC, iC, hc])
   | ((with_reducible first | refine hother _ _ rfl ?_); simp only [inBlockA, thenA, noGotoA, Nat.reduceEqDiff, if_false, if_true, ↓reduceIte])
   | (with_reducible refine And.intro (by omega) ?_)
   | fail)
  refine awp_nil 5 3 1 (by simp) ?_
  simp
  refine awp_forU [0, 1, 5, 6] (fun i (g : Nat × Bool) => [(5, .ms 0 g.1 0 (i - (k + 1))), (6, .c (iC i))]) (fun i (g : Nat × Bool) => [⟨3, 1, g.2, g.1, up ((D i).map iC), none⟩]) (fun i (g : Nat × Bool) => True) (zs.length) ((0, true)) (by first | trivial | (simp; done) | omega | (intros; simp at *; done)) (by simp [-List.reduceReplicate, keep, iC, h0]) (by simp [-List.reduceReplicate, iC, h0]) ?_
  rintro i g Q1 hi hH next hother
  conv => arg 5; arg 1; simp only [List.cons_append, List.nil_append, keep, get, Nat.reduceEqDiff, if_true, if_false, ↓reduceIte]
  have hwi := wrap_in ((i : Int) + 1) (by omega)
  by_cases hlt : i < zs.length
  · obtain ⟨x, hx⟩ : ∃ x, zs[i]? = some x := ⟨_, List.getElem?_eq_getElem hlt⟩
    have hsi := hs i x hx
    have hli := hl i (by omega)
    by_cases c : k < i
    · rw [if_pos c] at hsi
      have c2 : (k : Int) < i := by omega
      have e : i - (k + 1) + 1 = i - k := by omega
      have e2 : i + 1 - (k + 1) = i - k := by omega
      have hroom : (i - k) * 8 ≤ 140737488355328 := by omega
      repeat' (first 
       | (with_reducible first | refine awp_scope ?_ | refine awp_seq ?_ | refine awp_block ?_)
       | ((with_reducible first | refine awp_label ?_ | refine awp_skip ?_); try simp only [thenA, inBlockA, noGotoA])
       | (with_reducible refine awp_exit ?_; simp only [thenA, inBlockA, noGotoA, if_true, Nat.reduceEqDiff, if_false, ↓reduceIte])
       | (with_reducible refine awp_ret ?_; (try simp only [thenA, inBlockA, noGotoA]); (try simp [-List.reduceReplicate, Nat.add_one_le_iff, -getElem?_pos, -getElem?_neg, List.getElem?_cons_zero, List.getElem?_cons_succ, intsC, iC, bC, hlt, hx, c, c2, hli, e, e2, hroom, roomB, hwi]))
       | ((with_reducible first | refine awp_reg 24 hX [0, 1, 4, 5, 6, 10, 15] ?_ | change postOf _ _ _ _ _); simp [-List.reduceReplicate, Nat.add_one_le_iff, -getElem?_pos, -getElem?_neg, List.getElem?_cons_zero, List.getElem?_cons_succ, intsC, iC, bC, hlt, hx, c, c2, hli, e, e2, hroom, roomB, hwi])
       | (with_reducible refine awp_if_b rfl (fun hc => ?_) (fun hc => ?_) <;> (try simp [-getElem?_pos, -getElem?_neg] at hc) <;> (try (exfalso; omega)))
       | ((with_reducible first | refine GuardK_b (fun hc => ?_) (fun hc => ?_)) <;> (try simp only [Bool.not_eq_true', Bool.not_eq_false', decide_eq_true_eq, decide_eq_false_iff_not] at hc) <;> (first | (exfalso; omega) | skip) <;> simp [-List.reduceReplicate, Nat.add_one_le_iff, -getElem?_pos, -getElem?_neg, List.getElem?_cons_zero, List.getElem?_cons_succ, intsC, iC, bC, hlt, hx, c, c2, hli, e, e2, hroom, roomB, hwi, hc])
       | ((with_reducible first | refine hother _ _ rfl ?_); simp only [inBlockA, thenA, noGotoA, Nat.reduceEqDiff, if_false, if_true, ↓reduceIte])
       | (with_reducible refine And.intro (by omega) ?_)
       | fail)
      refine next _ _ ((g.1 + 1, false)) (by omega) (by first | trivial | omega | assumption) (by simp [-List.reduceReplicate, keep, iC, hsi, e2]) (by simp [-List.reduceReplicate, iC, hsi, e2])
    · rw [if_neg c, List.append_nil] at hsi
      have c2 : ¬ (k : Int) < i := by omega
      have e1 : i - (k + 1) = 0 := by omega
      have e2 : i + 1 - (k + 1) = 0 := by omega
      repeat' (first 
       | (with_reducible first | refine awp_scope ?_ | refine awp_seq ?_ | refine awp_block ?_)
       | ((with_reducible first | refine awp_label ?_ | refine awp_skip ?_); try simp only [thenA, inBlockA, noGotoA])
       | (with_reducible refine awp_exit ?_; simp only [thenA, inBlockA, noGotoA, if_true, Nat.reduceEqDiff, if_false, ↓reduceIte])
       | (with_reducible refine awp_ret ?_; (try simp only [thenA, inBlockA, noGotoA]); (try simp [-List.reduceReplicate, Nat.add_one_le_iff, -getElem?_pos, -getElem?_neg, List.getElem?_cons_zero, List.getElem?_cons_succ, intsC, iC, bC, hlt, hx, c, c2, hwi]))
       | ((with_reducible first | refine awp_reg 24 hX [0, 1, 4, 5, 6, 10, 15] ?_ | change postOf _ _ _ _ _); simp [-List.reduceReplicate, Nat.add_one_le_iff, -getElem?_pos, -getElem?_neg, List.getElem?_cons_zero, List.getElem?_cons_succ, intsC, iC, bC, hlt, hx, c, c2, hwi])
       | (with_reducible refine awp_if_b rfl (fun hc => ?_) (fun hc => ?_) <;> (try simp [-getElem?_pos, -getElem?_neg] at hc) <;> (try (exfalso; omega)))
       | ((with_reducible first | refine GuardK_b (fun hc => ?_) (fun hc => ?_)) <;> (try simp only [Bool.not_eq_true', Bool.not_eq_false', decide_eq_true_eq, decide_eq_false_iff_not] at hc) <;> (first | (exfalso; omega) | skip) <;> simp [-List.reduceReplicate, Nat.add_one_le_iff, -getElem?_pos, -getElem?_neg, List.getElem?_cons_zero, List.getElem?_cons_succ, intsC, iC, bC, hlt, hx, c, c2, hwi, hc])
       | ((with_reducible first | refine hother _ _ rfl ?_); simp only [inBlockA, thenA, noGotoA, Nat.reduceEqDiff, if_false, if_true, ↓reduceIte])
       | (with_reducible refine And.intro (by omega) ?_)
       | fail)
      refine next _ _ (g) (by omega) (by first | trivial | omega | assumption) (by simp [-List.reduceReplicate, keep, iC, hsi, e1, e2]) (by simp [-List.reduceReplicate, iC, hsi, e1, e2])
  · have hi2 : i = zs.length := by omega
    subst hi2
    repeat' (first 
     | (with_reducible first | refine awp_scope ?_ | refine awp_seq ?_ | refine awp_block ?_)
     | ((with_reducible first | refine awp_label ?_ | refine awp_skip ?_); try simp only [thenA, inBlockA, noGotoA])
     | (with_reducible refine awp_exit ?_; simp only [thenA, inBlockA, noGotoA, if_true, Nat.reduceEqDiff, if_false, ↓reduceIte])
     | (with_reducible refine awp_ret ?_; (try simp only [thenA, inBlockA, noGotoA]); (try simp [-List.reduceReplicate, Nat.add_one_le_iff, -getElem?_pos, -getElem?_neg, List.getElem?_cons_zero, List.getElem?_cons_succ, intsC, iC, bC]))
     | ((with_reducible first | refine awp_reg 24 hX [0, 1, 4, 5, 6, 10, 15] ?_ | change postOf _ _ _ _ _); simp [-List.reduceReplicate, Nat.add_one_le_iff, -getElem?_pos, -getElem?_neg, List.getElem?_cons_zero, List.getElem?_cons_succ, intsC, iC, bC])
     | (with_reducible refine awp_if_b rfl (fun hc => ?_) (fun hc => ?_) <;> (try simp [-getElem?_pos, -getElem?_neg] at hc) <;> (try (exfalso; omega)))
     | ((with_reducible first | refine GuardK_b (fun hc => ?_) (fun hc => ?_)) <;> (try simp only [Bool.not_eq_true', Bool.not_eq_false', decide_eq_true_eq, decide_eq_false_iff_not] at hc) <;> (first | (exfalso; omega) | skip) <;> simp [-List.reduceReplicate, Nat.add_one_le_iff, -getElem?_pos, -getElem?_neg, List.getElem?_cons_zero, List.getElem?_cons_succ, intsC, iC, bC, hc])
     | ((with_reducible first | refine hother _ _ rfl ?_); simp only [inBlockA, thenA, noGotoA, Nat.reduceEqDiff, if_false, if_true, ↓reduceIte])
     | (with_reducible refine And.intro (by omega) ?_)
     | fail)
    subst hQ
    exact ⟨g.1, g.2, rfl, by rw [hN]⟩
theorem behind40_den (zs : List Int) (k : Nat) (hn : zs.length ≤ 1000000) (hk : k ≤ 1000000) : DenV Try.prog 43 [.c (intsC zs), .c (iC k)] (.c (intsC (zs.drop (k + 1)))) :=
  Den.frame rfl rfl ((behind40_own zs k hn hk).freeze fun r ob' ⟨g, b, h1, h2⟩ => ⟨g, _, _, (zs.drop (k + 1)).map iC, h1, h2, rfl, rfl, by simp [intsC]⟩)
theorem behI_nat (zs : List Int) (k : Nat) : behI zs (k : Int) = zs.drop (k + 1) := by
  unfold behI
  split
  · rw [List.drop_of_length_le (by omega)]
  · congr 1
set_option maxHeartbeats 4000000 in
theorem verdict40_den (a b : List H32) (za zb : List Int) (m : Int) (ha : a.length ≤ 100000) (hb : b.length ≤ 100000) (hza : za.length ≤ 100000) (hzb : zb.length ≤ 100000) :
    DenV Try.prog 40 [sideM a za, sideM b zb, .c (iC m)] (.c (iC (vrdN a b za zb m))) := by
  refine Den.frame rfl rfl ?_
  have p1 := last40_den a b a.length b.length false false rfl rfl (by omega) (by omega)
  have hr := lastH_range a b
  have pa := fun k h => behind40_den za k (by omega) h
  have pb := fun k h => behind40_den zb k (by omega) h
  have qa := fun k => best40_den (za.drop (k + 1)) m (by simp; omega)
  have qb := fun k => best40_den (zb.drop (k + 1)) m (by simp; omega)
  have la := fun k => bestN_lt (za.drop (k + 1)) m (by simp; omega) 256 (by omega)
  have pc := fun k y => cmp05_den (bestN (za.drop (k + 1)) m 256).1 y (dgl_le (la k))
  have na := behI_nat za
  have nb := behI_nat zb
  have hv : ∀ r, r = vrdN a b za zb m → r = (if (lastH a b).1 < 0 then 0 else cmpN (bestN (behI za (lastH a b).1) m 256).1 (bestN (behI zb (lastH a b).2) m 256).1) := fun r h => h
  obtain ⟨r, hre⟩ : ∃ r, r = vrdN a b za zb m := ⟨_, rfl⟩
  have hre2 := hv r hre
  rw [← hre]
  clear hv hre
  obtain ⟨i, hi⟩ : ∃ i, (lastH a b).1 = i := ⟨_, rfl⟩
  obtain ⟨k, hk⟩ : ∃ k, (lastH a b).2 = k := ⟨_, rfl⟩
  rw [hi, hk] at p1 hre2
  by_cases c : i < 0
  · rw [if_pos c] at hre2
    subst hre2
    unfold sideM sideL
    refine den_of Try.func40 rfl rfl (by simp [Try.ntmps40]) (fun X hX hO => ?_)
    rw [Try.ntmps40] at hX
    simp only [Try.results40]
    repeat' (first 
     | (with_reducible first | refine awp_scope ?_ | refine awp_seq ?_ | refine awp_block ?_)
     | ((with_reducible first | refine awp_label ?_ | refine awp_skip ?_); try simp only [thenA, inBlockA, noGotoA])
     | (with_reducible refine awp_exit ?_; simp only [thenA, inBlockA, noGotoA, if_true, Nat.reduceEqDiff, if_false, ↓reduceIte])
     | (with_reducible refine awp_ret ?_; (try simp only [thenA, inBlockA, noGotoA]); (try simp [-List.reduceReplicate, Nat.add_one_le_iff, -getElem?_pos, -getElem?_neg, List.getElem?_cons_zero, List.getElem?_cons_succ, iC, bC, c]))
     | ((with_reducible first | refine awp_reg 44 hX [2, 3, 4, 6, 7, 8, 9, 11, 22] ?_ | change postOf _ _ _ _ _); simp [-List.reduceReplicate, Nat.add_one_le_iff, -getElem?_pos, -getElem?_neg, List.getElem?_cons_zero, List.getElem?_cons_succ, iC, bC, c])
     | ((first | (refine (p1 _).det ?_)); try simp [-List.reduceReplicate, Nat.add_one_le_iff, -getElem?_pos, -getElem?_neg, List.getElem?_cons_zero, List.getElem?_cons_succ, iC, bC, c])
     | (with_reducible refine awp_if_b rfl (fun hc => ?_) (fun hc => ?_) <;> (try simp [-getElem?_pos, -getElem?_neg] at hc) <;> (try (exfalso; omega)))
     | ((with_reducible first | refine GuardK_b (fun hc => ?_) (fun hc => ?_)) <;> (try simp only [Bool.not_eq_true', Bool.not_eq_false', decide_eq_true_eq, decide_eq_false_iff_not] at hc) <;> (first | (exfalso; omega) | skip) <;> simp [-List.reduceReplicate, Nat.add_one_le_iff, -getElem?_pos, -getElem?_neg, List.getElem?_cons_zero, List.getElem?_cons_succ, iC, bC, c, hc])
     | (with_reducible refine And.intro (by omega) ?_)
     | fail)
  · rw [if_neg c] at hre2
    have hii : 0 ≤ i ∧ i < (a.length : Int) ∧ 0 ≤ k ∧ k < (b.length : Int) := by
      rcases hr with h | h
      · rw [h] at hi; simp at hi; omega
      · rw [hi, hk] at h; exact h
    obtain ⟨i', rfl⟩ : ∃ i' : Nat, i = (i' : Int) := ⟨i.toNat, by omega⟩
    obtain ⟨k', rfl⟩ : ∃ k' : Nat, k = (k' : Int) := ⟨k.toNat, by omega⟩
    have pa1 := pa i' (by omega)
    have pb1 := pb k' (by omega)
    have qa1 := qa i'
    have qb1 := qb k'
    rw [na, nb] at hre2
    have pc1 := pc i' (bestN (zb.drop (k' + 1)) m 256).1
    rw [← hre2] at pc1
    generalize bestN (za.drop (i' + 1)) m 256 = x at *
    generalize bestN (zb.drop (k' + 1)) m 256 = y at *
    generalize za.drop (i' + 1) = xa at *
    generalize zb.drop (k' + 1) = xb at *
    have c2 : ¬ ((i' : Int) < 0) := by omega
    unfold sideM sideL intsC at *
    refine den_of Try.func40 rfl rfl (by simp [Try.ntmps40]) (fun X hX hO => ?_)
    rw [Try.ntmps40] at hX
    simp only [Try.results40]
    repeat' (first 
     | (with_reducible first | refine awp_scope ?_ | refine awp_seq ?_ | refine awp_block ?_)
     | ((with_reducible first | refine awp_label ?_ | refine awp_skip ?_); try simp only [thenA, inBlockA, noGotoA])
     | (with_reducible refine awp_exit ?_; simp only [thenA, inBlockA, noGotoA, if_true, Nat.reduceEqDiff, if_false, ↓reduceIte])
     | (with_reducible refine awp_ret ?_; (try simp only [thenA, inBlockA, noGotoA]); (try simp [-List.reduceReplicate, Nat.add_one_le_iff, -getElem?_pos, -getElem?_neg, List.getElem?_cons_zero, List.getElem?_cons_succ, iC, bC, c2]))
     | ((with_reducible first | refine awp_reg 44 hX [2, 3, 4, 6, 7, 8, 9, 11, 22] ?_ | change postOf _ _ _ _ _); simp [-List.reduceReplicate, Nat.add_one_le_iff, -getElem?_pos, -getElem?_neg, List.getElem?_cons_zero, List.getElem?_cons_succ, iC, bC, c2])
     | ((first | (refine (p1 _).det ?_) | (refine (pa1 _).det ?_) | (refine (pb1 _).det ?_) | (refine (qa1 _).det ?_) | (refine (qb1 _).det ?_) | (refine (pc1 _).det ?_)); try simp [-List.reduceReplicate, Nat.add_one_le_iff, -getElem?_pos, -getElem?_neg, List.getElem?_cons_zero, List.getElem?_cons_succ, iC, bC, c2])
     | (with_reducible refine awp_if_b rfl (fun hc => ?_) (fun hc => ?_) <;> (try simp [-getElem?_pos, -getElem?_neg] at hc) <;> (try (exfalso; omega)))
     | ((with_reducible first | refine GuardK_b (fun hc => ?_) (fun hc => ?_)) <;> (try simp only [Bool.not_eq_true', Bool.not_eq_false', decide_eq_true_eq, decide_eq_false_iff_not] at hc) <;> (first | (exfalso; omega) | skip) <;> simp [-List.reduceReplicate, Nat.add_one_le_iff, -getElem?_pos, -getElem?_neg, List.getElem?_cons_zero, List.getElem?_cons_succ, iC, bC, c2, hc])
     | (with_reducible refine And.intro (by omega) ?_)
     | fail)
end Go.Av

set_option exponentiation.threshold 1000
set_option linter.unusedVariables false
set_option linter.unusedSimpArgs false
set_option maxRecDepth 100000
set_option maxHeartbeats 4000000
namespace Go.Av
open Go Go.Proofs Go.Proofs.Ytofomnllcmgfeaa Go.RowKit
/-! ### Limbs of an array within an object -/
set_option maxHeartbeats 8000000 in
theorem limbsM_den (v : Nat) (lv : Int) (hv0 : v < 2 ^ (64 * 5)) (ob : List Ob) (p : Nat) (hget : ob[p]? = some ⟨52, 1, false, 0, up (limL v ++ [iC lv]), none⟩) :
    Den Try.prog 45 [.ms p 0 0 5] ob (fun r ob' => r = .c (ndC (dg v)) ∧ ob' = ob) := by
  obtain ⟨l, hldef⟩ : ∃ l, l = [lim v 0, lim v 1, lim v 2, lim v 3, lim v 4] := ⟨_, rfl⟩
  obtain ⟨n, hn5⟩ : ∃ n, n = 5 := ⟨_, rfl⟩
  have hn : l.length = n := by rw [hldef, hn5]; rfl
  have hN : n ≤ 100000 := by omega
  have h0 : 0 < n := by omega
  have hl : ∀ x ∈ l, x < 18446744073709551616 := fun x hx => by
    rw [hldef] at hx
    simp only [List.mem_cons, List.not_mem_nil, or_false] at hx
    rcases hx with rfl | rfl | rfl | rfl | rfl <;> exact lim_lt _ _
  have hv5 : v64 l = v := by rw [hldef]; exact v64_lims v hv0
  obtain ⟨sc, hsc⟩ : ∃ sc, sc = limL v ++ [iC lv] := ⟨_, rfl⟩
  have hscl : sc.length = 6 := by rw [hsc]; rfl
  have hscg : ∀ i x, l[i]? = some x → sc[i]? = some (u64C x) := fun i x h => by
    rw [hldef] at h
    rw [hsc]
    have h5 : i < 5 := by have := (List.getElem?_eq_some_iff.1 h).1; simpa using this
    obtain rfl | rfl | rfl | rfl | rfl : i = 0 ∨ i = 1 ∨ i = 2 ∨ i = 3 ∨ i = 4 := by omega
    all_goals (simp at h; subst h; rfl)
  rw [← hsc] at hget
  have hpl := (List.getElem?_eq_some_iff.1 hget).1
  have hgo : ∀ o, (ob ++ [o])[p]? = some ⟨52, 1, false, 0, up sc, none⟩ := fun o => by rw [List.getElem?_append_left hpl]; exact hget
  clear hldef
  have hv : trm (d4s l) = dg v := by rw [trm_dg _ (d4s_lt l), d4s_val l hl, hv5]
  have p1 := trim_den (d4s l) false (4 * n) (by rw [d4s_len, hn]) (by omega)
  rw [hv] at p1
  have hst := d4s_take l
  have hsl := fun i => d4s_len (l.take i)
  have hs0 : d4s (l.take 0) = [] := rfl
  have hsn : d4s (l.take n) = d4s l := by rw [List.take_of_length_le (by omega)]
  obtain ⟨D, hD⟩ : ∃ D : Nat → List Nat, ∀ i, d4s (l.take i) = D i := ⟨_, fun _ => rfl⟩
  simp only [hD] at *
  have hDl : ∀ i, i ≤ n → (D i).length = 4 * i := fun i hi => by rw [hsl, List.length_take, Nat.min_eq_left (by omega)]
  clear hsl hD hv
  refine den_of Try.func45 rfl rfl (by simp [Try.ntmps45]) (fun X hX hO => ?_)
  rw [Try.ntmps45] at hX
  simp only [Try.results45]
  repeat' (first 
   | (with_reducible first | refine awp_scope ?_ | refine awp_seq ?_ | refine awp_block ?_)
   | ((with_reducible first | refine awp_label ?_ | refine awp_skip ?_); try simp only [thenA, inBlockA, noGotoA])
   | (with_reducible refine awp_exit ?_; simp only [thenA, inBlockA, noGotoA, if_true, Nat.reduceEqDiff, if_false, ↓reduceIte])
   | (with_reducible refine awp_ret ?_; (try simp only [thenA, inBlockA, noGotoA]); (try simp [-List.reduceReplicate, Nat.add_one_le_iff, -getElem?_pos, -getElem?_neg, List.getElem?_cons_zero, List.getElem?_cons_succ, hget]))
   | ((with_reducible first | refine awp_reg 31 hX [0, 2, 3, 4, 5, 6, 10, 18] ?_ | change postOf _ _ _ _ _); simp [-List.reduceReplicate, Nat.add_one_le_iff, -getElem?_pos, -getElem?_neg, List.getElem?_cons_zero, List.getElem?_cons_succ, hget])
   | (with_reducible refine awp_if_b rfl (fun hc => ?_) (fun hc => ?_) <;> (try simp [-getElem?_pos, -getElem?_neg] at hc) <;> (try (exfalso; omega)))
   | ((with_reducible first | refine GuardK_b (fun hc => ?_) (fun hc => ?_)) <;> (try simp only [Bool.not_eq_true', Bool.not_eq_false', decide_eq_true_eq, decide_eq_false_iff_not] at hc) <;> (first | (exfalso; omega) | skip) <;> simp [-List.reduceReplicate, Nat.add_one_le_iff, -getElem?_pos, -getElem?_neg, List.getElem?_cons_zero, List.getElem?_cons_succ, hget, hc])
   | ((with_reducible first | refine hother _ _ rfl ?_ | refine hother2 _ _ rfl ?_); simp only [inBlockA, thenA, noGotoA, Nat.reduceEqDiff, if_false, if_true, ↓reduceIte])
   | (with_reducible refine And.intro (by omega) ?_)
   | fail)
  refine awp_nil 3 3 1 (by simp) ?_
  simp
  refine awp_forU [0, 3, 4] (fun i (g : Nat × Bool) => [(3, .ms ob.length g.1 0 (4 * i)), (4, .c (iC i))]) (fun i (g : Nat × Bool) => ob ++ [⟨3, 1, g.2, g.1, up ((D i).map nI), none⟩]) (fun i (g : Nat × Bool) => True) (n) ((0, true)) (by first | trivial | (simp; done) | omega | (intros; simp at *; done)) (by simp [-List.reduceReplicate, keep, iC, hs0]) (by simp [-List.reduceReplicate, iC, hs0]) ?_
  rintro i g Q1 hi hH next hother
  conv => arg 5; arg 1; simp only [List.cons_append, List.nil_append, keep, get, Nat.reduceEqDiff, if_true, if_false, ↓reduceIte]
  have hwi := wrap_in ((i : Int) + 1) (by omega)
  by_cases hlt : i < n
  · obtain ⟨x, hx⟩ : ∃ x, l[i]? = some x := ⟨_, List.getElem?_eq_getElem (by omega)⟩
    have hxl := hl x (List.mem_of_getElem? hx)
    have hsi := hst i x hx
    have hdl := hDl i (by omega)
    have hsi2 := hscg i x hx
    have hn5' : (i : Int) < 5 := by omega
    have hi6 : i < 6 := by omega
    unfold u64C at hsi2
    repeat' (first 
     | (with_reducible first | refine awp_scope ?_ | refine awp_seq ?_ | refine awp_block ?_)
     | ((with_reducible first | refine awp_label ?_ | refine awp_skip ?_); try simp only [thenA, inBlockA, noGotoA])
     | (with_reducible refine awp_exit ?_; simp only [thenA, inBlockA, noGotoA, if_true, Nat.reduceEqDiff, if_false, ↓reduceIte])
     | (with_reducible refine awp_ret ?_; (try simp only [thenA, inBlockA, noGotoA]); (try simp [-List.reduceReplicate, Nat.add_one_le_iff, -getElem?_pos, -getElem?_neg, List.getElem?_cons_zero, List.getElem?_cons_succ, iC, hlt, hx, hgo, hsi2, hscl, hn5', hn5, hi6]))
     | ((with_reducible first | refine awp_reg 31 hX [0, 2, 3, 4, 5, 6, 10, 18] ?_ | change postOf _ _ _ _ _); simp [-List.reduceReplicate, Nat.add_one_le_iff, -getElem?_pos, -getElem?_neg, List.getElem?_cons_zero, List.getElem?_cons_succ, iC, hlt, hx, hgo, hsi2, hscl, hn5', hn5, hi6])
     | (with_reducible refine awp_if_b rfl (fun hc => ?_) (fun hc => ?_) <;> (try simp [-getElem?_pos, -getElem?_neg] at hc) <;> (try (exfalso; omega)))
     | ((with_reducible first | refine GuardK_b (fun hc => ?_) (fun hc => ?_)) <;> (try simp only [Bool.not_eq_true', Bool.not_eq_false', decide_eq_true_eq, decide_eq_false_iff_not] at hc) <;> (first | (exfalso; omega) | skip) <;> simp [-List.reduceReplicate, Nat.add_one_le_iff, -getElem?_pos, -getElem?_neg, List.getElem?_cons_zero, List.getElem?_cons_succ, iC, hlt, hx, hgo, hsi2, hscl, hn5', hn5, hi6, hc])
     | ((with_reducible first | refine hother _ _ rfl ?_ | refine hother2 _ _ rfl ?_); simp only [inBlockA, thenA, noGotoA, Nat.reduceEqDiff, if_false, if_true, ↓reduceIte])
     | (with_reducible refine And.intro (by omega) ?_)
     | fail)
    have next1 := next; have hother2 := hother; clear next hother
    have f1 : x / 65536 < 18446744073709551616 := by omega
    obtain ⟨XK, hXK0, hXK1, hXKb⟩ : ∃ XK : Nat → Nat, XK 0 = x ∧ (∀ k, XK (k + 1) = XK k / 65536) ∧ d4 x = [XK 0 % 65536, XK 1 % 65536, XK 2 % 65536, XK 3 % 65536] :=
      ⟨fun k => x / 65536 ^ k, by simp, fun k => by simp only; rw [Nat.div_div_eq_div_mul, Nat.pow_succ], by simp [d4, Nat.div_div_eq_div_mul]⟩
    have hXl : ∀ k, k ≤ 4 → XK k < 18446744073709551616 := by
      intro k
      induction k with
      | zero => intro _; omega
      | succ k ih => intro hk; have := ih (by omega); rw [hXK1]; omega
    obtain ⟨T, hT0, hT4, hT1, hTl⟩ : ∃ T : Nat → List Nat, T 0 = D i ∧ T 4 = D (i + 1) ∧ (∀ k, k < 4 → T (k + 1) = T k ++ [XK k % 65536]) ∧ ∀ k, k ≤ 4 → (T k).length = 4 * i + k := by
      refine ⟨fun k => D i ++ (d4 x).take k, by simp, by rw [hsi]; rfl, fun k hk => ?_, fun k hk => by simp [hdl, d4]; omega⟩
      rw [hXKb]
      match k, hk with
      | 0, _ => simp
      | 1, _ => simp
      | 2, _ => simp
      | 3, _ => simp
    rw [← hT0]
    clear hXKb hsi
    refine awp_forU [0, 3, 4, 5, 6] (fun k (q : Nat × Bool) => [(3, .ms ob.length q.1 0 (4 * i + k)), (5, .c (u64C (XK k))), (6, .c (iC k))]) (fun k (q : Nat × Bool) => ob ++ [⟨3, 1, q.2, q.1, up ((T k).map nI), none⟩]) (fun k (q : Nat × Bool) => True) (4) (g) (by first | trivial | (simp; done) | omega | (intros; simp at *; done)) (by simp [-List.reduceReplicate, keep, iC, u64C, hXK0]) (by simp [-List.reduceReplicate, iC, u64C, hXK0]) ?_
    rintro k q Q1 hi hH next hother
    conv => arg 5; arg 1; simp only [List.cons_append, List.nil_append, keep, get, Nat.reduceEqDiff, if_true, if_false, ↓reduceIte]
    have hwk := wrap_in ((k : Int) + 1) (by omega)
    by_cases hk4 : k < 4
    · have hk2 : (k : Int) < 4 := by omega
      have hxk := hXl k (by omega)
      have t1 := hT1 k hk4
      have tl := hTl k (by omega)
      have s1 := hXK1 k
      have m1 : ((XK k : Int)).tmod 65536 = ((XK k % 65536 : Nat) : Int) := rfl
      have w1 := wrap_in ((XK k % 65536 : Nat) : Int) (by have := Nat.mod_lt (XK k) (show 65536 > 0 by decide); omega)
      have m2 : ((XK k : Int)).tdiv 65536 = ((XK k / 65536 : Nat) : Int) := rfl
      have w2 := wrapU64 ((XK k / 65536 : Nat) : Int) (by omega)
      have hlt2 : (XK k / 65536 : Nat) < 18446744073709551616 := by omega
      rw [← s1] at m2 w2
      generalize XK (k + 1) = xk1 at *
      generalize XK k % 65536 = dk at *
      repeat' (first 
       | (with_reducible first | refine awp_scope ?_ | refine awp_seq ?_ | refine awp_block ?_)
       | ((with_reducible first | refine awp_label ?_ | refine awp_skip ?_); try simp only [thenA, inBlockA, noGotoA])
       | (with_reducible refine awp_exit ?_; simp only [thenA, inBlockA, noGotoA, if_true, Nat.reduceEqDiff, if_false, ↓reduceIte])
       | (with_reducible refine awp_ret ?_; (try simp only [thenA, inBlockA, noGotoA]); (try simp [-List.reduceReplicate, Nat.add_one_le_iff, -getElem?_pos, -getElem?_neg, List.getElem?_cons_zero, List.getElem?_cons_succ, iC, bC, u64C, nI, hk2, m1, w1, m2, w2, tl, roomB, hwk]))
       | ((with_reducible first | refine awp_reg 31 hX [0, 2, 3, 4, 5, 6, 10, 18] ?_ | change postOf _ _ _ _ _); simp [-List.reduceReplicate, Nat.add_one_le_iff, -getElem?_pos, -getElem?_neg, List.getElem?_cons_zero, List.getElem?_cons_succ, iC, bC, u64C, nI, hk2, m1, w1, m2, w2, tl, roomB, hwk])
       | (with_reducible refine awp_if_b rfl (fun hc => ?_) (fun hc => ?_) <;> (try simp [-getElem?_pos, -getElem?_neg] at hc) <;> (try (exfalso; omega)))
       | ((with_reducible first | refine GuardK_b (fun hc => ?_) (fun hc => ?_)) <;> (try simp only [Bool.not_eq_true', Bool.not_eq_false', decide_eq_true_eq, decide_eq_false_iff_not] at hc) <;> (first | (exfalso; omega) | skip) <;> simp [-List.reduceReplicate, Nat.add_one_le_iff, -getElem?_pos, -getElem?_neg, List.getElem?_cons_zero, List.getElem?_cons_succ, iC, bC, u64C, nI, hk2, m1, w1, m2, w2, tl, roomB, hwk, hc])
       | ((with_reducible first | refine hother _ _ rfl ?_ | refine hother2 _ _ rfl ?_); simp only [inBlockA, thenA, noGotoA, Nat.reduceEqDiff, if_false, if_true, ↓reduceIte])
       | (with_reducible refine And.intro (by omega) ?_)
       | fail)
      refine next _ _ ((q.1 + 1, false)) (by omega) (by first | trivial | omega | assumption) (by simp [-List.reduceReplicate, keep, iC, u64C, nI, t1, Nat.add_assoc]) (by simp [-List.reduceReplicate, iC, u64C, nI, t1, Nat.add_assoc])
    · have hk3 : k = 4 := by omega
      subst hk3
      have e4 : 4 * (i + 1) = 4 * i + 4 := by omega
      repeat' (first 
       | (with_reducible first | refine awp_scope ?_ | refine awp_seq ?_ | refine awp_block ?_)
       | ((with_reducible first | refine awp_label ?_ | refine awp_skip ?_); try simp only [thenA, inBlockA, noGotoA])
       | (with_reducible refine awp_exit ?_; simp only [thenA, inBlockA, noGotoA, if_true, Nat.reduceEqDiff, if_false, ↓reduceIte])
       | (with_reducible refine awp_ret ?_; (try simp only [thenA, inBlockA, noGotoA]); (try simp [-List.reduceReplicate, Nat.add_one_le_iff, -getElem?_pos, -getElem?_neg, List.getElem?_cons_zero, List.getElem?_cons_succ, iC, bC, u64C, hwi]))
       | ((with_reducible first | refine awp_reg 31 hX [0, 2, 3, 4, 5, 6, 10, 18] ?_ | change postOf _ _ _ _ _); simp [-List.reduceReplicate, Nat.add_one_le_iff, -getElem?_pos, -getElem?_neg, List.getElem?_cons_zero, List.getElem?_cons_succ, iC, bC, u64C, hwi])
       | (with_reducible refine awp_if_b rfl (fun hc => ?_) (fun hc => ?_) <;> (try simp [-getElem?_pos, -getElem?_neg] at hc) <;> (try (exfalso; omega)))
       | ((with_reducible first | refine GuardK_b (fun hc => ?_) (fun hc => ?_)) <;> (try simp only [Bool.not_eq_true', Bool.not_eq_false', decide_eq_true_eq, decide_eq_false_iff_not] at hc) <;> (first | (exfalso; omega) | skip) <;> simp [-List.reduceReplicate, Nat.add_one_le_iff, -getElem?_pos, -getElem?_neg, List.getElem?_cons_zero, List.getElem?_cons_succ, iC, bC, u64C, hwi, hc])
       | ((with_reducible first | refine hother _ _ rfl ?_ | refine hother2 _ _ rfl ?_); simp only [inBlockA, thenA, noGotoA, Nat.reduceEqDiff, if_false, if_true, ↓reduceIte])
       | (with_reducible refine And.intro (by omega) ?_)
       | fail)
      refine next1 _ _ (q) (by omega) (by first | trivial | omega | assumption) (by simp [-List.reduceReplicate, keep, iC, hT4, e4]) (by simp [-List.reduceReplicate, iC, hT4, e4])
  · have hi2 : i = n := by omega
    subst hi2
    have hexit := hother; clear hother next
    repeat' (first 
     | (with_reducible first | refine awp_scope ?_ | refine awp_seq ?_ | refine awp_block ?_)
     | ((with_reducible first | refine awp_label ?_ | refine awp_skip ?_); try simp only [thenA, inBlockA, noGotoA])
     | (with_reducible refine awp_exit ?_; simp only [thenA, inBlockA, noGotoA, if_true, Nat.reduceEqDiff, if_false, ↓reduceIte])
     | (with_reducible refine awp_ret ?_; (try simp only [thenA, inBlockA, noGotoA]); (try simp [-List.reduceReplicate, Nat.add_one_le_iff, -getElem?_pos, -getElem?_neg, List.getElem?_cons_zero, List.getElem?_cons_succ, iC, bC, hgo, hn5]))
     | ((with_reducible first | refine awp_reg 31 hX [0, 2, 3, 4, 5, 6, 10, 18] ?_ | change postOf _ _ _ _ _); simp [-List.reduceReplicate, Nat.add_one_le_iff, -getElem?_pos, -getElem?_neg, List.getElem?_cons_zero, List.getElem?_cons_succ, iC, bC, hgo, hn5])
     | (with_reducible refine awp_if_b rfl (fun hc => ?_) (fun hc => ?_) <;> (try simp [-getElem?_pos, -getElem?_neg] at hc) <;> (try (exfalso; omega)))
     | ((with_reducible first | refine GuardK_b (fun hc => ?_) (fun hc => ?_)) <;> (try simp only [Bool.not_eq_true', Bool.not_eq_false', decide_eq_true_eq, decide_eq_false_iff_not] at hc) <;> (first | (exfalso; omega) | skip) <;> simp [-List.reduceReplicate, Nat.add_one_le_iff, -getElem?_pos, -getElem?_neg, List.getElem?_cons_zero, List.getElem?_cons_succ, iC, bC, hgo, hn5, hc])
     | ((with_reducible first | refine hother _ _ rfl ?_ | refine hother2 _ _ rfl ?_); simp only [inBlockA, thenA, noGotoA, Nat.reduceEqDiff, if_false, if_true, ↓reduceIte])
     | (with_reducible refine And.intro (by omega) ?_)
     | fail)
    refine hexit _ _ rfl ?_
    simp only [inBlockA, thenA, ↓reduceIte]
    have hsn5 : D 5 = d4s l := by rw [← hn5]; exact hsn
    rw [hn5] at p1
    refine awp_frz2 3 ob [] [] _ ((D 5).map nI) 20 hO rfl (by simp [get]) rfl (by simp [ltB, hpl]) (by simp) ?_
    rw [hsn5]
    repeat' (first 
     | (with_reducible first | refine awp_scope ?_ | refine awp_seq ?_ | refine awp_block ?_)
     | ((with_reducible first | refine awp_label ?_ | refine awp_skip ?_); try simp only [thenA, inBlockA, noGotoA])
     | (with_reducible refine awp_exit ?_; simp only [thenA, inBlockA, noGotoA, if_true, Nat.reduceEqDiff, if_false, ↓reduceIte])
     | (with_reducible refine awp_ret ?_; (try simp only [thenA, inBlockA, noGotoA]); (try simp [-List.reduceReplicate, Nat.add_one_le_iff, -getElem?_pos, -getElem?_neg, List.getElem?_cons_zero, List.getElem?_cons_succ, iC, bC]))
     | ((with_reducible first | refine awp_reg 31 hX [0, 2, 3, 4, 5, 6, 10, 18] ?_ | change postOf _ _ _ _ _); simp [-List.reduceReplicate, Nat.add_one_le_iff, -getElem?_pos, -getElem?_neg, List.getElem?_cons_zero, List.getElem?_cons_succ, iC, bC])
     | ((first | (refine (p1 _).det ?_)); try simp [-List.reduceReplicate, Nat.add_one_le_iff, -getElem?_pos, -getElem?_neg, List.getElem?_cons_zero, List.getElem?_cons_succ, iC, bC])
     | (with_reducible refine awp_if_b rfl (fun hc => ?_) (fun hc => ?_) <;> (try simp [-getElem?_pos, -getElem?_neg] at hc) <;> (try (exfalso; omega)))
     | ((with_reducible first | refine GuardK_b (fun hc => ?_) (fun hc => ?_)) <;> (try simp only [Bool.not_eq_true', Bool.not_eq_false', decide_eq_true_eq, decide_eq_false_iff_not] at hc) <;> (first | (exfalso; omega) | skip) <;> simp [-List.reduceReplicate, Nat.add_one_le_iff, -getElem?_pos, -getElem?_neg, List.getElem?_cons_zero, List.getElem?_cons_succ, iC, bC, hc])
     | ((with_reducible first | refine hother _ _ rfl ?_ | refine hother2 _ _ rfl ?_); simp only [inBlockA, thenA, noGotoA, Nat.reduceEqDiff, if_false, if_true, ↓reduceIte])
     | (with_reducible refine And.intro (by omega) ?_)
     | fail)
end Go.Av

set_option exponentiation.threshold 1000
set_option linter.unusedVariables false
set_option linter.unusedSimpArgs false
set_option maxRecDepth 100000
set_option maxHeartbeats 4000000
namespace Go.Av
open Go Go.Proofs Go.Proofs.Ytofomnllcmgfeaa Go.RowKit
/-! ### DuelScores -/
def great42 (a : List H32) (za : List Int) : Bool := decide (40 < a.length) || decide (40 < za.length)
theorem great42_den (a : List H32) (za : List Int) : DenV Try.prog 35 [sideM a za] (.c (bC (great42 a za))) := by
  refine Den.frame rfl rfl ?_
  unfold sideM sideL great42
  refine den_of Try.func35 rfl rfl (by simp [Try.ntmps35]) (fun X hX hO => ?_)
  rw [Try.ntmps35] at hX
  simp only [Try.results35]
  by_cases c : 40 < a.length
  · have c2 : (40 : Int) < a.length := by omega
    repeat' (first 
     | (with_reducible first | refine awp_scope ?_ | refine awp_seq ?_ | refine awp_block ?_)
     | ((with_reducible first | refine awp_label ?_ | refine awp_skip ?_); try simp only [thenA, inBlockA, noGotoA])
     | (with_reducible refine awp_exit ?_; simp only [thenA, inBlockA, noGotoA, if_true, Nat.reduceEqDiff, if_false, ↓reduceIte])
     | (with_reducible refine awp_ret ?_; (try simp only [thenA, inBlockA, noGotoA]); (try simp [-List.reduceReplicate, Nat.add_one_le_iff, -getElem?_pos, -getElem?_neg, List.getElem?_cons_zero, List.getElem?_cons_succ, iC, bC, c, c2]))
     | ((with_reducible first | refine awp_reg 13 hX [1, 2] ?_ | change postOf _ _ _ _ _); simp [-List.reduceReplicate, Nat.add_one_le_iff, -getElem?_pos, -getElem?_neg, List.getElem?_cons_zero, List.getElem?_cons_succ, iC, bC, c, c2])
     | (with_reducible refine awp_if_b rfl (fun hc => ?_) (fun hc => ?_) <;> (try simp [-getElem?_pos, -getElem?_neg] at hc) <;> (try (exfalso; omega)))
     | ((with_reducible first | refine GuardK_b (fun hc => ?_) (fun hc => ?_)) <;> (try simp only [Bool.not_eq_true', Bool.not_eq_false', decide_eq_true_eq, decide_eq_false_iff_not] at hc) <;> (first | (exfalso; omega) | skip) <;> simp [-List.reduceReplicate, Nat.add_one_le_iff, -getElem?_pos, -getElem?_neg, List.getElem?_cons_zero, List.getElem?_cons_succ, iC, bC, c, c2, hc])
     | (with_reducible refine And.intro (by omega) ?_)
     | fail)
  · have c2 : ¬ (40 : Int) < a.length := by omega
    repeat' (first 
     | (with_reducible first | refine awp_scope ?_ | refine awp_seq ?_ | refine awp_block ?_)
     | ((with_reducible first | refine awp_label ?_ | refine awp_skip ?_); try simp only [thenA, inBlockA, noGotoA])
     | (with_reducible refine awp_exit ?_; simp only [thenA, inBlockA, noGotoA, if_true, Nat.reduceEqDiff, if_false, ↓reduceIte])
     | (with_reducible refine awp_ret ?_; (try simp only [thenA, inBlockA, noGotoA]); (try simp [-List.reduceReplicate, Nat.add_one_le_iff, -getElem?_pos, -getElem?_neg, List.getElem?_cons_zero, List.getElem?_cons_succ, iC, bC, c, c2]))
     | ((with_reducible first | refine awp_reg 13 hX [1, 2] ?_ | change postOf _ _ _ _ _); simp [-List.reduceReplicate, Nat.add_one_le_iff, -getElem?_pos, -getElem?_neg, List.getElem?_cons_zero, List.getElem?_cons_succ, iC, bC, c, c2])
     | (with_reducible refine awp_if_b rfl (fun hc => ?_) (fun hc => ?_) <;> (try simp [-getElem?_pos, -getElem?_neg] at hc) <;> (try (exfalso; omega)))
     | ((with_reducible first | refine GuardK_b (fun hc => ?_) (fun hc => ?_)) <;> (try simp only [Bool.not_eq_true', Bool.not_eq_false', decide_eq_true_eq, decide_eq_false_iff_not] at hc) <;> (first | (exfalso; omega) | skip) <;> simp [-List.reduceReplicate, Nat.add_one_le_iff, -getElem?_pos, -getElem?_neg, List.getElem?_cons_zero, List.getElem?_cons_succ, iC, bC, c, c2, hc])
     | (with_reducible refine And.intro (by omega) ?_)
     | fail)
    omega
theorem ours_den (a : List H32) (za : List Int) : DenV Try.prog 41 [sideM a za] (sideM a za) := by
  refine Den.frame rfl rfl ?_
  unfold sideM sideL
  refine den_of Try.func41 rfl rfl (by simp [Try.ntmps41]) (fun X hX hO => ?_)
  rw [Try.ntmps41] at hX
  simp only [Try.results41]
  repeat' (first 
   | (with_reducible first | refine awp_scope ?_ | refine awp_seq ?_ | refine awp_block ?_)
   | ((with_reducible first | refine awp_label ?_ | refine awp_skip ?_); try simp only [thenA, inBlockA, noGotoA])
   | (with_reducible refine awp_exit ?_; simp only [thenA, inBlockA, noGotoA, if_true, Nat.reduceEqDiff, if_false, ↓reduceIte])
   | (with_reducible refine awp_ret ?_; (try simp only [thenA, inBlockA, noGotoA]); (try simp [-List.reduceReplicate, Nat.add_one_le_iff, -getElem?_pos, -getElem?_neg, List.getElem?_cons_zero, List.getElem?_cons_succ, up]))
   | ((with_reducible first | refine awp_reg 8 hX [1, 2] ?_ | change postOf _ _ _ _ _); simp [-List.reduceReplicate, Nat.add_one_le_iff, -getElem?_pos, -getElem?_neg, List.getElem?_cons_zero, List.getElem?_cons_succ, up])
   | (with_reducible refine awp_if_b rfl (fun hc => ?_) (fun hc => ?_) <;> (try simp [-getElem?_pos, -getElem?_neg] at hc) <;> (try (exfalso; omega)))
   | ((with_reducible first | refine GuardK_b (fun hc => ?_) (fun hc => ?_)) <;> (try simp only [Bool.not_eq_true', Bool.not_eq_false', decide_eq_true_eq, decide_eq_false_iff_not] at hc) <;> (first | (exfalso; omega) | skip) <;> simp [-List.reduceReplicate, Nat.add_one_le_iff, -getElem?_pos, -getElem?_neg, List.getElem?_cons_zero, List.getElem?_cons_succ, up, hc])
   | (with_reducible refine And.intro (by omega) ?_)
   | fail)
theorem great42_no {a : List H32} {za : List Int} (h : great42 a za = false) : a.length ≤ 40 ∧ za.length ≤ 40 := by
  unfold great42 at h
  simp only [Bool.or_eq_false_iff, decide_eq_false_iff_not] at h
  omega
def hOf (b : UInt8) : H32 := ⟨b :: List.replicate 31 0, rfl⟩
theorem awake42_den : DenV Try.prog 36 [] (.c (bC true)) := by
  refine Den.frame rfl rfl ?_
  have p1 := verdict_den [hOf 1, hOf 2] [hOf 1, hOf 3] [256, 3] [256, 0] 1 (by simp) (by simp) (by simp) (by simp)
  have p2 := verdict_den [hOf 1, hOf 3] [hOf 1, hOf 2] [256, 0] [256, 3] 1 (by simp) (by simp) (by simp) (by simp)
  have p3 := verdict_den [hOf 1, hOf 2] [hOf 1, hOf 2] [256, 3] [256, 3] 1 (by simp) (by simp) (by simp) (by simp)
  rw [show vrdN [hOf 1, hOf 2] [hOf 1, hOf 3] [256, 3] [256, 0] 1 = 1 by decide +kernel] at p1
  rw [show vrdN [hOf 1, hOf 3] [hOf 1, hOf 2] [256, 0] [256, 3] 1 = -1 by decide +kernel] at p2
  rw [show vrdN [hOf 1, hOf 2] [hOf 1, hOf 2] [256, 3] [256, 3] 1 = 0 by decide +kernel] at p3
  have e12 : hsC [hOf 1, hOf 2] = (hOf 1).1.map bC8 ++ (hOf 2).1.map bC8 := by simp [hsC]
  have e13 : hsC [hOf 1, hOf 3] = (hOf 1).1.map bC8 ++ (hOf 3).1.map bC8 := by simp [hsC]
  unfold sideM sideL at p1 p2 p3
  rw [e12, e13] at p1 p2
  rw [e12] at p3
  have z0 : zeroT Try.prog 71 = some (up ((hOf 0).1.map bC8)) := by kernel_rfl
  have s1 : ((hOf 0).1.map bC8).set 0 (.v (.int .u8 1)) = (hOf 1).1.map bC8 := by rfl
  have s2 : ((hOf 0).1.map bC8).set 0 (.v (.int .u8 2)) = (hOf 2).1.map bC8 := by rfl
  have s3 : ((hOf 0).1.map bC8).set 0 (.v (.int .u8 3)) = (hOf 3).1.map bC8 := by rfl
  have l0 : ((hOf 0).1.map bC8).length = 32 := by rfl
  have l1 : ((hOf 1).1.map bC8).length = 32 := by rfl
  have l2 : ((hOf 2).1.map bC8).length = 32 := by rfl
  have l3 : ((hOf 3).1.map bC8).length = 32 := by rfl
  generalize (hOf 0).1.map bC8 = c0 at *
  generalize (hOf 1).1.map bC8 = c1 at *
  generalize (hOf 2).1.map bC8 = c2 at *
  generalize (hOf 3).1.map bC8 = c3 at *
  obtain ⟨y1, y2⟩ := lay_pair c0 c1 c2 32 l0 l1 l2 (by decide)
  obtain ⟨_, y3⟩ := lay_pair c0 c1 c3 32 l0 l1 l3 (by decide)
  have le2 : ∀ (x y : List C) (z w : List C) (x' y' z' w' : List C), LeMs [.agg (up [.sl x 2 true, .sl z 2 true]), .agg (up [.sl y 2 true, .sl w 2 true]), .c (iC 1)] [.agg (up [.sl x 2 false, .sl z 2 false]), .agg (up [.sl y 2 false, .sl w 2 false]), .c (iC 1)] := fun x y z w _ _ _ _ =>
    ⟨leM_agg ⟨leM_c (leC_full _ _ _), leM_c (leC_full _ _ _), trivial⟩, leM_agg ⟨leM_c (leC_full _ _ _), leM_c (leC_full _ _ _), trivial⟩, leM_refl _, trivial⟩
  have q1 := fun ob => (p1 ob).le (le2 _ _ _ _ [] [] [] [])
  have q2 := fun ob => (p2 ob).le (le2 _ _ _ _ [] [] [] [])
  have q3 := fun ob => (p3 ob).le (le2 _ _ _ _ [] [] [] [])
  simp only [List.map_cons, List.map_nil, iC] at q1 q2 q3
  refine den_of Try.func36 rfl rfl (by simp [Try.ntmps36]) (fun X hX hO => ?_)
  rw [Try.ntmps36] at hX
  simp only [Try.results36]
  repeat' (first 
   | (with_reducible first | refine awp_scope ?_ | refine awp_seq ?_ | refine awp_block ?_)
   | ((with_reducible first | refine awp_label ?_ | refine awp_skip ?_); try simp only [thenA, inBlockA, noGotoA])
   | (with_reducible refine awp_exit ?_; simp only [thenA, inBlockA, noGotoA, if_true, Nat.reduceEqDiff, if_false, ↓reduceIte])
   | (with_reducible refine awp_ret ?_; (try simp only [thenA, inBlockA, noGotoA]); (try simp [-List.reduceReplicate, Nat.add_one_le_iff, -getElem?_pos, -getElem?_neg, List.getElem?_cons_zero, List.getElem?_cons_succ, iC, bC, z0, s1, s2, s3, l0, l1, l2, l3, y1, y2, y3, -Tab.zero71]))
   | ((with_reducible first | refine awp_reg 29 hX [0, 1, 2] ?_ | change postOf _ _ _ _ _); simp [-List.reduceReplicate, Nat.add_one_le_iff, -getElem?_pos, -getElem?_neg, List.getElem?_cons_zero, List.getElem?_cons_succ, iC, bC, z0, s1, s2, s3, l0, l1, l2, l3, y1, y2, y3, -Tab.zero71])
   | ((first | (refine (q1 _).det ?_) | (refine (q2 _).det ?_) | (refine (q3 _).det ?_)); try simp [-List.reduceReplicate, Nat.add_one_le_iff, -getElem?_pos, -getElem?_neg, List.getElem?_cons_zero, List.getElem?_cons_succ, iC, bC, z0, s1, s2, s3, l0, l1, l2, l3, y1, y2, y3, -Tab.zero71])
   | (with_reducible refine awp_if_b rfl (fun hc => ?_) (fun hc => ?_) <;> (try simp [-getElem?_pos, -getElem?_neg] at hc) <;> (try (exfalso; omega)))
   | ((with_reducible first | refine GuardK_b (fun hc => ?_) (fun hc => ?_)) <;> (try simp only [Bool.not_eq_true', Bool.not_eq_false', decide_eq_true_eq, decide_eq_false_iff_not] at hc) <;> (first | (exfalso; omega) | skip) <;> simp [-List.reduceReplicate, Nat.add_one_le_iff, -getElem?_pos, -getElem?_neg, List.getElem?_cons_zero, List.getElem?_cons_succ, iC, bC, z0, s1, s2, s3, l0, l1, l2, l3, y1, y2, y3, -Tab.zero71, hc])
   | (with_reducible refine And.intro (by omega) ?_)
   | fail)
set_option maxHeartbeats 8000000 in
theorem duelScores_den (a b : List H32) (za zb : List Int) (m : Int) (ob : List Ob) : Den Try.prog 10 [sideM a za, sideM b zb, .c (iC m)] ob (fun r ob' => r = .c (bC true) ∧ ob' = ob) := by
  refine Den.frame rfl rfl ?_ ob
  have aw := awake42_den
  have g1 := great42_den a za
  have g2 := great42_den b zb
  have o1 := ours_den a za
  have o2 := ours_den b zb
  cases hg1 : great42 a za
  · cases hg2 : great42 b zb
    · obtain ⟨ha, hza⟩ := great42_no hg1
      obtain ⟨hb, hzb⟩ := great42_no hg2
      rw [hg1] at g1
      rw [hg2] at g2
      have p1 := scores_den a b za zb m (by omega) (by omega) (by omega) (by omega)
      have p2 := last40_den a b a.length b.length false false rfl rfl (by omega) (by omega)
      have p3 := verdict_den a b za zb m (by omega) (by omega) (by omega) (by omega)
      have p4 := verdict40_den a b za zb m (by omega) (by omega) (by omega) (by omega)
      have hr := lastH_range a b
      have pa := fun k h => behind40_den za k (by omega) h
      have pb := fun k h => behind40_den zb k (by omega) h
      have qa := fun k => best40_den (za.drop (k + 1)) m (by simp; omega)
      have qb := fun k => best40_den (zb.drop (k + 1)) m (by simp; omega)
      have la := fun k => bestN_lt (za.drop (k + 1)) m (by simp; omega) 256 (by omega)
      have lb := fun k => bestN_lt (zb.drop (k + 1)) m (by simp; omega) 256 (by omega)
      have na := behI_nat za
      have nb := behI_nat zb
      have lm := limbsM_den
      have sl : ∀ p, (scoreC p).length = 6 := fun _ => rfl
      have lyS : ∀ q, lay [M.c (C.v (.int .u64 0)), M.c (C.v (.int .u64 0)), M.c (C.v (.int .u64 0)), M.c (C.v (.int .u64 0)), M.c (C.v (.int .u64 0)), M.c (C.v (.int .i64 0))] 0 (up (scoreC q)) = up (scoreC q) := fun _ => rfl
      have s5 : ∀ q : Nat × Nat, (scoreC q)[5]? = some (iC q.2) := fun _ => rfl
      unfold argN at p1
      obtain ⟨i, hi⟩ : ∃ i, (lastH a b).1 = i := ⟨_, rfl⟩
      obtain ⟨k, hk⟩ : ∃ k, (lastH a b).2 = k := ⟨_, rfl⟩
      rw [hi, hk] at p1 p2
      generalize vrdN a b za zb m = vd at *
      by_cases c : i < 0
      · have c2 : ¬ 0 ≤ i := by omega
        simp only [c, if_true, decide_true, Bool.not_true] at p1
        unfold sideM sideL at *
        refine den_of Try.func10 rfl rfl (by simp [Try.ntmps10]) (fun X hX hO => ?_)
        rw [Try.ntmps10] at hX
        simp only [Try.results10]
        repeat' (first 
         | (with_reducible first | refine awp_scope ?_ | refine awp_seq ?_ | refine awp_block ?_)
         | ((with_reducible first | refine awp_label ?_ | refine awp_skip ?_); try simp only [thenA, inBlockA, noGotoA])
         | (with_reducible refine awp_exit ?_; simp only [thenA, inBlockA, noGotoA, if_true, Nat.reduceEqDiff, if_false, ↓reduceIte])
         | (with_reducible refine awp_ret ?_; (try simp only [thenA, inBlockA, noGotoA]); (try simp [-List.reduceReplicate, Nat.add_one_le_iff, -getElem?_pos, -getElem?_neg, List.getElem?_cons_zero, List.getElem?_cons_succ, iC, bC, c, c2, sl, lyS, s5]))
         | ((with_reducible first | refine awp_reg 116 hX [2, 3, 4, 6, 7, 8, 9, 10, 11, 12, 13, 14, 15, 21, 55, 57] ?_ | refine awp_drw 116 hX [2, 3, 4, 6, 7, 8, 9, 10, 11, 12, 13, 14, 15, 21, 55, 57] Tab.mixed (by kernel_rfl) ?_ | refine DEv_cut _ _ _ _ _ _ _ _ _ _ _ _ (by kernel_rfl) ?_ | change postOf _ _ _ _ _); simp [-List.reduceReplicate, Nat.add_one_le_iff, -getElem?_pos, -getElem?_neg, List.getElem?_cons_zero, List.getElem?_cons_succ, iC, bC, c, c2, sl, lyS, s5])
         | ((first | (refine (g1 _).det ?_) | (refine ⟨_, _, g1 _, fun _ => rfl, ?_⟩) | (refine (g2 _).det ?_) | (refine ⟨_, _, g2 _, fun _ => rfl, ?_⟩) | (refine (p1 _).det ?_) | (refine ⟨_, _, p1 _, fun _ => rfl, ?_⟩) | (refine (p2 _).det ?_) | (refine ⟨_, _, p2 _, fun _ => rfl, ?_⟩) | (refine (p3 _).det ?_) | (refine ⟨_, _, p3 _, fun _ => rfl, ?_⟩) | (refine (o1 _).det ?_) | (refine ⟨_, _, o1 _, fun _ => rfl, ?_⟩) | (refine (o2 _).det ?_) | (refine ⟨_, _, o2 _, fun _ => rfl, ?_⟩) | (refine (p4 _).det ?_) | (refine ⟨_, _, p4 _, fun _ => rfl, ?_⟩) | (refine (aw _).det ?_) | (refine ⟨_, _, aw _, fun _ => rfl, ?_⟩)); try simp [-List.reduceReplicate, Nat.add_one_le_iff, -getElem?_pos, -getElem?_neg, List.getElem?_cons_zero, List.getElem?_cons_succ, iC, bC, c, c2, sl, lyS, s5])
         | (with_reducible refine awp_if_b rfl (fun hc => ?_) (fun hc => ?_) <;> (try simp [-getElem?_pos, -getElem?_neg] at hc) <;> (try (exfalso; omega)))
         | ((with_reducible first | refine GuardK_b (fun hc => ?_) (fun hc => ?_) | refine DGuard_b _ _ _ _ _ _ _ _ _ _ (fun hc => ?_) (fun hc => ?_)) <;> (try simp only [Bool.not_eq_true', Bool.not_eq_false', decide_eq_true_eq, decide_eq_false_iff_not] at hc) <;> (first | (exfalso; omega) | skip) <;> simp [-List.reduceReplicate, Nat.add_one_le_iff, -getElem?_pos, -getElem?_neg, List.getElem?_cons_zero, List.getElem?_cons_succ, iC, bC, c, c2, sl, lyS, s5, hc])
         | (with_reducible refine And.intro (by omega) ?_)
         | fail)
      · have c2 : 0 ≤ i := by omega
        have hii : 0 ≤ i ∧ i < (a.length : Int) ∧ 0 ≤ k ∧ k < (b.length : Int) := by
          rcases hr with h | h
          · rw [h] at hi; simp at hi; omega
          · rw [hi, hk] at h; exact h
        obtain ⟨i', rfl⟩ : ∃ i' : Nat, i = (i' : Int) := ⟨i.toNat, by omega⟩
        obtain ⟨k', rfl⟩ : ∃ k' : Nat, k = (k' : Int) := ⟨k.toNat, by omega⟩
        have pa1 := pa i' (by omega)
        have pb1 := pb k' (by omega)
        have qa1 := qa i'
        have qb1 := qb k'
        rw [na, nb] at p1
        have la1 := la i'
        have lb1 := lb k'
        simp only [c, if_false, decide_false, Bool.not_false] at p1
        clear pa pb qa qb la lb na nb hr hi hk
        generalize bestN (za.drop (i' + 1)) m 256 = x at *
        generalize bestN (zb.drop (k' + 1)) m 256 = y at *
        generalize za.drop (i' + 1) = xa at *
        generalize zb.drop (k' + 1) = xb at *
        have pc1 := cmp05_den x.1 x.1 (dgl_le la1)
        have pc2 := cmp05_den y.1 y.1 (dgl_le lb1)
        rw [cmpN_eq] at pc1 pc2
        have lx := fun o0 o1 o3 : Ob => limbsM_den x.1 x.2 la1 [o0, o1, ⟨52, 1, false, 0, up (scoreC x), none⟩, o3] 2 rfl
        have ly := fun o0 o1 o2 : Ob => limbsM_den y.1 y.2 lb1 [o0, o1, o2, ⟨52, 1, false, 0, up (scoreC y), none⟩] 3 rfl
        unfold sideM sideL intsC at *
        refine den_of Try.func10 rfl rfl (by simp [Try.ntmps10]) (fun X hX hO => ?_)
        rw [Try.ntmps10] at hX
        simp only [Try.results10]
        repeat' (first 
         | (with_reducible first | refine awp_scope ?_ | refine awp_seq ?_ | refine awp_block ?_)
         | ((with_reducible first | refine awp_label ?_ | refine awp_skip ?_); try simp only [thenA, inBlockA, noGotoA])
         | (with_reducible refine awp_exit ?_; simp only [thenA, inBlockA, noGotoA, if_true, Nat.reduceEqDiff, if_false, ↓reduceIte])
         | (with_reducible refine awp_ret ?_; (try simp only [thenA, inBlockA, noGotoA]); (try simp [-List.reduceReplicate, Nat.add_one_le_iff, -getElem?_pos, -getElem?_neg, List.getElem?_cons_zero, List.getElem?_cons_succ, iC, bC, c, c2, sl, lyS, s5]))
         | ((with_reducible first | refine awp_reg 116 hX [2, 3, 4, 6, 7, 8, 9, 10, 11, 12, 13, 14, 15, 21, 55, 57] ?_ | refine awp_drw 116 hX [2, 3, 4, 6, 7, 8, 9, 10, 11, 12, 13, 14, 15, 21, 55, 57] Tab.mixed (by kernel_rfl) ?_ | refine DEv_cut _ _ _ _ _ _ _ _ _ _ _ _ (by kernel_rfl) ?_ | change postOf _ _ _ _ _); simp [-List.reduceReplicate, Nat.add_one_le_iff, -getElem?_pos, -getElem?_neg, List.getElem?_cons_zero, List.getElem?_cons_succ, iC, bC, c, c2, sl, lyS, s5])
         | ((first | (refine (g1 _).det ?_) | (refine ⟨_, _, g1 _, fun _ => rfl, ?_⟩) | (refine (g2 _).det ?_) | (refine ⟨_, _, g2 _, fun _ => rfl, ?_⟩) | (refine (p1 _).det ?_) | (refine ⟨_, _, p1 _, fun _ => rfl, ?_⟩) | (refine (p2 _).det ?_) | (refine ⟨_, _, p2 _, fun _ => rfl, ?_⟩) | (refine (p3 _).det ?_) | (refine ⟨_, _, p3 _, fun _ => rfl, ?_⟩) | (refine (o1 _).det ?_) | (refine ⟨_, _, o1 _, fun _ => rfl, ?_⟩) | (refine (o2 _).det ?_) | (refine ⟨_, _, o2 _, fun _ => rfl, ?_⟩) | (refine (p4 _).det ?_) | (refine ⟨_, _, p4 _, fun _ => rfl, ?_⟩) | (refine (aw _).det ?_) | (refine ⟨_, _, aw _, fun _ => rfl, ?_⟩) | (refine (pa1 _).det ?_) | (refine ⟨_, _, pa1 _, fun _ => rfl, ?_⟩) | (refine (qa1 _).det ?_) | (refine ⟨_, _, qa1 _, fun _ => rfl, ?_⟩) | (refine (pb1 _).det ?_) | (refine ⟨_, _, pb1 _, fun _ => rfl, ?_⟩) | (refine (qb1 _).det ?_) | (refine ⟨_, _, qb1 _, fun _ => rfl, ?_⟩) | (refine (pc1 _).det ?_) | (refine ⟨_, _, pc1 _, fun _ => rfl, ?_⟩) | (refine (pc2 _).det ?_) | (refine ⟨_, _, pc2 _, fun _ => rfl, ?_⟩) | (refine (lx _ _ _).det ?_) | (refine ⟨_, _, lx _ _ _, fun _ => rfl, ?_⟩) | (refine (ly _ _ _).det ?_) | (refine ⟨_, _, ly _ _ _, fun _ => rfl, ?_⟩)); try simp [-List.reduceReplicate, Nat.add_one_le_iff, -getElem?_pos, -getElem?_neg, List.getElem?_cons_zero, List.getElem?_cons_succ, iC, bC, c, c2, sl, lyS, s5])
         | (with_reducible refine awp_if_b rfl (fun hc => ?_) (fun hc => ?_) <;> (try simp [-getElem?_pos, -getElem?_neg] at hc) <;> (try (exfalso; omega)))
         | ((with_reducible first | refine GuardK_b (fun hc => ?_) (fun hc => ?_) | refine DGuard_b _ _ _ _ _ _ _ _ _ _ (fun hc => ?_) (fun hc => ?_)) <;> (try simp only [Bool.not_eq_true', Bool.not_eq_false', decide_eq_true_eq, decide_eq_false_iff_not] at hc) <;> (first | (exfalso; omega) | skip) <;> simp [-List.reduceReplicate, Nat.add_one_le_iff, -getElem?_pos, -getElem?_neg, List.getElem?_cons_zero, List.getElem?_cons_succ, iC, bC, c, c2, sl, lyS, s5, hc])
         | (with_reducible refine And.intro (by omega) ?_)
         | fail)
    · rw [hg1] at g1
      rw [hg2] at g2
      unfold sideM sideL at *
      refine den_of Try.func10 rfl rfl (by simp [Try.ntmps10]) (fun X hX hO => ?_)
      rw [Try.ntmps10] at hX
      simp only [Try.results10]
      repeat' (first 
       | (with_reducible first | refine awp_scope ?_ | refine awp_seq ?_ | refine awp_block ?_)
       | ((with_reducible first | refine awp_label ?_ | refine awp_skip ?_); try simp only [thenA, inBlockA, noGotoA])
       | (with_reducible refine awp_exit ?_; simp only [thenA, inBlockA, noGotoA, if_true, Nat.reduceEqDiff, if_false, ↓reduceIte])
       | (with_reducible refine awp_ret ?_; (try simp only [thenA, inBlockA, noGotoA]); (try simp [-List.reduceReplicate, Nat.add_one_le_iff, -getElem?_pos, -getElem?_neg, List.getElem?_cons_zero, List.getElem?_cons_succ, bC]))
       | ((with_reducible first | refine awp_reg 116 hX [2, 3, 4, 6, 7, 8, 9, 10, 11, 12, 13, 14, 15, 21, 55, 57] ?_ | refine awp_drw 116 hX [2, 3, 4, 6, 7, 8, 9, 10, 11, 12, 13, 14, 15, 21, 55, 57] Tab.mixed (by kernel_rfl) ?_ | refine DEv_cut _ _ _ _ _ _ _ _ _ _ _ _ (by kernel_rfl) ?_ | change postOf _ _ _ _ _); simp [-List.reduceReplicate, Nat.add_one_le_iff, -getElem?_pos, -getElem?_neg, List.getElem?_cons_zero, List.getElem?_cons_succ, bC])
       | ((first | (refine (g1 _).det ?_) | (refine ⟨_, _, g1 _, fun _ => rfl, ?_⟩) | (refine (g2 _).det ?_) | (refine ⟨_, _, g2 _, fun _ => rfl, ?_⟩) | (refine (aw _).det ?_) | (refine ⟨_, _, aw _, fun _ => rfl, ?_⟩)); try simp [-List.reduceReplicate, Nat.add_one_le_iff, -getElem?_pos, -getElem?_neg, List.getElem?_cons_zero, List.getElem?_cons_succ, bC])
       | (with_reducible refine awp_if_b rfl (fun hc => ?_) (fun hc => ?_) <;> (try simp [-getElem?_pos, -getElem?_neg] at hc) <;> (try (exfalso; omega)))
       | ((with_reducible first | refine GuardK_b (fun hc => ?_) (fun hc => ?_) | refine DGuard_b _ _ _ _ _ _ _ _ _ _ (fun hc => ?_) (fun hc => ?_)) <;> (try simp only [Bool.not_eq_true', Bool.not_eq_false', decide_eq_true_eq, decide_eq_false_iff_not] at hc) <;> (first | (exfalso; omega) | skip) <;> simp [-List.reduceReplicate, Nat.add_one_le_iff, -getElem?_pos, -getElem?_neg, List.getElem?_cons_zero, List.getElem?_cons_succ, bC, hc])
       | (with_reducible refine And.intro (by omega) ?_)
       | fail)
  · rw [hg1] at g1
    unfold sideM sideL at *
    refine den_of Try.func10 rfl rfl (by simp [Try.ntmps10]) (fun X hX hO => ?_)
    rw [Try.ntmps10] at hX
    simp only [Try.results10]
    repeat' (first 
     | (with_reducible first | refine awp_scope ?_ | refine awp_seq ?_ | refine awp_block ?_)
     | ((with_reducible first | refine awp_label ?_ | refine awp_skip ?_); try simp only [thenA, inBlockA, noGotoA])
     | (with_reducible refine awp_exit ?_; simp only [thenA, inBlockA, noGotoA, if_true, Nat.reduceEqDiff, if_false, ↓reduceIte])
     | (with_reducible refine awp_ret ?_; (try simp only [thenA, inBlockA, noGotoA]); (try simp [-List.reduceReplicate, Nat.add_one_le_iff, -getElem?_pos, -getElem?_neg, List.getElem?_cons_zero, List.getElem?_cons_succ, bC]))
     | ((with_reducible first | refine awp_reg 116 hX [2, 3, 4, 6, 7, 8, 9, 10, 11, 12, 13, 14, 15, 21, 55, 57] ?_ | refine awp_drw 116 hX [2, 3, 4, 6, 7, 8, 9, 10, 11, 12, 13, 14, 15, 21, 55, 57] Tab.mixed (by kernel_rfl) ?_ | refine DEv_cut _ _ _ _ _ _ _ _ _ _ _ _ (by kernel_rfl) ?_ | change postOf _ _ _ _ _); simp [-List.reduceReplicate, Nat.add_one_le_iff, -getElem?_pos, -getElem?_neg, List.getElem?_cons_zero, List.getElem?_cons_succ, bC])
     | ((first | (refine (g1 _).det ?_) | (refine ⟨_, _, g1 _, fun _ => rfl, ?_⟩) | (refine (aw _).det ?_) | (refine ⟨_, _, aw _, fun _ => rfl, ?_⟩)); try simp [-List.reduceReplicate, Nat.add_one_le_iff, -getElem?_pos, -getElem?_neg, List.getElem?_cons_zero, List.getElem?_cons_succ, bC])
     | (with_reducible refine awp_if_b rfl (fun hc => ?_) (fun hc => ?_) <;> (try simp [-getElem?_pos, -getElem?_neg] at hc) <;> (try (exfalso; omega)))
     | ((with_reducible first | refine GuardK_b (fun hc => ?_) (fun hc => ?_) | refine DGuard_b _ _ _ _ _ _ _ _ _ _ (fun hc => ?_) (fun hc => ?_)) <;> (try simp only [Bool.not_eq_true', Bool.not_eq_false', decide_eq_true_eq, decide_eq_false_iff_not] at hc) <;> (first | (exfalso; omega) | skip) <;> simp [-List.reduceReplicate, Nat.add_one_le_iff, -getElem?_pos, -getElem?_neg, List.getElem?_cons_zero, List.getElem?_cons_succ, bC, hc])
     | (with_reducible refine And.intro (by omega) ?_)
     | fail)
theorem opens_side {P : Program} {t tl th tb tn ti : TypeId} {fs : Array Field} (ht : P.underlying t = some (.struct fs)) (hl : P.underlying tl = some (.slice th)) (hh : P.underlying th = some (.array 32 tb)) (hb : P.underlying tb = some (.int .u8)) (hn : P.underlying tn = some (.slice ti)) (hi : P.underlying ti = some (.int .i64))
    (f0 : (fs[0]?).map (fun f => (f.offset, f.type)) = some (0, tl)) (f1 : (fs[1]?).map (fun f => (f.offset, f.type)) = some (1, tn)) (c0 : P.cellsOf t = 2) (c1 : P.cellsOf tl = 1) (c2 : P.cellsOf tn = 1) (c3 : P.cellsOf th = 32) (c4 : P.cellsOf tb = 1) (c5 : P.cellsOf ti = 1) :
    Opens P t (fun p : List H32 × List Int => sideL p.1 p.2) (fun p => p.1.length ≤ maxLen ∧ p.2.length ≤ maxLen) :=
  (((seg_field 0 0 1 ht f0 c1 (opens_hashes hl hh hb c4 c3)).app (seg_field 1 1 1 ht f1 c2 (opens_ints hn hi c5)) (fun _ => rfl)).opens ht c0).conv fun p hp => ⟨p, ⟨hp.1.1, hp.2.1⟩, rfl⟩
end Go.Av

set_option exponentiation.threshold 1000
set_option linter.unusedVariables false
set_option linter.unusedSimpArgs false
set_option maxRecDepth 100000
set_option maxHeartbeats 4000000
namespace Go.Av
open Go Go.Proofs Go.Proofs.Ytofomnllcmgfeaa Go.RowKit
/-! ### duel.All, DuelAll -/
theorem upAll (cs : List C) (n : Nat) : (up cs).all (ltB n) = true := by
  induction cs with
  | nil => rfl
  | cons c cs ih => simp only [up, List.map_cons, List.all_cons] at *; rw [ih]; rfl
abbrev SD := List H32 × List Int
def sdL (p : SD) : List C := sideL p.1 p.2
def sdsC (l : List SD) : List C := l.flatMap sdL
theorem sdsC_len (l : List SD) : (sdsC l).length = 2 * l.length := by
  have := flat_len (f := sdL) (sz := 2) (fun _ => rfl) l
  unfold sdsC
  omega
theorem sdsC_at (l : List SD) (i : Nat) (h : SD) (hi : l[i]? = some h) : ((sdsC l).drop (i * 2)).take 2 = sideL h.1 h.2 := flat_take (f := sdL) (fun _ => rfl) l i h hi
def vr (m : Int) (p q : SD) : Int := vrdN p.1 q.1 p.2 q.2 m
def vAll (l : List SD) (m : Int) : List (List Int) := l.map fun p => l.map fun q => vr m p q
def smallS (l : List SD) : Prop := l.length ≤ 6 ∧ ∀ p ∈ l, p.1.length ≤ 40 ∧ p.2.length ≤ 40
theorem pre' {α β : Type} (f : α → β) (l : List α) : ∃ K : Nat → List β, K 0 = [] ∧ K l.length = l.map f ∧ (∀ i, i ≤ l.length → (K i).length = i) ∧ ∀ i x, l[i]? = some x → K i ++ [f x] = K (i + 1) :=
  ⟨fun i => (l.map f).take i, by simp, by simp only; rw [List.take_of_length_le (by simp)], fun i hi => by simp; omega, fun i x hx => by simp only; rw [List.take_add_one]; simp [hx]⟩
set_option maxHeartbeats 8000000 in
theorem all_den (l : List SD) (m : Int) (hs : smallS l) : DenV Try.prog 47 [.c (.sl (sdsC l) l.length false), .c (iC m)] (.c (rowsC (vAll l m))) := by
  refine Den.frame rfl rfl ?_
  obtain ⟨hn, hsm⟩ := hs
  have hat := sdsC_at l
  have hlen := sdsC_len l
  have hv := fun (p q : SD) (hp : p ∈ l) (hq : q ∈ l) => verdict_den p.1 q.1 p.2 q.2 m (by have := hsm p hp; omega) (by have := hsm q hq; omega) (by have := hsm p hp; omega) (by have := hsm q hq; omega)
  obtain ⟨VK, hV0, hVn, hVl, hVs⟩ := pre' (fun p => intsC (l.map fun q => vr m p q)) l
  have eV : rowsC (vAll l m) = .sl (VK l.length) l.length false := by
    unfold rowsC vAll
    rw [hVn, List.length_map, List.map_map]
    rfl
  rw [eV]
  generalize sdsC l = cs at *
  obtain ⟨n, hn'⟩ : ∃ n, l.length = n := ⟨_, rfl⟩
  simp only [hn'] at hn hlen hVn hVl ⊢
  refine den_of Try.func47 rfl rfl (by simp [Try.ntmps47]) (fun X hX hO => ?_)
  rw [Try.ntmps47] at hX
  simp only [Try.results47]
  repeat' (first 
   | (with_reducible first | refine awp_scope ?_ | refine awp_seq ?_ | refine awp_block ?_)
   | ((with_reducible first | refine awp_label ?_ | refine awp_skip ?_); try simp only [thenA, inBlockA, noGotoA])
   | (with_reducible refine awp_exit ?_; simp only [thenA, inBlockA, noGotoA, if_true, Nat.reduceEqDiff, if_false, ↓reduceIte])
   | (with_reducible refine awp_ret ?_; (try simp only [thenA, inBlockA, noGotoA]); (try simp [-List.reduceReplicate, Nat.add_one_le_iff, -getElem?_pos, -getElem?_neg, List.getElem?_cons_zero, List.getElem?_cons_succ, iC]))
   | ((with_reducible first | refine awp_reg 37 hX [0, 1, 4, 5, 7, 8, 10, 11, 12, 13, 14, 17, 18, 19, 20] ?_ | change postOf _ _ _ _ _); simp [-List.reduceReplicate, Nat.add_one_le_iff, -getElem?_pos, -getElem?_neg, List.getElem?_cons_zero, List.getElem?_cons_succ, iC])
   | (with_reducible refine awp_if_b rfl (fun hc => ?_) (fun hc => ?_) <;> (try simp [-getElem?_pos, -getElem?_neg] at hc) <;> (try (exfalso; omega)))
   | ((with_reducible first | refine GuardK_b (fun hc => ?_) (fun hc => ?_)) <;> (try simp only [Bool.not_eq_true', Bool.not_eq_false', decide_eq_true_eq, decide_eq_false_iff_not] at hc) <;> (first | (exfalso; omega) | skip) <;> simp [-List.reduceReplicate, Nat.add_one_le_iff, -getElem?_pos, -getElem?_neg, List.getElem?_cons_zero, List.getElem?_cons_succ, iC, hc])
   | ((with_reducible first | refine hother _ _ rfl ?_ | refine hother2 _ _ rfl ?_); simp only [inBlockA, thenA, noGotoA, Nat.reduceEqDiff, if_false, if_true, ↓reduceIte])
   | (with_reducible refine And.intro (by omega) ?_)
   | fail)
  refine awp_nil 5 22 1 (by simp) ?_
  simp
  refine awp_forU [0, 1, 5, 11, 12, 13] (fun i (g : Nat × Bool × List Ob) => [(5, .ms 0 g.1 0 i), (13, .c (iC i))]) (fun i (g : Nat × Bool × List Ob) => ⟨22, 1, g.2.1, g.1, up (VK i), none⟩ :: g.2.2) (fun i (g : Nat × Bool × List Ob) => True) (n) ((0, true, [])) (by first | trivial | (simp; done) | omega | (intros; simp at *; done)) (by simp [-List.reduceReplicate, keep, iC, hV0]) (by simp [-List.reduceReplicate, iC, hV0]) ?_
  rintro i g Q1 hi hH next hother
  conv => arg 5; arg 1; simp only [List.cons_append, List.nil_append, keep, get, Nat.reduceEqDiff, if_true, if_false, ↓reduceIte]
  obtain ⟨g1, b1, gar⟩ := g
  refine awp_drop [⟨22, 1, b1, g1, up (VK i), none⟩] gar (by rw [hO.1]; simp) rfl (by simp [ltB]) (by simp only [List.all_cons, List.all_nil, Bool.and_true]; exact upAll _ _) ?_
  have hwi := wrap_in ((i : Int) + 1) (by omega)
  by_cases hlt : i < n
  · obtain ⟨p, hp⟩ : ∃ h, l[i]? = some h := ⟨_, List.getElem?_eq_getElem (by omega)⟩
    have hpa := hat i p hp
    have hpm := List.mem_of_getElem? hp
    have hvs := hVs i p hp
    have hvl := hVl i (by omega)
    have hb : 2 ≤ cs.length - i * 2 := by omega
    have hroom : (i + 1) * 24 ≤ 140737488355328 := by omega
    have tl : ∀ z w, (sideL z w).take 2 = sideL z w := fun _ _ => rfl
    have sl : ∀ z w, (sideL z w).length = 2 := fun _ _ => rfl
    have ls : ∀ z w, lay [M.c (C.v (.slice none 0 0)), M.c (C.v (.slice none 0 0))] 0 (up (sideL z w)) = up (sideL z w) := fun _ _ => rfl
    repeat' (first 
     | (with_reducible first | refine awp_scope ?_ | refine awp_seq ?_ | refine awp_block ?_)
     | ((with_reducible first | refine awp_label ?_ | refine awp_skip ?_); try simp only [thenA, inBlockA, noGotoA])
     | (with_reducible refine awp_exit ?_; simp only [thenA, inBlockA, noGotoA, if_true, Nat.reduceEqDiff, if_false, ↓reduceIte])
     | (with_reducible refine awp_ret ?_; (try simp only [thenA, inBlockA, noGotoA]); (try simp [-List.reduceReplicate, Nat.add_one_le_iff, -getElem?_pos, -getElem?_neg, List.getElem?_cons_zero, List.getElem?_cons_succ, iC, bC, hlt, hpa, hb, tl, sl, ls]))
     | ((with_reducible first | refine awp_reg 37 hX [0, 1, 4, 5, 7, 8, 10, 11, 12, 13, 14, 17, 18, 19, 20] ?_ | change postOf _ _ _ _ _); simp [-List.reduceReplicate, Nat.add_one_le_iff, -getElem?_pos, -getElem?_neg, List.getElem?_cons_zero, List.getElem?_cons_succ, iC, bC, hlt, hpa, hb, tl, sl, ls])
     | (with_reducible refine awp_if_b rfl (fun hc => ?_) (fun hc => ?_) <;> (try simp [-getElem?_pos, -getElem?_neg] at hc) <;> (try (exfalso; omega)))
     | ((with_reducible first | refine GuardK_b (fun hc => ?_) (fun hc => ?_)) <;> (try simp only [Bool.not_eq_true', Bool.not_eq_false', decide_eq_true_eq, decide_eq_false_iff_not] at hc) <;> (first | (exfalso; omega) | skip) <;> simp [-List.reduceReplicate, Nat.add_one_le_iff, -getElem?_pos, -getElem?_neg, List.getElem?_cons_zero, List.getElem?_cons_succ, iC, bC, hlt, hpa, hb, tl, sl, ls, hc])
     | ((with_reducible first | refine hother _ _ rfl ?_ | refine hother2 _ _ rfl ?_); simp only [inBlockA, thenA, noGotoA, Nat.reduceEqDiff, if_false, if_true, ↓reduceIte])
     | (with_reducible refine And.intro (by omega) ?_)
     | fail)
    refine awp_nil 8 3 1 (by simp) ?_
    simp
    have next1 := next; have hother2 := hother; clear next hother
    obtain ⟨RK, hR0, hRn, hRl, hRs⟩ := pre' (fun q => iC (vr m p q)) l
    simp only [hn'] at hRn hRl
    refine awp_forU [0, 1, 5, 7, 8, 11, 12, 13, 17, 18, 19] (fun k (q : Nat × Bool × List Ob) => [(8, .ms 2 q.1 0 k), (19, .c (iC k))]) (fun k (q : Nat × Bool × List Ob) => [⟨22, 1, b1, g1, up (VK i), none⟩, ⟨47, 2, false, 0, up (sideL p.1 p.2), none⟩, ⟨3, 1, q.2.1, q.1, up (RK k), none⟩] ++ q.2.2) (fun k (q : Nat × Bool × List Ob) => True) (n) ((0, true, [])) (by first | trivial | (simp; done) | omega | (intros; simp at *; done)) (by simp [-List.reduceReplicate, keep, iC, hR0]) (by simp [-List.reduceReplicate, iC, hR0]) ?_
    rintro k q Q1 hi hH next hother
    conv => arg 5; arg 1; simp only [List.cons_append, List.nil_append, keep, get, Nat.reduceEqDiff, if_true, if_false, ↓reduceIte]
    obtain ⟨q1, q2, q3⟩ := q
    have hwk := wrap_in ((k : Int) + 1) (by omega)
    by_cases hkn : k < n
    · obtain ⟨p', hp'⟩ : ∃ h, l[k]? = some h := ⟨_, List.getElem?_eq_getElem (by omega)⟩
      have hpa' := hat k p' hp'
      have hpm' := List.mem_of_getElem? hp'
      have hb' : 2 ≤ cs.length - k * 2 := by omega
      have v1 := hv p p' hpm hpm'
      have rs := hRs k p' hp'
      have rl := hRl k (by omega)
      have hroom2 : (k + 1) * 8 ≤ 140737488355328 := by omega
      have ev : vrdN p.1 p'.1 p.2 p'.2 m = vr m p p' := rfl
      rw [ev] at v1
      unfold sideM at v1
      generalize vr m p p' = vv at *
      unfold iC at rs
      repeat' (first 
       | (with_reducible first | refine awp_scope ?_ | refine awp_seq ?_ | refine awp_block ?_)
       | ((with_reducible first | refine awp_label ?_ | refine awp_skip ?_); try simp only [thenA, inBlockA, noGotoA])
       | (with_reducible refine awp_exit ?_; simp only [thenA, inBlockA, noGotoA, if_true, Nat.reduceEqDiff, if_false, ↓reduceIte])
       | (with_reducible refine awp_ret ?_; (try simp only [thenA, inBlockA, noGotoA]); (try simp [-List.reduceReplicate, Nat.add_one_le_iff, -getElem?_pos, -getElem?_neg, List.getElem?_cons_zero, List.getElem?_cons_succ, iC, bC, hkn, hpa', hb', tl, sl, ls, rl, roomB, hwk]))
       | ((with_reducible first | refine awp_reg 37 hX [0, 1, 4, 5, 7, 8, 10, 11, 12, 13, 14, 17, 18, 19, 20] ?_ | change postOf _ _ _ _ _); simp [-List.reduceReplicate, Nat.add_one_le_iff, -getElem?_pos, -getElem?_neg, List.getElem?_cons_zero, List.getElem?_cons_succ, iC, bC, hkn, hpa', hb', tl, sl, ls, rl, roomB, hwk])
       | ((first | (refine (v1 _).det ?_)); try simp [-List.reduceReplicate, Nat.add_one_le_iff, -getElem?_pos, -getElem?_neg, List.getElem?_cons_zero, List.getElem?_cons_succ, iC, bC, hkn, hpa', hb', tl, sl, ls, rl, roomB, hwk])
       | (with_reducible refine awp_if_b rfl (fun hc => ?_) (fun hc => ?_) <;> (try simp [-getElem?_pos, -getElem?_neg] at hc) <;> (try (exfalso; omega)))
       | ((with_reducible first | refine GuardK_b (fun hc => ?_) (fun hc => ?_)) <;> (try simp only [Bool.not_eq_true', Bool.not_eq_false', decide_eq_true_eq, decide_eq_false_iff_not] at hc) <;> (first | (exfalso; omega) | skip) <;> simp [-List.reduceReplicate, Nat.add_one_le_iff, -getElem?_pos, -getElem?_neg, List.getElem?_cons_zero, List.getElem?_cons_succ, iC, bC, hkn, hpa', hb', tl, sl, ls, rl, roomB, hwk, hc])
       | ((with_reducible first | refine hother _ _ rfl ?_ | refine hother2 _ _ rfl ?_); simp only [inBlockA, thenA, noGotoA, Nat.reduceEqDiff, if_false, if_true, ↓reduceIte])
       | (with_reducible refine And.intro (by omega) ?_)
       | fail)
      refine next _ _ ((q1 + 1, false, q3 ++ [⟨47, 2, false, 0, up (sideL p'.1 p'.2), none⟩])) (by omega) (by first | trivial | omega | assumption) (by simp [-List.reduceReplicate, keep, iC, rs]) (by simp [-List.reduceReplicate, iC, rs])
    · have hk2 : k = n := by omega
      subst hk2
      have hexit := hother; clear hother next
      repeat' (first 
       | (with_reducible first | refine awp_scope ?_ | refine awp_seq ?_ | refine awp_block ?_)
       | ((with_reducible first | refine awp_label ?_ | refine awp_skip ?_); try simp only [thenA, inBlockA, noGotoA])
       | (with_reducible refine awp_exit ?_; simp only [thenA, inBlockA, noGotoA, if_true, Nat.reduceEqDiff, if_false, ↓reduceIte])
       | (with_reducible refine awp_ret ?_; (try simp only [thenA, inBlockA, noGotoA]); (try simp [-List.reduceReplicate, Nat.add_one_le_iff, -getElem?_pos, -getElem?_neg, List.getElem?_cons_zero, List.getElem?_cons_succ, iC, bC]))
       | ((with_reducible first | refine awp_reg 37 hX [0, 1, 4, 5, 7, 8, 10, 11, 12, 13, 14, 17, 18, 19, 20] ?_ | change postOf _ _ _ _ _); simp [-List.reduceReplicate, Nat.add_one_le_iff, -getElem?_pos, -getElem?_neg, List.getElem?_cons_zero, List.getElem?_cons_succ, iC, bC])
       | (with_reducible refine awp_if_b rfl (fun hc => ?_) (fun hc => ?_) <;> (try simp [-getElem?_pos, -getElem?_neg] at hc) <;> (try (exfalso; omega)))
       | ((with_reducible first | refine GuardK_b (fun hc => ?_) (fun hc => ?_)) <;> (try simp only [Bool.not_eq_true', Bool.not_eq_false', decide_eq_true_eq, decide_eq_false_iff_not] at hc) <;> (first | (exfalso; omega) | skip) <;> simp [-List.reduceReplicate, Nat.add_one_le_iff, -getElem?_pos, -getElem?_neg, List.getElem?_cons_zero, List.getElem?_cons_succ, iC, bC, hc])
       | ((with_reducible first | refine hother _ _ rfl ?_ | refine hother2 _ _ rfl ?_); simp only [inBlockA, thenA, noGotoA, Nat.reduceEqDiff, if_false, if_true, ↓reduceIte])
       | (with_reducible refine And.intro (by omega) ?_)
       | fail)
      refine hexit _ _ rfl ?_
      simp only [inBlockA, thenA, ↓reduceIte]
      refine awp_frz2 8 [] [⟨22, 1, b1, g1, up (VK i), none⟩, ⟨47, 2, false, 0, up (sideL p.1 p.2), none⟩] q3 _ (RK k) _ hO rfl rfl rfl (by simp [ltB]) (by simp only [List.all_cons, List.all_nil, Bool.and_true, Bool.and_eq_true]; exact ⟨upAll _ _, upAll _ _⟩) ?_
      rw [hRn]
      have hvs2 : VK i ++ [C.sl (l.map fun q => iC (vr m p q)) k false] = VK (i + 1) := by
        rw [← hvs]
        unfold intsC
        rw [List.length_map, hn', List.map_map]
        rfl
      have hvs3 : VK i ++ [C.sl (l.map fun q => C.v (.int .i64 (vr m p q))) k false] = VK (i + 1) := hvs2
      repeat' (first 
       | (with_reducible first | refine awp_scope ?_ | refine awp_seq ?_ | refine awp_block ?_)
       | ((with_reducible first | refine awp_label ?_ | refine awp_skip ?_); try simp only [thenA, inBlockA, noGotoA])
       | (with_reducible refine awp_exit ?_; simp only [thenA, inBlockA, noGotoA, if_true, Nat.reduceEqDiff, if_false, ↓reduceIte])
       | (with_reducible refine awp_ret ?_; (try simp only [thenA, inBlockA, noGotoA]); (try simp [-List.reduceReplicate, Nat.add_one_le_iff, -getElem?_pos, -getElem?_neg, List.getElem?_cons_zero, List.getElem?_cons_succ, iC, bC, hvl, hvs2, hvs3, roomB, hroom, hwi]))
       | ((with_reducible first | refine awp_reg 37 hX [0, 1, 4, 5, 7, 8, 10, 11, 12, 13, 14, 17, 18, 19, 20] ?_ | change postOf _ _ _ _ _); simp [-List.reduceReplicate, Nat.add_one_le_iff, -getElem?_pos, -getElem?_neg, List.getElem?_cons_zero, List.getElem?_cons_succ, iC, bC, hvl, hvs2, hvs3, roomB, hroom, hwi])
       | (with_reducible refine awp_if_b rfl (fun hc => ?_) (fun hc => ?_) <;> (try simp [-getElem?_pos, -getElem?_neg] at hc) <;> (try (exfalso; omega)))
       | ((with_reducible first | refine GuardK_b (fun hc => ?_) (fun hc => ?_)) <;> (try simp only [Bool.not_eq_true', Bool.not_eq_false', decide_eq_true_eq, decide_eq_false_iff_not] at hc) <;> (first | (exfalso; omega) | skip) <;> simp [-List.reduceReplicate, Nat.add_one_le_iff, -getElem?_pos, -getElem?_neg, List.getElem?_cons_zero, List.getElem?_cons_succ, iC, bC, hvl, hvs2, hvs3, roomB, hroom, hwi, hc])
       | ((with_reducible first | refine hother _ _ rfl ?_ | refine hother2 _ _ rfl ?_); simp only [inBlockA, thenA, noGotoA, Nat.reduceEqDiff, if_false, if_true, ↓reduceIte])
       | (with_reducible refine And.intro (by omega) ?_)
       | fail)
      refine next1 _ _ ((g1 + 1, false, [⟨47, 2, false, 0, up (sideL p.1 p.2), none⟩])) (by omega) (by first | trivial | omega | assumption) (by simp [-List.reduceReplicate, keep, iC, hvs2, hvs3]) (by simp [-List.reduceReplicate, iC, hvs2, hvs3])
  · have hi2 : i = n := by omega
    subst hi2
    have hexit := hother; clear hother next
    repeat' (first 
     | (with_reducible first | refine awp_scope ?_ | refine awp_seq ?_ | refine awp_block ?_)
     | ((with_reducible first | refine awp_label ?_ | refine awp_skip ?_); try simp only [thenA, inBlockA, noGotoA])
     | (with_reducible refine awp_exit ?_; simp only [thenA, inBlockA, noGotoA, if_true, Nat.reduceEqDiff, if_false, ↓reduceIte])
     | (with_reducible refine awp_ret ?_; (try simp only [thenA, inBlockA, noGotoA]); (try simp [-List.reduceReplicate, Nat.add_one_le_iff, -getElem?_pos, -getElem?_neg, List.getElem?_cons_zero, List.getElem?_cons_succ, iC, bC]))
     | ((with_reducible first | refine awp_reg 37 hX [0, 1, 4, 5, 7, 8, 10, 11, 12, 13, 14, 17, 18, 19, 20] ?_ | change postOf _ _ _ _ _); simp [-List.reduceReplicate, Nat.add_one_le_iff, -getElem?_pos, -getElem?_neg, List.getElem?_cons_zero, List.getElem?_cons_succ, iC, bC])
     | (with_reducible refine awp_if_b rfl (fun hc => ?_) (fun hc => ?_) <;> (try simp [-getElem?_pos, -getElem?_neg] at hc) <;> (try (exfalso; omega)))
     | ((with_reducible first | refine GuardK_b (fun hc => ?_) (fun hc => ?_)) <;> (try simp only [Bool.not_eq_true', Bool.not_eq_false', decide_eq_true_eq, decide_eq_false_iff_not] at hc) <;> (first | (exfalso; omega) | skip) <;> simp [-List.reduceReplicate, Nat.add_one_le_iff, -getElem?_pos, -getElem?_neg, List.getElem?_cons_zero, List.getElem?_cons_succ, iC, bC, hc])
     | ((with_reducible first | refine hother _ _ rfl ?_ | refine hother2 _ _ rfl ?_); simp only [inBlockA, thenA, noGotoA, Nat.reduceEqDiff, if_false, if_true, ↓reduceIte])
     | (with_reducible refine And.intro (by omega) ?_)
     | fail)
    refine hexit _ _ rfl ?_
    simp only [inBlockA, thenA, ↓reduceIte]
    refine awp_frz2 5 [] [] [] _ (VK i) _ hO rfl rfl rfl (by simp [ltB]) (by simp) ?_
    repeat' (first 
     | (with_reducible first | refine awp_scope ?_ | refine awp_seq ?_ | refine awp_block ?_)
     | ((with_reducible first | refine awp_label ?_ | refine awp_skip ?_); try simp only [thenA, inBlockA, noGotoA])
     | (with_reducible refine awp_exit ?_; simp only [thenA, inBlockA, noGotoA, if_true, Nat.reduceEqDiff, if_false, ↓reduceIte])
     | (with_reducible refine awp_ret ?_; (try simp only [thenA, inBlockA, noGotoA]); (try simp [-List.reduceReplicate, Nat.add_one_le_iff, -getElem?_pos, -getElem?_neg, List.getElem?_cons_zero, List.getElem?_cons_succ, iC, bC]))
     | ((with_reducible first | refine awp_reg 37 hX [0, 1, 4, 5, 7, 8, 10, 11, 12, 13, 14, 17, 18, 19, 20] ?_ | change postOf _ _ _ _ _); simp [-List.reduceReplicate, Nat.add_one_le_iff, -getElem?_pos, -getElem?_neg, List.getElem?_cons_zero, List.getElem?_cons_succ, iC, bC])
     | (with_reducible refine awp_if_b rfl (fun hc => ?_) (fun hc => ?_) <;> (try simp [-getElem?_pos, -getElem?_neg] at hc) <;> (try (exfalso; omega)))
     | ((with_reducible first | refine GuardK_b (fun hc => ?_) (fun hc => ?_)) <;> (try simp only [Bool.not_eq_true', Bool.not_eq_false', decide_eq_true_eq, decide_eq_false_iff_not] at hc) <;> (first | (exfalso; omega) | skip) <;> simp [-List.reduceReplicate, Nat.add_one_le_iff, -getElem?_pos, -getElem?_neg, List.getElem?_cons_zero, List.getElem?_cons_succ, iC, bC, hc])
     | ((with_reducible first | refine hother _ _ rfl ?_ | refine hother2 _ _ rfl ?_); simp only [inBlockA, thenA, noGotoA, Nat.reduceEqDiff, if_false, if_true, ↓reduceIte])
     | (with_reducible refine And.intro (by omega) ?_)
     | fail)
theorem vAll_len (l : List SD) (m : Int) : (vAll l m).length = l.length := by simp [vAll]
set_option maxHeartbeats 8000000 in
theorem duelAll_den (l : List SD) (m : Int) (ob : List Ob) : Den Try.prog 12 [.c (.sl (sdsC l) l.length false), .c (iC m)] ob (fun r ob' => r = .c (bC true) ∧ ob' = ob) := by
  refine Den.frame rfl rfl ?_ ob
  have aw := awake42_den
  have hat := sdsC_at l
  have hlen := sdsC_len l
  by_cases hn6 : 6 < l.length
  · have hn7 : (6 : Int) < l.length := by omega
    refine den_of Try.func12 rfl rfl (by simp [Try.ntmps12]) (fun X hX hO => ?_)
    rw [Try.ntmps12] at hX
    simp only [Try.results12]
    repeat' (first 
     | (with_reducible first | refine awp_scope ?_ | refine awp_seq ?_ | refine awp_block ?_)
     | ((with_reducible first | refine awp_label ?_ | refine awp_skip ?_); try simp only [thenA, inBlockA, noGotoA])
     | (with_reducible refine awp_exit ?_; simp only [thenA, inBlockA, noGotoA, if_true, Nat.reduceEqDiff, if_false, ↓reduceIte])
     | (with_reducible refine awp_ret ?_; (try simp only [thenA, inBlockA, noGotoA]); (try simp [-List.reduceReplicate, Nat.add_one_le_iff, -getElem?_pos, -getElem?_neg, List.getElem?_cons_zero, List.getElem?_cons_succ, iC, bC, hn6, hn7]))
     | ((with_reducible first | refine awp_reg 72 hX [0, 1, 4, 5, 6, 7, 8, 11, 16, 23, 32, 36, 46, 50, 70] ?_ | refine awp_drw 72 hX [0, 1, 4, 5, 6, 7, 8, 11, 16, 23, 32, 36, 46, 50, 70] Tab.mixed (by kernel_rfl) ?_ | refine DEv_cut _ _ _ _ _ _ _ _ _ _ _ _ (by kernel_rfl) ?_ | change postOf _ _ _ _ _); simp [-List.reduceReplicate, Nat.add_one_le_iff, -getElem?_pos, -getElem?_neg, List.getElem?_cons_zero, List.getElem?_cons_succ, iC, bC, hn6, hn7])
     | ((first | (refine (aw _).det ?_) | (refine ⟨_, _, aw _, fun _ => rfl, ?_⟩)); try simp [-List.reduceReplicate, Nat.add_one_le_iff, -getElem?_pos, -getElem?_neg, List.getElem?_cons_zero, List.getElem?_cons_succ, iC, bC, hn6, hn7])
     | (with_reducible refine awp_if_b rfl (fun hc => ?_) (fun hc => ?_) <;> (try simp [-getElem?_pos, -getElem?_neg] at hc) <;> (try (exfalso; omega)))
     | ((with_reducible first | refine GuardK_b (fun hc => ?_) (fun hc => ?_) | refine DGuard_b _ _ _ _ _ _ _ _ _ _ (fun hc => ?_) (fun hc => ?_)) <;> (try simp only [Bool.not_eq_true', Bool.not_eq_false', decide_eq_true_eq, decide_eq_false_iff_not] at hc) <;> (first | (exfalso; omega) | skip) <;> simp [-List.reduceReplicate, Nat.add_one_le_iff, -getElem?_pos, -getElem?_neg, List.getElem?_cons_zero, List.getElem?_cons_succ, iC, bC, hn6, hn7, hc])
     | ((with_reducible first | refine hother _ _ rfl ?_ | refine hother2 _ _ rfl ?_); simp only [inBlockA, thenA, noGotoA, Nat.reduceEqDiff, if_false, if_true, ↓reduceIte])
     | (with_reducible refine And.intro (by omega) ?_)
     | fail)
  · have hn7 : ¬ (6 : Int) < l.length := by omega
    have ad := fun h => all_den l m h
    have gd := fun p : SD => great42_den p.1 p.2
    have hvl := vAll_len l m
    have hvg : ∀ (i : Nat) p, l[i]? = some p → (vAll l m)[i]? = some (l.map fun q => vr m p q) := fun i p h => by unfold vAll; rw [List.getElem?_map, h]; rfl
    have hsn : (∀ p ∈ l, great42 p.1 p.2 = false) → smallS l := fun h => ⟨by omega, fun p hp => great42_no (h p hp)⟩
    have vd := fun (p q : SD) (hs : smallS l) (hp : p ∈ l) (hq : q ∈ l) => verdict_den p.1 q.1 p.2 q.2 m (by have := hs.2 p hp; omega) (by have := hs.2 q hq; omega) (by have := hs.2 p hp; omega) (by have := hs.2 q hq; omega)
    have tl : ∀ z w, (sideL z w).take 2 = sideL z w := fun _ _ => rfl
    generalize vAll l m = va at *
    unfold sideM at gd vd
    generalize sdsC l = cs at *
    obtain ⟨n, hn'⟩ : ∃ n, l.length = n := ⟨_, rfl⟩
    simp only [hn'] at hlen hvl hn7 ad ⊢
    refine den_of Try.func12 rfl rfl (by simp [Try.ntmps12]) (fun X hX hO => ?_)
    rw [Try.ntmps12] at hX
    simp only [Try.results12]
    repeat' (first 
     | (with_reducible first | refine awp_scope ?_ | refine awp_seq ?_ | refine awp_block ?_)
     | ((with_reducible first | refine awp_label ?_ | refine awp_skip ?_); try simp only [thenA, inBlockA, noGotoA])
     | (with_reducible refine awp_exit ?_; simp only [thenA, inBlockA, noGotoA, if_true, Nat.reduceEqDiff, if_false, ↓reduceIte])
     | (with_reducible refine awp_ret ?_; (try simp only [thenA, inBlockA, noGotoA]); (try simp [-List.reduceReplicate, Nat.add_one_le_iff, -getElem?_pos, -getElem?_neg, List.getElem?_cons_zero, List.getElem?_cons_succ, iC, bC, hn7]))
     | ((with_reducible first | refine awp_reg 72 hX [0, 1, 4, 5, 6, 7, 8, 11, 16, 23, 32, 36, 46, 50, 70] ?_ | refine awp_drw 72 hX [0, 1, 4, 5, 6, 7, 8, 11, 16, 23, 32, 36, 46, 50, 70] Tab.mixed (by kernel_rfl) ?_ | refine DEv_cut _ _ _ _ _ _ _ _ _ _ _ _ (by kernel_rfl) ?_ | change postOf _ _ _ _ _); simp [-List.reduceReplicate, Nat.add_one_le_iff, -getElem?_pos, -getElem?_neg, List.getElem?_cons_zero, List.getElem?_cons_succ, iC, bC, hn7])
     | (with_reducible refine awp_if_b rfl (fun hc => ?_) (fun hc => ?_) <;> (try simp [-getElem?_pos, -getElem?_neg] at hc) <;> (try (exfalso; omega)))
     | ((with_reducible first | refine GuardK_b (fun hc => ?_) (fun hc => ?_) | refine DGuard_b _ _ _ _ _ _ _ _ _ _ (fun hc => ?_) (fun hc => ?_)) <;> (try simp only [Bool.not_eq_true', Bool.not_eq_false', decide_eq_true_eq, decide_eq_false_iff_not] at hc) <;> (first | (exfalso; omega) | skip) <;> simp [-List.reduceReplicate, Nat.add_one_le_iff, -getElem?_pos, -getElem?_neg, List.getElem?_cons_zero, List.getElem?_cons_succ, iC, bC, hn7, hc])
     | ((with_reducible first | refine hother _ _ rfl ?_ | refine hother2 _ _ rfl ?_); simp only [inBlockA, thenA, noGotoA, Nat.reduceEqDiff, if_false, if_true, ↓reduceIte])
     | (with_reducible refine And.intro (by omega) ?_)
     | fail)
    refine awp_forU [0, 1, 5] (fun i (_u : Unit) => [(5, .c (iC i))]) (fun i (_u : Unit) => []) (fun i (_u : Unit) => (∀ (j : Nat) p, j < i → l[j]? = some p → great42 p.1 p.2 = false)) (n) (()) (by first | trivial | (simp; done) | omega | (intros; simp at *; done)) (by simp [-List.reduceReplicate, keep, iC]) (by simp [-List.reduceReplicate, iC]) ?_
    rintro i _u Q1 hi hH next hother
    conv => arg 5; arg 1; simp only [List.cons_append, List.nil_append, keep, get, Nat.reduceEqDiff, if_true, if_false, ↓reduceIte]
    have hwi := wrap_in ((i : Int) + 1) (by omega)
    by_cases hlt : i < n
    · obtain ⟨p, hp⟩ : ∃ h, l[i]? = some h := ⟨_, List.getElem?_eq_getElem (by omega)⟩
      have hpa := hat i p hp
      have hb : 2 ≤ cs.length - i * 2 := by omega
      have g1 := gd p
      cases hg : great42 p.1 p.2
      · rw [hg] at g1
        have nx : ∀ (j : Nat) q, j < i + 1 → l[j]? = some q → great42 q.1 q.2 = false := fun j q hj hq => by
          by_cases e : j = i
          · subst e; rw [hp] at hq; cases hq; exact hg
          · exact hH j q (by omega) hq
        repeat' (first 
         | (with_reducible first | refine awp_scope ?_ | refine awp_seq ?_ | refine awp_block ?_)
         | ((with_reducible first | refine awp_label ?_ | refine awp_skip ?_); try simp only [thenA, inBlockA, noGotoA])
         | (with_reducible refine awp_exit ?_; simp only [thenA, inBlockA, noGotoA, if_true, Nat.reduceEqDiff, if_false, ↓reduceIte])
         | (with_reducible refine awp_ret ?_; (try simp only [thenA, inBlockA, noGotoA]); (try simp [-List.reduceReplicate, Nat.add_one_le_iff, -getElem?_pos, -getElem?_neg, List.getElem?_cons_zero, List.getElem?_cons_succ, iC, bC, hlt, hpa, hb, tl, hwi]))
         | ((with_reducible first | refine awp_reg 72 hX [0, 1, 4, 5, 6, 7, 8, 11, 16, 23, 32, 36, 46, 50, 70] ?_ | refine awp_drw 72 hX [0, 1, 4, 5, 6, 7, 8, 11, 16, 23, 32, 36, 46, 50, 70] Tab.mixed (by kernel_rfl) ?_ | refine DEv_cut _ _ _ _ _ _ _ _ _ _ _ _ (by kernel_rfl) ?_ | change postOf _ _ _ _ _); simp [-List.reduceReplicate, Nat.add_one_le_iff, -getElem?_pos, -getElem?_neg, List.getElem?_cons_zero, List.getElem?_cons_succ, iC, bC, hlt, hpa, hb, tl, hwi])
         | ((first | (refine (g1 _).det ?_) | (refine ⟨_, _, g1 _, fun _ => rfl, ?_⟩)); try simp [-List.reduceReplicate, Nat.add_one_le_iff, -getElem?_pos, -getElem?_neg, List.getElem?_cons_zero, List.getElem?_cons_succ, iC, bC, hlt, hpa, hb, tl, hwi])
         | (with_reducible refine awp_if_b rfl (fun hc => ?_) (fun hc => ?_) <;> (try simp [-getElem?_pos, -getElem?_neg] at hc) <;> (try (exfalso; omega)))
         | ((with_reducible first | refine GuardK_b (fun hc => ?_) (fun hc => ?_) | refine DGuard_b _ _ _ _ _ _ _ _ _ _ (fun hc => ?_) (fun hc => ?_)) <;> (try simp only [Bool.not_eq_true', Bool.not_eq_false', decide_eq_true_eq, decide_eq_false_iff_not] at hc) <;> (first | (exfalso; omega) | skip) <;> simp [-List.reduceReplicate, Nat.add_one_le_iff, -getElem?_pos, -getElem?_neg, List.getElem?_cons_zero, List.getElem?_cons_succ, iC, bC, hlt, hpa, hb, tl, hwi, hc])
         | ((with_reducible first | refine hother _ _ rfl ?_ | refine hother2 _ _ rfl ?_); simp only [inBlockA, thenA, noGotoA, Nat.reduceEqDiff, if_false, if_true, ↓reduceIte])
         | (with_reducible refine And.intro (by omega) ?_)
         | fail)
        refine next _ _ (()) (by omega) (by first | trivial | omega | assumption) (by simp [-List.reduceReplicate, keep, iC]) (by simp [-List.reduceReplicate, iC])
      · rw [hg] at g1
        repeat' (first 
         | (with_reducible first | refine awp_scope ?_ | refine awp_seq ?_ | refine awp_block ?_)
         | ((with_reducible first | refine awp_label ?_ | refine awp_skip ?_); try simp only [thenA, inBlockA, noGotoA])
         | (with_reducible refine awp_exit ?_; simp only [thenA, inBlockA, noGotoA, if_true, Nat.reduceEqDiff, if_false, ↓reduceIte])
         | (with_reducible refine awp_ret ?_; (try simp only [thenA, inBlockA, noGotoA]); (try simp [-List.reduceReplicate, Nat.add_one_le_iff, -getElem?_pos, -getElem?_neg, List.getElem?_cons_zero, List.getElem?_cons_succ, iC, bC, hlt, hpa, hb, tl]))
         | ((with_reducible first | refine awp_reg 72 hX [0, 1, 4, 5, 6, 7, 8, 11, 16, 23, 32, 36, 46, 50, 70] ?_ | refine awp_drw 72 hX [0, 1, 4, 5, 6, 7, 8, 11, 16, 23, 32, 36, 46, 50, 70] Tab.mixed (by kernel_rfl) ?_ | refine DEv_cut _ _ _ _ _ _ _ _ _ _ _ _ (by kernel_rfl) ?_ | change postOf _ _ _ _ _); simp [-List.reduceReplicate, Nat.add_one_le_iff, -getElem?_pos, -getElem?_neg, List.getElem?_cons_zero, List.getElem?_cons_succ, iC, bC, hlt, hpa, hb, tl])
         | ((first | (refine (g1 _).det ?_) | (refine ⟨_, _, g1 _, fun _ => rfl, ?_⟩) | (refine (aw _).det ?_) | (refine ⟨_, _, aw _, fun _ => rfl, ?_⟩)); try simp [-List.reduceReplicate, Nat.add_one_le_iff, -getElem?_pos, -getElem?_neg, List.getElem?_cons_zero, List.getElem?_cons_succ, iC, bC, hlt, hpa, hb, tl])
         | (with_reducible refine awp_if_b rfl (fun hc => ?_) (fun hc => ?_) <;> (try simp [-getElem?_pos, -getElem?_neg] at hc) <;> (try (exfalso; omega)))
         | ((with_reducible first | refine GuardK_b (fun hc => ?_) (fun hc => ?_) | refine DGuard_b _ _ _ _ _ _ _ _ _ _ (fun hc => ?_) (fun hc => ?_)) <;> (try simp only [Bool.not_eq_true', Bool.not_eq_false', decide_eq_true_eq, decide_eq_false_iff_not] at hc) <;> (first | (exfalso; omega) | skip) <;> simp [-List.reduceReplicate, Nat.add_one_le_iff, -getElem?_pos, -getElem?_neg, List.getElem?_cons_zero, List.getElem?_cons_succ, iC, bC, hlt, hpa, hb, tl, hc])
         | ((with_reducible first | refine hother _ _ rfl ?_ | refine hother2 _ _ rfl ?_); simp only [inBlockA, thenA, noGotoA, Nat.reduceEqDiff, if_false, if_true, ↓reduceIte])
         | (with_reducible refine And.intro (by omega) ?_)
         | fail)
    · have hi2 : i = n := by omega
      subst hi2
      have hsm : smallS l := hsn fun p hp => by
        obtain ⟨j, hj⟩ := List.getElem?_of_mem hp
        exact hH j p (by have := (List.getElem?_eq_some_iff.1 hj).1; omega) hj
      have ad1 := ad hsm
      have hexit := hother; clear hother next
      repeat' (first 
       | (with_reducible first | refine awp_scope ?_ | refine awp_seq ?_ | refine awp_block ?_)
       | ((with_reducible first | refine awp_label ?_ | refine awp_skip ?_); try simp only [thenA, inBlockA, noGotoA])
       | (with_reducible refine awp_exit ?_; simp only [thenA, inBlockA, noGotoA, if_true, Nat.reduceEqDiff, if_false, ↓reduceIte])
       | (with_reducible refine awp_ret ?_; (try simp only [thenA, inBlockA, noGotoA]); (try simp [-List.reduceReplicate, Nat.add_one_le_iff, -getElem?_pos, -getElem?_neg, List.getElem?_cons_zero, List.getElem?_cons_succ, iC, bC, hlt]))
       | ((with_reducible first | refine awp_reg 72 hX [0, 1, 4, 5, 6, 7, 8, 11, 16, 23, 32, 36, 46, 50, 70] ?_ | refine awp_drw 72 hX [0, 1, 4, 5, 6, 7, 8, 11, 16, 23, 32, 36, 46, 50, 70] Tab.mixed (by kernel_rfl) ?_ | refine DEv_cut _ _ _ _ _ _ _ _ _ _ _ _ (by kernel_rfl) ?_ | change postOf _ _ _ _ _); simp [-List.reduceReplicate, Nat.add_one_le_iff, -getElem?_pos, -getElem?_neg, List.getElem?_cons_zero, List.getElem?_cons_succ, iC, bC, hlt])
       | (with_reducible refine awp_if_b rfl (fun hc => ?_) (fun hc => ?_) <;> (try simp [-getElem?_pos, -getElem?_neg] at hc) <;> (try (exfalso; omega)))
       | ((with_reducible first | refine GuardK_b (fun hc => ?_) (fun hc => ?_) | refine DGuard_b _ _ _ _ _ _ _ _ _ _ (fun hc => ?_) (fun hc => ?_)) <;> (try simp only [Bool.not_eq_true', Bool.not_eq_false', decide_eq_true_eq, decide_eq_false_iff_not] at hc) <;> (first | (exfalso; omega) | skip) <;> simp [-List.reduceReplicate, Nat.add_one_le_iff, -getElem?_pos, -getElem?_neg, List.getElem?_cons_zero, List.getElem?_cons_succ, iC, bC, hlt, hc])
       | ((with_reducible first | refine hother _ _ rfl ?_ | refine hother2 _ _ rfl ?_); simp only [inBlockA, thenA, noGotoA, Nat.reduceEqDiff, if_false, if_true, ↓reduceIte])
       | (with_reducible refine And.intro (by omega) ?_)
       | fail)
      refine hexit _ _ rfl ?_
      simp only [inBlockA, thenA, ↓reduceIte]
      clear hexit
      unfold rowsC at ad1
      rw [hvl] at ad1
      repeat' (first 
       | (with_reducible first | refine awp_scope ?_ | refine awp_seq ?_ | refine awp_block ?_)
       | ((with_reducible first | refine awp_label ?_ | refine awp_skip ?_); try simp only [thenA, inBlockA, noGotoA])
       | (with_reducible refine awp_exit ?_; simp only [thenA, inBlockA, noGotoA, if_true, Nat.reduceEqDiff, if_false, ↓reduceIte])
       | (with_reducible refine awp_ret ?_; (try simp only [thenA, inBlockA, noGotoA]); (try simp [-List.reduceReplicate, Nat.add_one_le_iff, -getElem?_pos, -getElem?_neg, List.getElem?_cons_zero, List.getElem?_cons_succ, iC, bC, hvl]))
       | ((with_reducible first | refine awp_reg 72 hX [0, 1, 4, 5, 6, 7, 8, 11, 16, 23, 32, 36, 46, 50, 70] ?_ | refine awp_drw 72 hX [0, 1, 4, 5, 6, 7, 8, 11, 16, 23, 32, 36, 46, 50, 70] Tab.mixed (by kernel_rfl) ?_ | refine DEv_cut _ _ _ _ _ _ _ _ _ _ _ _ (by kernel_rfl) ?_ | change postOf _ _ _ _ _); simp [-List.reduceReplicate, Nat.add_one_le_iff, -getElem?_pos, -getElem?_neg, List.getElem?_cons_zero, List.getElem?_cons_succ, iC, bC, hvl])
       | ((first | (refine (ad1 _).det ?_) | (refine ⟨_, _, ad1 _, fun _ => rfl, ?_⟩)); try simp [-List.reduceReplicate, Nat.add_one_le_iff, -getElem?_pos, -getElem?_neg, List.getElem?_cons_zero, List.getElem?_cons_succ, iC, bC, hvl])
       | (with_reducible refine awp_if_b rfl (fun hc => ?_) (fun hc => ?_) <;> (try simp [-getElem?_pos, -getElem?_neg] at hc) <;> (try (exfalso; omega)))
       | ((with_reducible first | refine GuardK_b (fun hc => ?_) (fun hc => ?_) | refine DGuard_b _ _ _ _ _ _ _ _ _ _ (fun hc => ?_) (fun hc => ?_)) <;> (try simp only [Bool.not_eq_true', Bool.not_eq_false', decide_eq_true_eq, decide_eq_false_iff_not] at hc) <;> (first | (exfalso; omega) | skip) <;> simp [-List.reduceReplicate, Nat.add_one_le_iff, -getElem?_pos, -getElem?_neg, List.getElem?_cons_zero, List.getElem?_cons_succ, iC, bC, hvl, hc])
       | ((with_reducible first | refine hother _ _ rfl ?_ | refine hother2 _ _ rfl ?_); simp only [inBlockA, thenA, noGotoA, Nat.reduceEqDiff, if_false, if_true, ↓reduceIte])
       | (with_reducible refine And.intro (by omega) ?_)
       | fail)
      refine awp_forU [0, 1, 6, 7] (fun j (_u : Unit) => [(7, .c (iC j))]) (fun j (_u : Unit) => []) (fun j (_u : Unit) => True) (i) (()) (by first | trivial | (simp; done) | omega | (intros; simp at *; done)) (by simp [-List.reduceReplicate, keep, iC]) (by simp [-List.reduceReplicate, iC]) ?_
      rintro j _u Q1 hi hH next hother
      conv => arg 5; arg 1; simp only [List.cons_append, List.nil_append, keep, get, Nat.reduceEqDiff, if_true, if_false, ↓reduceIte]
      have hwj := wrap_in ((j : Int) + 1) (by omega)
      by_cases hjl : j < i
      · obtain ⟨p, hp⟩ : ∃ h, l[j]? = some h := ⟨_, List.getElem?_eq_getElem (by omega)⟩
        have hpa := hat j p hp
        have hpm := List.mem_of_getElem? hp
        have hb : 2 ≤ cs.length - j * 2 := by omega
        have hvj := hvg j p hp
        have hva : (va.map intsC)[j]? = some (.sl (l.map fun q => iC (vr m p q)) i false) := by
          rw [List.getElem?_map, hvj]
          simp [intsC, hn', List.map_map, Function.comp]
        repeat' (first 
         | (with_reducible first | refine awp_scope ?_ | refine awp_seq ?_ | refine awp_block ?_)
         | ((with_reducible first | refine awp_label ?_ | refine awp_skip ?_); try simp only [thenA, inBlockA, noGotoA])
         | (with_reducible refine awp_exit ?_; simp only [thenA, inBlockA, noGotoA, if_true, Nat.reduceEqDiff, if_false, ↓reduceIte])
         | (with_reducible refine awp_ret ?_; (try simp only [thenA, inBlockA, noGotoA]); (try simp [-List.reduceReplicate, Nat.add_one_le_iff, -getElem?_pos, -getElem?_neg, List.getElem?_cons_zero, List.getElem?_cons_succ, iC, bC, hjl, hva]))
         | ((with_reducible first | refine awp_reg 72 hX [0, 1, 4, 5, 6, 7, 8, 11, 16, 23, 32, 36, 46, 50, 70] ?_ | refine awp_drw 72 hX [0, 1, 4, 5, 6, 7, 8, 11, 16, 23, 32, 36, 46, 50, 70] Tab.mixed (by kernel_rfl) ?_ | refine DEv_cut _ _ _ _ _ _ _ _ _ _ _ _ (by kernel_rfl) ?_ | change postOf _ _ _ _ _); simp [-List.reduceReplicate, Nat.add_one_le_iff, -getElem?_pos, -getElem?_neg, List.getElem?_cons_zero, List.getElem?_cons_succ, iC, bC, hjl, hva])
         | (with_reducible refine awp_if_b rfl (fun hc => ?_) (fun hc => ?_) <;> (try simp [-getElem?_pos, -getElem?_neg] at hc) <;> (try (exfalso; omega)))
         | ((with_reducible first | refine GuardK_b (fun hc => ?_) (fun hc => ?_) | refine DGuard_b _ _ _ _ _ _ _ _ _ _ (fun hc => ?_) (fun hc => ?_)) <;> (try simp only [Bool.not_eq_true', Bool.not_eq_false', decide_eq_true_eq, decide_eq_false_iff_not] at hc) <;> (first | (exfalso; omega) | skip) <;> simp [-List.reduceReplicate, Nat.add_one_le_iff, -getElem?_pos, -getElem?_neg, List.getElem?_cons_zero, List.getElem?_cons_succ, iC, bC, hjl, hva, hc])
         | ((with_reducible first | refine hother _ _ rfl ?_ | refine hother2 _ _ rfl ?_); simp only [inBlockA, thenA, noGotoA, Nat.reduceEqDiff, if_false, if_true, ↓reduceIte])
         | (with_reducible refine And.intro (by omega) ?_)
         | fail)
        have next1 := next; have hother2 := hother; clear next hother
        refine awp_forU [0, 1, 6, 7, 8] (fun k (_u : Unit) => [(8, .c (iC k))]) (fun k (_u : Unit) => []) (fun k (_u : Unit) => True) (i) (()) (by first | trivial | (simp; done) | omega | (intros; simp at *; done)) (by simp [-List.reduceReplicate, keep, iC]) (by simp [-List.reduceReplicate, iC]) ?_
        rintro k _u Q1 hi hH next hother
        conv => arg 5; arg 1; simp only [List.cons_append, List.nil_append, keep, get, Nat.reduceEqDiff, if_true, if_false, ↓reduceIte]
        have hwk := wrap_in ((k : Int) + 1) (by omega)
        by_cases hkl : k < i
        · obtain ⟨p', hp'⟩ : ∃ h, l[k]? = some h := ⟨_, List.getElem?_eq_getElem (by omega)⟩
          have hpa' := hat k p' hp'
          have hpm' := List.mem_of_getElem? hp'
          have hb' : 2 ≤ cs.length - k * 2 := by omega
          have v1 := vd p p' hsm hpm hpm'
          have ev : vrdN p.1 p'.1 p.2 p'.2 m = vr m p p' := rfl
          rw [ev] at v1
          have hrk : (l.map fun q => iC (vr m p q))[k]? = some (iC (vr m p p')) := by rw [List.getElem?_map, hp']; rfl
          generalize vr m p p' = vv at *
          generalize (l.map fun q => iC (vr m p q)) = rw_ at *
          unfold iC at hrk
          repeat' (first 
           | (with_reducible first | refine awp_scope ?_ | refine awp_seq ?_ | refine awp_block ?_)
           | ((with_reducible first | refine awp_label ?_ | refine awp_skip ?_); try simp only [thenA, inBlockA, noGotoA])
           | (with_reducible refine awp_exit ?_; simp only [thenA, inBlockA, noGotoA, if_true, Nat.reduceEqDiff, if_false, ↓reduceIte])
           | (with_reducible refine awp_ret ?_; (try simp only [thenA, inBlockA, noGotoA]); (try simp [-List.reduceReplicate, Nat.add_one_le_iff, -getElem?_pos, -getElem?_neg, List.getElem?_cons_zero, List.getElem?_cons_succ, iC, bC, hjl, hkl, hva, hrk, hpa, hpa', hb, hb', tl, hwk]))
           | ((with_reducible first | refine awp_reg 72 hX [0, 1, 4, 5, 6, 7, 8, 11, 16, 23, 32, 36, 46, 50, 70] ?_ | refine awp_drw 72 hX [0, 1, 4, 5, 6, 7, 8, 11, 16, 23, 32, 36, 46, 50, 70] Tab.mixed (by kernel_rfl) ?_ | refine DEv_cut _ _ _ _ _ _ _ _ _ _ _ _ (by kernel_rfl) ?_ | change postOf _ _ _ _ _); simp [-List.reduceReplicate, Nat.add_one_le_iff, -getElem?_pos, -getElem?_neg, List.getElem?_cons_zero, List.getElem?_cons_succ, iC, bC, hjl, hkl, hva, hrk, hpa, hpa', hb, hb', tl, hwk])
           | ((first | (refine (v1 _).det ?_) | (refine ⟨_, _, v1 _, fun _ => rfl, ?_⟩)); try simp [-List.reduceReplicate, Nat.add_one_le_iff, -getElem?_pos, -getElem?_neg, List.getElem?_cons_zero, List.getElem?_cons_succ, iC, bC, hjl, hkl, hva, hrk, hpa, hpa', hb, hb', tl, hwk])
           | (with_reducible refine awp_if_b rfl (fun hc => ?_) (fun hc => ?_) <;> (try simp [-getElem?_pos, -getElem?_neg] at hc) <;> (try (exfalso; omega)))
           | ((with_reducible first | refine GuardK_b (fun hc => ?_) (fun hc => ?_) | refine DGuard_b _ _ _ _ _ _ _ _ _ _ (fun hc => ?_) (fun hc => ?_)) <;> (try simp only [Bool.not_eq_true', Bool.not_eq_false', decide_eq_true_eq, decide_eq_false_iff_not] at hc) <;> (first | (exfalso; omega) | skip) <;> simp [-List.reduceReplicate, Nat.add_one_le_iff, -getElem?_pos, -getElem?_neg, List.getElem?_cons_zero, List.getElem?_cons_succ, iC, bC, hjl, hkl, hva, hrk, hpa, hpa', hb, hb', tl, hwk, hc])
           | ((with_reducible first | refine hother _ _ rfl ?_ | refine hother2 _ _ rfl ?_); simp only [inBlockA, thenA, noGotoA, Nat.reduceEqDiff, if_false, if_true, ↓reduceIte])
           | (with_reducible refine And.intro (by omega) ?_)
           | fail)
          refine next _ _ (()) (by omega) (by first | trivial | omega | assumption) (by simp [-List.reduceReplicate, keep, iC]) (by simp [-List.reduceReplicate, iC])
        · have hk2 : k = i := by omega
          subst hk2
          repeat' (first 
           | (with_reducible first | refine awp_scope ?_ | refine awp_seq ?_ | refine awp_block ?_)
           | ((with_reducible first | refine awp_label ?_ | refine awp_skip ?_); try simp only [thenA, inBlockA, noGotoA])
           | (with_reducible refine awp_exit ?_; simp only [thenA, inBlockA, noGotoA, if_true, Nat.reduceEqDiff, if_false, ↓reduceIte])
           | (with_reducible refine awp_ret ?_; (try simp only [thenA, inBlockA, noGotoA]); (try simp [-List.reduceReplicate, Nat.add_one_le_iff, -getElem?_pos, -getElem?_neg, List.getElem?_cons_zero, List.getElem?_cons_succ, iC, bC, hwj]))
           | ((with_reducible first | refine awp_reg 72 hX [0, 1, 4, 5, 6, 7, 8, 11, 16, 23, 32, 36, 46, 50, 70] ?_ | refine awp_drw 72 hX [0, 1, 4, 5, 6, 7, 8, 11, 16, 23, 32, 36, 46, 50, 70] Tab.mixed (by kernel_rfl) ?_ | refine DEv_cut _ _ _ _ _ _ _ _ _ _ _ _ (by kernel_rfl) ?_ | change postOf _ _ _ _ _); simp [-List.reduceReplicate, Nat.add_one_le_iff, -getElem?_pos, -getElem?_neg, List.getElem?_cons_zero, List.getElem?_cons_succ, iC, bC, hwj])
           | (with_reducible refine awp_if_b rfl (fun hc => ?_) (fun hc => ?_) <;> (try simp [-getElem?_pos, -getElem?_neg] at hc) <;> (try (exfalso; omega)))
           | ((with_reducible first | refine GuardK_b (fun hc => ?_) (fun hc => ?_) | refine DGuard_b _ _ _ _ _ _ _ _ _ _ (fun hc => ?_) (fun hc => ?_)) <;> (try simp only [Bool.not_eq_true', Bool.not_eq_false', decide_eq_true_eq, decide_eq_false_iff_not] at hc) <;> (first | (exfalso; omega) | skip) <;> simp [-List.reduceReplicate, Nat.add_one_le_iff, -getElem?_pos, -getElem?_neg, List.getElem?_cons_zero, List.getElem?_cons_succ, iC, bC, hwj, hc])
           | ((with_reducible first | refine hother _ _ rfl ?_ | refine hother2 _ _ rfl ?_); simp only [inBlockA, thenA, noGotoA, Nat.reduceEqDiff, if_false, if_true, ↓reduceIte])
           | (with_reducible refine And.intro (by omega) ?_)
           | fail)
          refine next1 _ _ (()) (by omega) (by first | trivial | omega | assumption) (by simp [-List.reduceReplicate, keep, iC]) (by simp [-List.reduceReplicate, iC])
      · have hj2 : j = i := by omega
        subst hj2
        repeat' (first 
         | (with_reducible first | refine awp_scope ?_ | refine awp_seq ?_ | refine awp_block ?_)
         | ((with_reducible first | refine awp_label ?_ | refine awp_skip ?_); try simp only [thenA, inBlockA, noGotoA])
         | (with_reducible refine awp_exit ?_; simp only [thenA, inBlockA, noGotoA, if_true, Nat.reduceEqDiff, if_false, ↓reduceIte])
         | (with_reducible refine awp_ret ?_; (try simp only [thenA, inBlockA, noGotoA]); (try simp [-List.reduceReplicate, Nat.add_one_le_iff, -getElem?_pos, -getElem?_neg, List.getElem?_cons_zero, List.getElem?_cons_succ, iC, bC]))
         | ((with_reducible first | refine awp_reg 72 hX [0, 1, 4, 5, 6, 7, 8, 11, 16, 23, 32, 36, 46, 50, 70] ?_ | refine awp_drw 72 hX [0, 1, 4, 5, 6, 7, 8, 11, 16, 23, 32, 36, 46, 50, 70] Tab.mixed (by kernel_rfl) ?_ | refine DEv_cut _ _ _ _ _ _ _ _ _ _ _ _ (by kernel_rfl) ?_ | change postOf _ _ _ _ _); simp [-List.reduceReplicate, Nat.add_one_le_iff, -getElem?_pos, -getElem?_neg, List.getElem?_cons_zero, List.getElem?_cons_succ, iC, bC])
         | ((first | (refine (aw _).det ?_) | (refine ⟨_, _, aw _, fun _ => rfl, ?_⟩)); try simp [-List.reduceReplicate, Nat.add_one_le_iff, -getElem?_pos, -getElem?_neg, List.getElem?_cons_zero, List.getElem?_cons_succ, iC, bC])
         | (with_reducible refine awp_if_b rfl (fun hc => ?_) (fun hc => ?_) <;> (try simp [-getElem?_pos, -getElem?_neg] at hc) <;> (try (exfalso; omega)))
         | ((with_reducible first | refine GuardK_b (fun hc => ?_) (fun hc => ?_) | refine DGuard_b _ _ _ _ _ _ _ _ _ _ (fun hc => ?_) (fun hc => ?_)) <;> (try simp only [Bool.not_eq_true', Bool.not_eq_false', decide_eq_true_eq, decide_eq_false_iff_not] at hc) <;> (first | (exfalso; omega) | skip) <;> simp [-List.reduceReplicate, Nat.add_one_le_iff, -getElem?_pos, -getElem?_neg, List.getElem?_cons_zero, List.getElem?_cons_succ, iC, bC, hc])
         | ((with_reducible first | refine hother _ _ rfl ?_ | refine hother2 _ _ rfl ?_); simp only [inBlockA, thenA, noGotoA, Nat.reduceEqDiff, if_false, if_true, ↓reduceIte])
         | (with_reducible refine And.intro (by omega) ?_)
         | fail)
theorem opens_sides {P : Program} {s t tl th tb tn ti : TypeId} {fs : Array Field} (hs : P.underlying s = some (.slice t)) (ht : P.underlying t = some (.struct fs)) (hl : P.underlying tl = some (.slice th)) (hh : P.underlying th = some (.array 32 tb)) (hb : P.underlying tb = some (.int .u8)) (hn : P.underlying tn = some (.slice ti)) (hi : P.underlying ti = some (.int .i64))
    (f0 : (fs[0]?).map (fun f => (f.offset, f.type)) = some (0, tl)) (f1 : (fs[1]?).map (fun f => (f.offset, f.type)) = some (1, tn)) (c0 : P.cellsOf t = 2) (c1 : P.cellsOf tl = 1) (c2 : P.cellsOf tn = 1) (c3 : P.cellsOf th = 32) (c4 : P.cellsOf tb = 1) (c5 : P.cellsOf ti = 1) :
    Opens P s (fun l : List SD => [.sl (sdsC l) l.length false]) (fun l => l.length ≤ maxLen ∧ ∀ p ∈ l, p.1.length ≤ maxLen ∧ p.2.length ≤ maxLen) :=
  (opens_slice hs (fun a => by rw [c0]; rfl) (opens_side ht hl hh hb hn hi f0 f1 c0 c1 c2 c3 c4 c5))
end Go.Av

set_option exponentiation.threshold 1000
set_option linter.unusedVariables false
set_option linter.unusedSimpArgs false
set_option maxRecDepth 100000
set_option maxHeartbeats 4000000
namespace Go.Av
open Go Go.Proofs Go.Proofs.Ytofomnllcmgfeaa Go.RowKit
/-! ### duel: exchanging the sides, plain -/
def mt (a b : List H32) (i k : Nat) : Prop := ∃ h h', a[i]? = some h ∧ b[k]? = some h' ∧ h.1 = h'.1
def onceP (l : List H32) : Prop := ∀ i k, mt l l i k → i = k
theorem mt_symm {a b : List H32} {i k : Nat} (h : mt a b i k) : mt b a k i := by
  obtain ⟨x, y, h1, h2, h3⟩ := h
  exact ⟨y, x, h2, h1, h3.symm⟩
theorem mt_lt {a b : List H32} {i k : Nat} (h : mt a b i k) : i < a.length ∧ k < b.length := by
  obtain ⟨x, y, h1, h2, h3⟩ := h
  exact ⟨(List.getElem?_eq_some_iff.1 h1).1, (List.getElem?_eq_some_iff.1 h2).1⟩
theorem mt_same {a b : List H32} {i i' k : Nat} (h : mt a b i k) (h' : mt a b i' k) : mt a a i i' := by
  obtain ⟨x, y, h1, h2, h3⟩ := h
  obtain ⟨x', y', h1', h2', h3'⟩ := h'
  rw [h2] at h2'
  obtain rfl := Option.some.inj h2'
  exact ⟨x, x', h1, h1', h3.trans h3'.symm⟩
theorem fstI_spec (l : List H32) (id : List UInt8) : ∀ n, (fstI l id n = -1 ∧ ∀ (k : Nat) h, l[k]? = some h → h.1 ≠ id) ∨ ∃ k : Nat, fstI l id n = ((n + k : Nat) : Int) ∧ ∃ h, l[k]? = some h ∧ h.1 = id := by
  induction l with
  | nil => intro n; exact .inl ⟨rfl, fun k h hk => by simp at hk⟩
  | cons x r ih =>
    intro n
    unfold fstI
    by_cases c : x.1 = id
    · rw [if_pos c]
      exact .inr ⟨0, by simp, x, rfl, c⟩
    · rw [if_neg c]
      rcases ih (n + 1) with ⟨h1, h2⟩ | ⟨k, h1, h, h2, h3⟩
      · refine .inl ⟨h1, fun k h hk => ?_⟩
        cases k with
        | zero => simp at hk; subst hk; exact c
        | succ k => exact h2 k h (by simpa using hk)
      · exact .inr ⟨k + 1, by rw [h1]; congr 1; omega, h, by simpa using h2, h3⟩
theorem lastH_spec (a b : List H32) : ∀ n, n ≤ a.length → (lastHTo a b n = (-1, -1) ∧ ∀ i k, i < n → ¬ mt a b i k) ∨ ∃ i k : Nat, lastHTo a b n = ((i : Int), (k : Int)) ∧ i < n ∧ mt a b i k ∧ ∀ i' k', i < i' → i' < n → ¬ mt a b i' k'
  | 0, _ => .inl ⟨rfl, fun i k h => by omega⟩
  | n + 1, hn => by
    obtain ⟨x, hx⟩ : ∃ x, a[n]? = some x := ⟨_, List.getElem?_eq_getElem (by omega)⟩
    have e : (a[n]?.map (·.1)).getD [] = x.1 := by rw [hx]; rfl
    unfold lastHTo
    rw [e]
    rcases fstI_spec b x.1 0 with ⟨h1, h2⟩ | ⟨k, h1, h, h2, h3⟩
    · have hno : ∀ k, ¬ mt a b n k := fun k ⟨u, v, m1, m2, m3⟩ => by
        rw [hx] at m1
        obtain rfl := Option.some.inj m1
        exact h2 k v m2 m3.symm
      rw [h1, if_neg (by omega)]
      rcases lastH_spec a b n (by omega) with ⟨q1, q2⟩ | ⟨i, k, q1, q2, q3, q4⟩
      · refine .inl ⟨q1, fun i k hi => ?_⟩
        by_cases c : i = n
        · subst c; exact hno k
        · exact q2 i k (by omega)
      · refine .inr ⟨i, k, q1, by omega, q3, fun i' k' h1 h2 => ?_⟩
        by_cases c : i' = n
        · subst c; exact hno k'
        · exact q4 i' k' h1 (by omega)
    · rw [h1, if_pos (by omega)]
      exact .inr ⟨n, k, by simp, by omega, ⟨x, h, hx, h2, h3.symm⟩, fun i' k' h1 h2 => by omega⟩
/-- In one order: what stands in both. -/
def mono (a b : List H32) : Prop := ∀ i k i' k', i < i' → mt a b i k → mt a b i' k' → k ≤ k'
theorem last_turn (a b : List H32) (ha : onceP a) (hb : onceP b) (hm : mono a b) : lastH b a = ((lastH a b).2, (lastH a b).1) := by
  unfold lastH
  rcases lastH_spec a b a.length (Nat.le_refl _) with ⟨q1, q2⟩ | ⟨i, k, q1, q2, q3, q4⟩
  · rw [q1]
    rcases lastH_spec b a b.length (Nat.le_refl _) with ⟨r1, r2⟩ | ⟨k', i', r1, r2, r3, r4⟩
    · rw [r1]
    · exact absurd (mt_symm r3) (q2 i' k' (mt_lt r3).2)
  · rw [q1]
    rcases lastH_spec b a b.length (Nat.le_refl _) with ⟨r1, r2⟩ | ⟨k', i', r1, r2, r3, r4⟩
    · exact absurd (mt_symm q3) (r2 k i (mt_lt q3).2)
    · rw [r1]
      have s3 := mt_symm r3
      have hi : i' ≤ i := by
        rcases Nat.lt_or_ge i i' with c | c
        · exact absurd s3 (q4 i' k' c (mt_lt s3).1)
        · exact c
      have hk : k ≤ k' := by
        rcases Nat.lt_or_ge k' k with c | c
        · exact absurd (mt_symm q3) (r4 k i c (mt_lt q3).2)
        · exact c
      have hii : i' = i := by
        rcases Nat.lt_or_ge i' i with c | c
        · have := hm i' k' i k c s3 q3
          have hkk : k' = k := by omega
          subst hkk
          exact ha i' i (mt_same s3 q3)
        · omega
      subst hii
      have hkk : k = k' := hb k k' (mt_same (mt_symm q3) r3)
      subst hkk
      rfl
theorem last_self (a : List H32) (ha : onceP a) : (lastH a a).1 = (lastH a a).2 := by
  unfold lastH
  rcases lastH_spec a a a.length (Nat.le_refl _) with ⟨q1, q2⟩ | ⟨i, k, q1, q2, q3, q4⟩
  · rw [q1]
  · rw [q1, ha i k q3]
theorem cmpN_neg (x y : Nat) : cmpN x y = -cmpN y x := by
  unfold cmpN
  by_cases c : x < y
  · have : ¬ y < x := by omega
    simp [c, this]
  · by_cases d : y < x
    · simp [c, d]
    · simp [c, d]
theorem vrd_turn (a b : List H32) (za zb : List Int) (m : Int) (ha : onceP a) (hb : onceP b) (hm : mono a b) : vrdN a b za zb m = -vrdN b a zb za m := by
  have h := last_turn a b ha hb hm
  have hr := lastH_range a b
  unfold vrdN
  rw [h]
  simp only
  by_cases c : (lastH a b).1 < 0
  · have c2 : (lastH a b).2 < 0 := by
      rcases hr with e | e
      · rw [e]; decide
      · omega
    simp [c, c2]
  · have c2 : ¬ (lastH a b).2 < 0 := by
      rcases hr with e | e
      · rw [e] at c; simp at c
      · omega
    simp only [c, c2, if_false]
    exact cmpN_neg _ _
theorem vrd_self (a : List H32) (za : List Int) (m : Int) (ha : onceP a) : vrdN a a za za m = 0 := by
  unfold vrdN
  split
  · rfl
  · rw [last_self a ha]
    exact cmpN_eq _
end Go.Av

set_option exponentiation.threshold 1000
set_option linter.unusedVariables false
set_option linter.unusedSimpArgs false
set_option maxRecDepth 100000
set_option maxHeartbeats 4000000
namespace Go.Av
open Go Go.Proofs Go.Proofs.Ytofomnllcmgfeaa Go.RowKit
/-! ### DuelTurns -/
def hAt (l : List H32) (i : Nat) : List UInt8 := (l[i]?.map (·.1)).getD []
def onceB (l : List H32) : Bool := decide (∀ i, i < l.length → ∀ k, k < i → hAt l i ≠ hAt l k)
theorem hAt_of {l : List H32} {i : Nat} {h : H32} (e : l[i]? = some h) : hAt l i = h.1 := by unfold hAt; rw [e]; rfl
theorem onceB_P {l : List H32} (h : onceB l = true) : onceP l := by
  unfold onceB at h
  have h := of_decide_eq_true h
  intro i k hm
  obtain ⟨x, y, h1, h2, h3⟩ := hm
  have l1 := (List.getElem?_eq_some_iff.1 h1).1
  have l2 := (List.getElem?_eq_some_iff.1 h2).1
  rcases Nat.lt_trichotomy i k with c | c | c
  · exact absurd (by rw [hAt_of h1, hAt_of h2]; exact h3.symm) (h k l2 i c)
  · exact c
  · exact absurd (by rw [hAt_of h1, hAt_of h2]; exact h3) (h i l1 k c)
set_option maxHeartbeats 4000000 in
theorem once_den (l : List H32) (hN : l.length ≤ 1000000) : DenV Try.prog 46 [.c (.sl (hsC l) l.length false)] (.c (bC (onceB l))) := by
  refine Den.frame rfl rfl ?_
  have hlen := hsC_len l
  have hat := hsC_at l
  have hy : (∀ i, i < l.length → ∀ k, k < i → hAt l i ≠ hAt l k) → onceB l = true := fun h => decide_eq_true h
  have hn : ∀ i k, i < l.length → k < i → hAt l i = hAt l k → onceB l = false := fun i k h1 h2 h3 => decide_eq_false fun h => h i h1 k h2 h3
  have hha := fun i (h : H32) => @hAt_of l i h
  generalize onceB l = r at *
  generalize hsC l = cs at *
  refine den_of Try.func46 rfl rfl (by simp [Try.ntmps46]) (fun X hX hO => ?_)
  rw [Try.ntmps46] at hX
  simp only [Try.results46]
  repeat' (first 
   | (with_reducible first | refine awp_scope ?_ | refine awp_seq ?_ | refine awp_block ?_)
   | ((with_reducible first | refine awp_label ?_ | refine awp_skip ?_); try simp only [thenA, inBlockA, noGotoA])
   | (with_reducible refine awp_exit ?_; simp only [thenA, inBlockA, noGotoA, if_true, Nat.reduceEqDiff, if_false, ↓reduceIte])
   | (with_reducible refine awp_ret ?_; (try simp only [thenA, inBlockA, noGotoA]); (try simp [-List.reduceReplicate, Nat.add_one_le_iff, -getElem?_pos, -getElem?_neg, List.getElem?_cons_zero, List.getElem?_cons_succ]))
   | ((with_reducible first | refine awp_reg 25 hX [0, 2, 3, 4, 8, 13, 24] ?_ | refine awp_drw 25 hX [0, 2, 3, 4, 8, 13, 24] Tab.mixed (by kernel_rfl) ?_ | refine DEv_cut _ _ _ _ _ _ _ _ _ _ _ _ (by kernel_rfl) ?_ | change postOf _ _ _ _ _); simp [-List.reduceReplicate, Nat.add_one_le_iff, -getElem?_pos, -getElem?_neg, List.getElem?_cons_zero, List.getElem?_cons_succ])
   | (with_reducible refine awp_if_b rfl (fun hc => ?_) (fun hc => ?_) <;> (try simp [-getElem?_pos, -getElem?_neg] at hc) <;> (try (exfalso; omega)))
   | ((with_reducible first | refine GuardK_b (fun hc => ?_) (fun hc => ?_) | refine DGuard_b _ _ _ _ _ _ _ _ _ _ (fun hc => ?_) (fun hc => ?_)) <;> (try simp only [Bool.not_eq_true', Bool.not_eq_false', decide_eq_true_eq, decide_eq_false_iff_not] at hc) <;> (first | (exfalso; omega) | skip) <;> simp [-List.reduceReplicate, Nat.add_one_le_iff, -getElem?_pos, -getElem?_neg, List.getElem?_cons_zero, List.getElem?_cons_succ, hc])
   | ((with_reducible first | refine hother _ _ rfl ?_ | refine hother2 _ _ rfl ?_); simp only [inBlockA, thenA, noGotoA, Nat.reduceEqDiff, if_false, if_true, ↓reduceIte])
   | (with_reducible refine And.intro (by omega) ?_)
   | fail)
  refine awp_forU [0, 3] (fun i (_u : Unit) => [(3, .c (iC i))]) (fun i (_u : Unit) => []) (fun i (_u : Unit) => (∀ i', i' < i → ∀ k, k < i' → hAt l i' ≠ hAt l k)) (l.length) (()) (by first | trivial | (simp; done) | omega | (intros; simp at *; done)) (by simp [-List.reduceReplicate, keep, iC]) (by simp [-List.reduceReplicate, iC]) ?_
  rintro i _u Q1 hi hH next hother
  conv => arg 5; arg 1; simp only [List.cons_append, List.nil_append, keep, get, Nat.reduceEqDiff, if_true, if_false, ↓reduceIte]
  have hwi := wrap_in ((i : Int) + 1) (by omega)
  by_cases hlt : i < l.length
  · obtain ⟨h, hh⟩ : ∃ h, l[i]? = some h := ⟨_, List.getElem?_eq_getElem hlt⟩
    have ha := hat i h hh
    have hl2 := h.2
    have t2 := hash_take h.1 hl2
    have hb : 32 ≤ cs.length - i * 32 := by omega
    have ea := hha i h hh
    repeat' (first 
     | (with_reducible first | refine awp_scope ?_ | refine awp_seq ?_ | refine awp_block ?_)
     | ((with_reducible first | refine awp_label ?_ | refine awp_skip ?_); try simp only [thenA, inBlockA, noGotoA])
     | (with_reducible refine awp_exit ?_; simp only [thenA, inBlockA, noGotoA, if_true, Nat.reduceEqDiff, if_false, ↓reduceIte])
     | (with_reducible refine awp_ret ?_; (try simp only [thenA, inBlockA, noGotoA]); (try simp [-List.reduceReplicate, Nat.add_one_le_iff, -getElem?_pos, -getElem?_neg, List.getElem?_cons_zero, List.getElem?_cons_succ, iC, bC, hlt]))
     | ((with_reducible first | refine awp_reg 25 hX [0, 2, 3, 4, 8, 13, 24] ?_ | refine awp_drw 25 hX [0, 2, 3, 4, 8, 13, 24] Tab.mixed (by kernel_rfl) ?_ | refine DEv_cut _ _ _ _ _ _ _ _ _ _ _ _ (by kernel_rfl) ?_ | change postOf _ _ _ _ _); simp [-List.reduceReplicate, Nat.add_one_le_iff, -getElem?_pos, -getElem?_neg, List.getElem?_cons_zero, List.getElem?_cons_succ, iC, bC, hlt])
     | (with_reducible refine awp_if_b rfl (fun hc => ?_) (fun hc => ?_) <;> (try simp [-getElem?_pos, -getElem?_neg] at hc) <;> (try (exfalso; omega)))
     | ((with_reducible first | refine GuardK_b (fun hc => ?_) (fun hc => ?_) | refine DGuard_b _ _ _ _ _ _ _ _ _ _ (fun hc => ?_) (fun hc => ?_)) <;> (try simp only [Bool.not_eq_true', Bool.not_eq_false', decide_eq_true_eq, decide_eq_false_iff_not] at hc) <;> (first | (exfalso; omega) | skip) <;> simp [-List.reduceReplicate, Nat.add_one_le_iff, -getElem?_pos, -getElem?_neg, List.getElem?_cons_zero, List.getElem?_cons_succ, iC, bC, hlt, hc])
     | ((with_reducible first | refine hother _ _ rfl ?_ | refine hother2 _ _ rfl ?_); simp only [inBlockA, thenA, noGotoA, Nat.reduceEqDiff, if_false, if_true, ↓reduceIte])
     | (with_reducible refine And.intro (by omega) ?_)
     | fail)
    have next1 := next; have hother2 := hother; have hH0 := hH; clear next hother hH
    refine awp_forU [0, 3, 4] (fun k (_u : Unit) => [(4, .c (iC k))]) (fun k (_u : Unit) => []) (fun k (_u : Unit) => (∀ k', k' < k → hAt l i ≠ hAt l k')) (i) (()) (by first | trivial | (simp; done) | omega | (intros; simp at *; done)) (by simp [-List.reduceReplicate, keep, iC]) (by simp [-List.reduceReplicate, iC]) ?_
    rintro k _u Q1 hi hH next hother
    conv => arg 5; arg 1; simp only [List.cons_append, List.nil_append, keep, get, Nat.reduceEqDiff, if_true, if_false, ↓reduceIte]
    have hwk := wrap_in ((k : Int) + 1) (by omega)
    by_cases hkl : k < i
    · obtain ⟨h', hh'⟩ : ∃ h, l[k]? = some h := ⟨_, List.getElem?_eq_getElem (by omega)⟩
      have ha' := hat k h' hh'
      have hl2' := h'.2
      have t2' := hash_take h'.1 hl2'
      have hb' : 32 ≤ cs.length - k * 32 := by omega
      have hkn : k < l.length := by omega
      have ea' := hha k h' hh'
      have he := eq_hash h.1 h'.1 hl2 hl2'
      by_cases heq : h.1 = h'.1
      · have hr := hn i k hlt hkl (by rw [ea, ea', heq])
        rw [heq] at he ha
        simp only [decide_true] at he
        repeat' (first 
         | (with_reducible first | refine awp_scope ?_ | refine awp_seq ?_ | refine awp_block ?_)
         | ((with_reducible first | refine awp_label ?_ | refine awp_skip ?_); try simp only [thenA, inBlockA, noGotoA])
         | (with_reducible refine awp_exit ?_; simp only [thenA, inBlockA, noGotoA, if_true, Nat.reduceEqDiff, if_false, ↓reduceIte])
         | (with_reducible refine awp_ret ?_; (try simp only [thenA, inBlockA, noGotoA]); (try simp [-List.reduceReplicate, Nat.add_one_le_iff, -getElem?_pos, -getElem?_neg, List.getElem?_cons_zero, List.getElem?_cons_succ, iC, bC, hlt, hkl, hkn, ha, ha', hl2, hl2', t2, t2', hb, hb', he, hr]))
         | ((with_reducible first | refine awp_reg 25 hX [0, 2, 3, 4, 8, 13, 24] ?_ | refine awp_drw 25 hX [0, 2, 3, 4, 8, 13, 24] Tab.mixed (by kernel_rfl) ?_ | refine DEv_cut _ _ _ _ _ _ _ _ _ _ _ _ (by kernel_rfl) ?_ | change postOf _ _ _ _ _); simp [-List.reduceReplicate, Nat.add_one_le_iff, -getElem?_pos, -getElem?_neg, List.getElem?_cons_zero, List.getElem?_cons_succ, iC, bC, hlt, hkl, hkn, ha, ha', hl2, hl2', t2, t2', hb, hb', he, hr])
         | (with_reducible refine awp_if_b rfl (fun hc => ?_) (fun hc => ?_) <;> (try simp [-getElem?_pos, -getElem?_neg] at hc) <;> (try (exfalso; omega)))
         | ((with_reducible first | refine GuardK_b (fun hc => ?_) (fun hc => ?_) | refine DGuard_b _ _ _ _ _ _ _ _ _ _ (fun hc => ?_) (fun hc => ?_)) <;> (try simp only [Bool.not_eq_true', Bool.not_eq_false', decide_eq_true_eq, decide_eq_false_iff_not] at hc) <;> (first | (exfalso; omega) | skip) <;> simp [-List.reduceReplicate, Nat.add_one_le_iff, -getElem?_pos, -getElem?_neg, List.getElem?_cons_zero, List.getElem?_cons_succ, iC, bC, hlt, hkl, hkn, ha, ha', hl2, hl2', t2, t2', hb, hb', he, hr, hc])
         | ((with_reducible first | refine hother _ _ rfl ?_ | refine hother2 _ _ rfl ?_); simp only [inBlockA, thenA, noGotoA, Nat.reduceEqDiff, if_false, if_true, ↓reduceIte])
         | (with_reducible refine And.intro (by omega) ?_)
         | fail)
      · have nx : ∀ k', k' < k + 1 → hAt l i ≠ hAt l k' := fun k' hk' => by
          by_cases c : k' = k
          · subst c; rw [ea, ea']; exact heq
          · exact hH k' (by omega)
        simp only [heq, decide_false] at he
        repeat' (first 
         | (with_reducible first | refine awp_scope ?_ | refine awp_seq ?_ | refine awp_block ?_)
         | ((with_reducible first | refine awp_label ?_ | refine awp_skip ?_); try simp only [thenA, inBlockA, noGotoA])
         | (with_reducible refine awp_exit ?_; simp only [thenA, inBlockA, noGotoA, if_true, Nat.reduceEqDiff, if_false, ↓reduceIte])
         | (with_reducible refine awp_ret ?_; (try simp only [thenA, inBlockA, noGotoA]); (try simp [-List.reduceReplicate, Nat.add_one_le_iff, -getElem?_pos, -getElem?_neg, List.getElem?_cons_zero, List.getElem?_cons_succ, iC, bC, hlt, hkl, hkn, ha, ha', hl2, hl2', t2, t2', hb, hb', he, hwk]))
         | ((with_reducible first | refine awp_reg 25 hX [0, 2, 3, 4, 8, 13, 24] ?_ | refine awp_drw 25 hX [0, 2, 3, 4, 8, 13, 24] Tab.mixed (by kernel_rfl) ?_ | refine DEv_cut _ _ _ _ _ _ _ _ _ _ _ _ (by kernel_rfl) ?_ | change postOf _ _ _ _ _); simp [-List.reduceReplicate, Nat.add_one_le_iff, -getElem?_pos, -getElem?_neg, List.getElem?_cons_zero, List.getElem?_cons_succ, iC, bC, hlt, hkl, hkn, ha, ha', hl2, hl2', t2, t2', hb, hb', he, hwk])
         | (with_reducible refine awp_if_b rfl (fun hc => ?_) (fun hc => ?_) <;> (try simp [-getElem?_pos, -getElem?_neg] at hc) <;> (try (exfalso; omega)))
         | ((with_reducible first | refine GuardK_b (fun hc => ?_) (fun hc => ?_) | refine DGuard_b _ _ _ _ _ _ _ _ _ _ (fun hc => ?_) (fun hc => ?_)) <;> (try simp only [Bool.not_eq_true', Bool.not_eq_false', decide_eq_true_eq, decide_eq_false_iff_not] at hc) <;> (first | (exfalso; omega) | skip) <;> simp [-List.reduceReplicate, Nat.add_one_le_iff, -getElem?_pos, -getElem?_neg, List.getElem?_cons_zero, List.getElem?_cons_succ, iC, bC, hlt, hkl, hkn, ha, ha', hl2, hl2', t2, t2', hb, hb', he, hwk, hc])
         | ((with_reducible first | refine hother _ _ rfl ?_ | refine hother2 _ _ rfl ?_); simp only [inBlockA, thenA, noGotoA, Nat.reduceEqDiff, if_false, if_true, ↓reduceIte])
         | (with_reducible refine And.intro (by omega) ?_)
         | fail)
        refine next _ _ (()) (by omega) (by first | trivial | omega | assumption) (by simp [-List.reduceReplicate, keep, iC]) (by simp [-List.reduceReplicate, iC])
    · have hk2 : k = i := by omega
      subst hk2
      have nx : ∀ i', i' < k + 1 → ∀ k', k' < i' → hAt l i' ≠ hAt l k' := fun i' hi' => by
        by_cases c : i' = k
        · subst c; exact hH
        · exact hH0 i' (by omega)
      repeat' (first 
       | (with_reducible first | refine awp_scope ?_ | refine awp_seq ?_ | refine awp_block ?_)
       | ((with_reducible first | refine awp_label ?_ | refine awp_skip ?_); try simp only [thenA, inBlockA, noGotoA])
       | (with_reducible refine awp_exit ?_; simp only [thenA, inBlockA, noGotoA, if_true, Nat.reduceEqDiff, if_false, ↓reduceIte])
       | (with_reducible refine awp_ret ?_; (try simp only [thenA, inBlockA, noGotoA]); (try simp [-List.reduceReplicate, Nat.add_one_le_iff, -getElem?_pos, -getElem?_neg, List.getElem?_cons_zero, List.getElem?_cons_succ, iC, bC, hkl, hwi]))
       | ((with_reducible first | refine awp_reg 25 hX [0, 2, 3, 4, 8, 13, 24] ?_ | refine awp_drw 25 hX [0, 2, 3, 4, 8, 13, 24] Tab.mixed (by kernel_rfl) ?_ | refine DEv_cut _ _ _ _ _ _ _ _ _ _ _ _ (by kernel_rfl) ?_ | change postOf _ _ _ _ _); simp [-List.reduceReplicate, Nat.add_one_le_iff, -getElem?_pos, -getElem?_neg, List.getElem?_cons_zero, List.getElem?_cons_succ, iC, bC, hkl, hwi])
       | (with_reducible refine awp_if_b rfl (fun hc => ?_) (fun hc => ?_) <;> (try simp [-getElem?_pos, -getElem?_neg] at hc) <;> (try (exfalso; omega)))
       | ((with_reducible first | refine GuardK_b (fun hc => ?_) (fun hc => ?_) | refine DGuard_b _ _ _ _ _ _ _ _ _ _ (fun hc => ?_) (fun hc => ?_)) <;> (try simp only [Bool.not_eq_true', Bool.not_eq_false', decide_eq_true_eq, decide_eq_false_iff_not] at hc) <;> (first | (exfalso; omega) | skip) <;> simp [-List.reduceReplicate, Nat.add_one_le_iff, -getElem?_pos, -getElem?_neg, List.getElem?_cons_zero, List.getElem?_cons_succ, iC, bC, hkl, hwi, hc])
       | ((with_reducible first | refine hother _ _ rfl ?_ | refine hother2 _ _ rfl ?_); simp only [inBlockA, thenA, noGotoA, Nat.reduceEqDiff, if_false, if_true, ↓reduceIte])
       | (with_reducible refine And.intro (by omega) ?_)
       | fail)
      refine next1 _ _ (()) (by omega) (by first | trivial | omega | assumption) (by simp [-List.reduceReplicate, keep, iC]) (by simp [-List.reduceReplicate, iC])
  · have hi2 : i = l.length := by omega
    subst hi2
    have hr := hy hH
    repeat' (first 
     | (with_reducible first | refine awp_scope ?_ | refine awp_seq ?_ | refine awp_block ?_)
     | ((with_reducible first | refine awp_label ?_ | refine awp_skip ?_); try simp only [thenA, inBlockA, noGotoA])
     | (with_reducible refine awp_exit ?_; simp only [thenA, inBlockA, noGotoA, if_true, Nat.reduceEqDiff, if_false, ↓reduceIte])
     | (with_reducible refine awp_ret ?_; (try simp only [thenA, inBlockA, noGotoA]); (try simp [-List.reduceReplicate, Nat.add_one_le_iff, -getElem?_pos, -getElem?_neg, List.getElem?_cons_zero, List.getElem?_cons_succ, iC, bC, hr]))
     | ((with_reducible first | refine awp_reg 25 hX [0, 2, 3, 4, 8, 13, 24] ?_ | refine awp_drw 25 hX [0, 2, 3, 4, 8, 13, 24] Tab.mixed (by kernel_rfl) ?_ | refine DEv_cut _ _ _ _ _ _ _ _ _ _ _ _ (by kernel_rfl) ?_ | change postOf _ _ _ _ _); simp [-List.reduceReplicate, Nat.add_one_le_iff, -getElem?_pos, -getElem?_neg, List.getElem?_cons_zero, List.getElem?_cons_succ, iC, bC, hr])
     | (with_reducible refine awp_if_b rfl (fun hc => ?_) (fun hc => ?_) <;> (try simp [-getElem?_pos, -getElem?_neg] at hc) <;> (try (exfalso; omega)))
     | ((with_reducible first | refine GuardK_b (fun hc => ?_) (fun hc => ?_) | refine DGuard_b _ _ _ _ _ _ _ _ _ _ (fun hc => ?_) (fun hc => ?_)) <;> (try simp only [Bool.not_eq_true', Bool.not_eq_false', decide_eq_true_eq, decide_eq_false_iff_not] at hc) <;> (first | (exfalso; omega) | skip) <;> simp [-List.reduceReplicate, Nat.add_one_le_iff, -getElem?_pos, -getElem?_neg, List.getElem?_cons_zero, List.getElem?_cons_succ, iC, bC, hr, hc])
     | ((with_reducible first | refine hother _ _ rfl ?_ | refine hother2 _ _ rfl ?_); simp only [inBlockA, thenA, noGotoA, Nat.reduceEqDiff, if_false, if_true, ↓reduceIte])
     | (with_reducible refine And.intro (by omega) ?_)
     | fail)
/-- What the loops know of the places that both have, up to a pair. -/
def Inv (a b : List H32) (i k : Nat) (last : Int) : Prop :=
  (∀ i' k', (i' < i ∨ (i' = i ∧ k' < k)) → mt a b i' k' → (k' : Int) ≤ last) ∧ (∀ i1 k1 i2 k2, i1 < i2 → (i2 < i ∨ (i2 = i ∧ k2 < k)) → mt a b i1 k1 → mt a b i2 k2 → k1 ≤ k2) ∧ -1 ≤ last ∧ last ≤ 1000000
theorem inv_0 (a b : List H32) : Inv a b 0 0 (-1) := ⟨fun i' k' h => by omega, fun i1 k1 i2 k2 h1 h2 => by omega, by omega, by omega⟩
theorem inv_no {a b : List H32} {i k : Nat} {last : Int} (h : Inv a b i k last) (hm : ¬ mt a b i k) : Inv a b i (k + 1) last := by
  obtain ⟨h1, h2, h3⟩ := h
  refine ⟨fun i' k' hp hk => ?_, fun i1 k1 i2 k2 hlt hp m1 m2 => ?_, h3⟩
  · by_cases c : i' = i ∧ k' = k
    · obtain ⟨rfl, rfl⟩ := c; exact absurd hk hm
    · exact h1 i' k' (by omega) hk
  · by_cases c : i2 = i ∧ k2 = k
    · obtain ⟨rfl, rfl⟩ := c; exact absurd m2 hm
    · exact h2 i1 k1 i2 k2 hlt (by omega) m1 m2
theorem inv_yes {a b : List H32} {i k : Nat} {last : Int} (h : Inv a b i k last) (hl : last ≤ (k : Int)) (hk : k ≤ 1000000) : Inv a b i (k + 1) (k : Int) := by
  obtain ⟨h1, h2, h3⟩ := h
  refine ⟨fun i' k' hp hm => ?_, fun i1 k1 i2 k2 hlt hp m1 m2 => ?_, by omega, by omega⟩
  · by_cases c : i' = i ∧ k' = k
    · omega
    · have := h1 i' k' (by omega) hm
      omega
  · by_cases c : i2 = i ∧ k2 = k
    · have := h1 i1 k1 (by omega) m1
      omega
    · exact h2 i1 k1 i2 k2 hlt (by omega) m1 m2
theorem inv_row {a b : List H32} {i : Nat} {last : Int} (h : Inv a b i b.length last) : Inv a b (i + 1) 0 last := by
  obtain ⟨h1, h2, h3⟩ := h
  exact ⟨fun i' k' hp hm => h1 i' k' (by have := (mt_lt hm).2; omega) hm, fun i1 k1 i2 k2 hlt hp m1 m2 => h2 i1 k1 i2 k2 hlt (by have := (mt_lt m2).2; omega) m1 m2, h3⟩
theorem inv_end {a b : List H32} {last : Int} (h : Inv a b a.length 0 last) : mono a b := fun i k i' k' hlt m1 m2 => h.2.1 i k i' k' hlt (by have := (mt_lt m2).1; omega) m1 m2
set_option maxHeartbeats 8000000 in
theorem duelTurns_den (a b : List H32) (za zb : List Int) (m : Int) (ob : List Ob) : Den Try.prog 11 [sideM a za, sideM b zb, .c (iC m)] ob (fun r ob' => r = .c (bC true) ∧ ob' = ob) := by
  refine Den.frame rfl rfl ?_ ob
  have aw := awake42_den
  have g1 := great42_den a za
  have g2 := great42_den b zb
  cases hg1 : great42 a za
  · cases hg2 : great42 b zb
    · obtain ⟨ha, hza⟩ := great42_no hg1
      obtain ⟨hb, hzb⟩ := great42_no hg2
      rw [hg1] at g1
      rw [hg2] at g2
      have o1 := once_den a (by omega)
      have o2 := once_den b (by omega)
      cases ho1 : onceB a
      · rw [ho1] at o1
        unfold sideM sideL at *
        refine den_of Try.func11 rfl rfl (by simp [Try.ntmps11]) (fun X hX hO => ?_)
        rw [Try.ntmps11] at hX
        simp only [Try.results11]
        repeat' (first 
         | (with_reducible first | refine awp_scope ?_ | refine awp_seq ?_ | refine awp_block ?_)
         | ((with_reducible first | refine awp_label ?_ | refine awp_skip ?_); try simp only [thenA, inBlockA, noGotoA])
         | (with_reducible refine awp_exit ?_; simp only [thenA, inBlockA, noGotoA, if_true, Nat.reduceEqDiff, if_false, ↓reduceIte])
         | (with_reducible refine awp_ret ?_; (try simp only [thenA, inBlockA, noGotoA]); (try simp [-List.reduceReplicate, Nat.add_one_le_iff, -getElem?_pos, -getElem?_neg, List.getElem?_cons_zero, List.getElem?_cons_succ, bC]))
         | ((with_reducible first | refine awp_reg 79 hX [2, 3, 4, 6, 7, 8, 9, 27, 33, 40, 53, 56] ?_ | refine awp_drw 79 hX [2, 3, 4, 6, 7, 8, 9, 27, 33, 40, 53, 56] Tab.mixed (by kernel_rfl) ?_ | refine DEv_cut _ _ _ _ _ _ _ _ _ _ _ _ (by kernel_rfl) ?_ | change postOf _ _ _ _ _); simp [-List.reduceReplicate, Nat.add_one_le_iff, -getElem?_pos, -getElem?_neg, List.getElem?_cons_zero, List.getElem?_cons_succ, bC])
         | ((first | (refine (g1 _).det ?_) | (refine ⟨_, _, g1 _, fun _ => rfl, ?_⟩) | (refine (g2 _).det ?_) | (refine ⟨_, _, g2 _, fun _ => rfl, ?_⟩) | (refine (o1 _).det ?_) | (refine ⟨_, _, o1 _, fun _ => rfl, ?_⟩) | (refine (aw _).det ?_) | (refine ⟨_, _, aw _, fun _ => rfl, ?_⟩)); try simp [-List.reduceReplicate, Nat.add_one_le_iff, -getElem?_pos, -getElem?_neg, List.getElem?_cons_zero, List.getElem?_cons_succ, bC])
         | (with_reducible refine awp_if_b rfl (fun hc => ?_) (fun hc => ?_) <;> (try simp [-getElem?_pos, -getElem?_neg] at hc) <;> (try (exfalso; omega)))
         | ((with_reducible first | refine GuardK_b (fun hc => ?_) (fun hc => ?_) | refine DGuard_b _ _ _ _ _ _ _ _ _ _ (fun hc => ?_) (fun hc => ?_)) <;> (try simp only [Bool.not_eq_true', Bool.not_eq_false', decide_eq_true_eq, decide_eq_false_iff_not] at hc) <;> (first | (exfalso; omega) | skip) <;> simp [-List.reduceReplicate, Nat.add_one_le_iff, -getElem?_pos, -getElem?_neg, List.getElem?_cons_zero, List.getElem?_cons_succ, bC, hc])
         | ((with_reducible first | refine hother _ _ rfl ?_ | refine hother2 _ _ rfl ?_); simp only [inBlockA, thenA, noGotoA, Nat.reduceEqDiff, if_false, if_true, ↓reduceIte])
         | (with_reducible refine And.intro (by omega) ?_)
         | fail)
      · rw [ho1] at o1
        cases ho2 : onceB b
        · rw [ho2] at o2
          unfold sideM sideL at *
          refine den_of Try.func11 rfl rfl (by simp [Try.ntmps11]) (fun X hX hO => ?_)
          rw [Try.ntmps11] at hX
          simp only [Try.results11]
          repeat' (first 
           | (with_reducible first | refine awp_scope ?_ | refine awp_seq ?_ | refine awp_block ?_)
           | ((with_reducible first | refine awp_label ?_ | refine awp_skip ?_); try simp only [thenA, inBlockA, noGotoA])
           | (with_reducible refine awp_exit ?_; simp only [thenA, inBlockA, noGotoA, if_true, Nat.reduceEqDiff, if_false, ↓reduceIte])
           | (with_reducible refine awp_ret ?_; (try simp only [thenA, inBlockA, noGotoA]); (try simp [-List.reduceReplicate, Nat.add_one_le_iff, -getElem?_pos, -getElem?_neg, List.getElem?_cons_zero, List.getElem?_cons_succ, bC]))
           | ((with_reducible first | refine awp_reg 79 hX [2, 3, 4, 6, 7, 8, 9, 27, 33, 40, 53, 56] ?_ | refine awp_drw 79 hX [2, 3, 4, 6, 7, 8, 9, 27, 33, 40, 53, 56] Tab.mixed (by kernel_rfl) ?_ | refine DEv_cut _ _ _ _ _ _ _ _ _ _ _ _ (by kernel_rfl) ?_ | change postOf _ _ _ _ _); simp [-List.reduceReplicate, Nat.add_one_le_iff, -getElem?_pos, -getElem?_neg, List.getElem?_cons_zero, List.getElem?_cons_succ, bC])
           | ((first | (refine (g1 _).det ?_) | (refine ⟨_, _, g1 _, fun _ => rfl, ?_⟩) | (refine (g2 _).det ?_) | (refine ⟨_, _, g2 _, fun _ => rfl, ?_⟩) | (refine (o1 _).det ?_) | (refine ⟨_, _, o1 _, fun _ => rfl, ?_⟩) | (refine (o2 _).det ?_) | (refine ⟨_, _, o2 _, fun _ => rfl, ?_⟩) | (refine (aw _).det ?_) | (refine ⟨_, _, aw _, fun _ => rfl, ?_⟩)); try simp [-List.reduceReplicate, Nat.add_one_le_iff, -getElem?_pos, -getElem?_neg, List.getElem?_cons_zero, List.getElem?_cons_succ, bC])
           | (with_reducible refine awp_if_b rfl (fun hc => ?_) (fun hc => ?_) <;> (try simp [-getElem?_pos, -getElem?_neg] at hc) <;> (try (exfalso; omega)))
           | ((with_reducible first | refine GuardK_b (fun hc => ?_) (fun hc => ?_) | refine DGuard_b _ _ _ _ _ _ _ _ _ _ (fun hc => ?_) (fun hc => ?_)) <;> (try simp only [Bool.not_eq_true', Bool.not_eq_false', decide_eq_true_eq, decide_eq_false_iff_not] at hc) <;> (first | (exfalso; omega) | skip) <;> simp [-List.reduceReplicate, Nat.add_one_le_iff, -getElem?_pos, -getElem?_neg, List.getElem?_cons_zero, List.getElem?_cons_succ, bC, hc])
           | ((with_reducible first | refine hother _ _ rfl ?_ | refine hother2 _ _ rfl ?_); simp only [inBlockA, thenA, noGotoA, Nat.reduceEqDiff, if_false, if_true, ↓reduceIte])
           | (with_reducible refine And.intro (by omega) ?_)
           | fail)
        · rw [ho2] at o2
          have p1 := verdict_den a b za zb m (by omega) (by omega) (by omega) (by omega)
          have p2 := verdict_den b a zb za m (by omega) (by omega) (by omega) (by omega)
          have p3 := verdict_den a a za za m (by omega) (by omega) (by omega) (by omega)
          have hv := fun h => vrd_turn a b za zb m (onceB_P ho1) (onceB_P ho2) h
          have hs := vrd_self a za m (onceB_P ho1)
          rw [hs] at p3
          have hvr : -1 ≤ vrdN b a zb za m ∧ vrdN b a zb za m ≤ 1 := by
            unfold vrdN cmpN
            split
            · omega
            · split
              · omega
              · split <;> omega
          have hla := hsC_len a
          have hata := hsC_at a
          have hlb := hsC_len b
          have hatb := hsC_at b
          generalize vrdN a b za zb m = v1 at *
          generalize vrdN b a zb za m = v2 at *
          unfold sideM sideL at *
          refine den_of Try.func11 rfl rfl (by simp [Try.ntmps11]) (fun X hX hO => ?_)
          rw [Try.ntmps11] at hX
          simp only [Try.results11]
          repeat' (first 
           | (with_reducible first | refine awp_scope ?_ | refine awp_seq ?_ | refine awp_block ?_)
           | ((with_reducible first | refine awp_label ?_ | refine awp_skip ?_); try simp only [thenA, inBlockA, noGotoA])
           | (with_reducible refine awp_exit ?_; simp only [thenA, inBlockA, noGotoA, if_true, Nat.reduceEqDiff, if_false, ↓reduceIte])
           | (with_reducible refine awp_ret ?_; (try simp only [thenA, inBlockA, noGotoA]); (try simp [-List.reduceReplicate, Nat.add_one_le_iff, -getElem?_pos, -getElem?_neg, List.getElem?_cons_zero, List.getElem?_cons_succ, iC, bC]))
           | ((with_reducible first | refine awp_reg 79 hX [2, 3, 4, 6, 7, 8, 9, 27, 33, 40, 53, 56] ?_ | refine awp_drw 79 hX [2, 3, 4, 6, 7, 8, 9, 27, 33, 40, 53, 56] Tab.mixed (by kernel_rfl) ?_ | refine DEv_cut _ _ _ _ _ _ _ _ _ _ _ _ (by kernel_rfl) ?_ | change postOf _ _ _ _ _); simp [-List.reduceReplicate, Nat.add_one_le_iff, -getElem?_pos, -getElem?_neg, List.getElem?_cons_zero, List.getElem?_cons_succ, iC, bC])
           | ((first | (refine (g1 _).det ?_) | (refine ⟨_, _, g1 _, fun _ => rfl, ?_⟩) | (refine (g2 _).det ?_) | (refine ⟨_, _, g2 _, fun _ => rfl, ?_⟩) | (refine (o1 _).det ?_) | (refine ⟨_, _, o1 _, fun _ => rfl, ?_⟩) | (refine (o2 _).det ?_) | (refine ⟨_, _, o2 _, fun _ => rfl, ?_⟩)); try simp [-List.reduceReplicate, Nat.add_one_le_iff, -getElem?_pos, -getElem?_neg, List.getElem?_cons_zero, List.getElem?_cons_succ, iC, bC])
           | (with_reducible refine awp_if_b rfl (fun hc => ?_) (fun hc => ?_) <;> (try simp [-getElem?_pos, -getElem?_neg] at hc) <;> (try (exfalso; omega)))
           | ((with_reducible first | refine GuardK_b (fun hc => ?_) (fun hc => ?_) | refine DGuard_b _ _ _ _ _ _ _ _ _ _ (fun hc => ?_) (fun hc => ?_)) <;> (try simp only [Bool.not_eq_true', Bool.not_eq_false', decide_eq_true_eq, decide_eq_false_iff_not] at hc) <;> (first | (exfalso; omega) | skip) <;> simp [-List.reduceReplicate, Nat.add_one_le_iff, -getElem?_pos, -getElem?_neg, List.getElem?_cons_zero, List.getElem?_cons_succ, iC, bC, hc])
           | ((with_reducible first | refine hother _ _ rfl ?_ | refine hother2 _ _ rfl ?_); simp only [inBlockA, thenA, noGotoA, Nat.reduceEqDiff, if_false, if_true, ↓reduceIte])
           | (with_reducible refine And.intro (by omega) ?_)
           | fail)
          refine awp_forU [2, 3, 4, 7, 8] (fun i (last : Int) => [(7, .c (iC last)), (8, .c (iC i))]) (fun i (last : Int) => [⟨47, 2, false, 0, up [C.sl (hsC a) a.length false, C.sl (za.map iC) za.length false], none⟩, ⟨47, 2, false, 0, up [C.sl (hsC b) b.length false, C.sl (zb.map iC) zb.length false], none⟩]) (fun i (last : Int) => Inv a b i 0 last) (a.length) (-1) (inv_0 a b) (by simp [-List.reduceReplicate, keep, iC]) (by simp [-List.reduceReplicate, iC]) ?_
          rintro i last Q1 hi hH next hother
          conv => arg 5; arg 1; simp only [List.cons_append, List.nil_append, keep, get, Nat.reduceEqDiff, if_true, if_false, ↓reduceIte]
          have hwi := wrap_in ((i : Int) + 1) (by omega)
          by_cases hlt : i < a.length
          · obtain ⟨h, hh⟩ : ∃ h, a[i]? = some h := ⟨_, List.getElem?_eq_getElem hlt⟩
            have hha := hata i h hh
            have hl2 := h.2
            have t2 := hash_take h.1 hl2
            have hba : 32 ≤ (hsC a).length - i * 32 := by omega
            repeat' (first 
             | (with_reducible first | refine awp_scope ?_ | refine awp_seq ?_ | refine awp_block ?_)
             | ((with_reducible first | refine awp_label ?_ | refine awp_skip ?_); try simp only [thenA, inBlockA, noGotoA])
             | (with_reducible refine awp_exit ?_; simp only [thenA, inBlockA, noGotoA, if_true, Nat.reduceEqDiff, if_false, ↓reduceIte])
             | (with_reducible refine awp_ret ?_; (try simp only [thenA, inBlockA, noGotoA]); (try simp [-List.reduceReplicate, Nat.add_one_le_iff, -getElem?_pos, -getElem?_neg, List.getElem?_cons_zero, List.getElem?_cons_succ, iC, bC, hlt]))
             | ((with_reducible first | refine awp_reg 79 hX [2, 3, 4, 6, 7, 8, 9, 27, 33, 40, 53, 56] ?_ | refine awp_drw 79 hX [2, 3, 4, 6, 7, 8, 9, 27, 33, 40, 53, 56] Tab.mixed (by kernel_rfl) ?_ | refine DEv_cut _ _ _ _ _ _ _ _ _ _ _ _ (by kernel_rfl) ?_ | change postOf _ _ _ _ _); simp [-List.reduceReplicate, Nat.add_one_le_iff, -getElem?_pos, -getElem?_neg, List.getElem?_cons_zero, List.getElem?_cons_succ, iC, bC, hlt])
             | (with_reducible refine awp_if_b rfl (fun hc => ?_) (fun hc => ?_) <;> (try simp [-getElem?_pos, -getElem?_neg] at hc) <;> (try (exfalso; omega)))
             | ((with_reducible first | refine GuardK_b (fun hc => ?_) (fun hc => ?_) | refine DGuard_b _ _ _ _ _ _ _ _ _ _ (fun hc => ?_) (fun hc => ?_)) <;> (try simp only [Bool.not_eq_true', Bool.not_eq_false', decide_eq_true_eq, decide_eq_false_iff_not] at hc) <;> (first | (exfalso; omega) | skip) <;> simp [-List.reduceReplicate, Nat.add_one_le_iff, -getElem?_pos, -getElem?_neg, List.getElem?_cons_zero, List.getElem?_cons_succ, iC, bC, hlt, hc])
             | ((with_reducible first | refine hother _ _ rfl ?_ | refine hother2 _ _ rfl ?_); simp only [inBlockA, thenA, noGotoA, Nat.reduceEqDiff, if_false, if_true, ↓reduceIte])
             | (with_reducible refine And.intro (by omega) ?_)
             | fail)
            have next1 := next; have hother2 := hother; clear next hother
            refine awp_forU [2, 3, 4, 7, 8, 9] (fun k (last2 : Int) => [(7, .c (iC last2)), (9, .c (iC k))]) (fun k (last2 : Int) => [⟨47, 2, false, 0, up [C.sl (hsC a) a.length false, C.sl (za.map iC) za.length false], none⟩, ⟨47, 2, false, 0, up [C.sl (hsC b) b.length false, C.sl (zb.map iC) zb.length false], none⟩]) (fun k (last2 : Int) => Inv a b i k last2) (b.length) (last) (hH) (by simp [-List.reduceReplicate, keep, iC]) (by simp [-List.reduceReplicate, iC]) ?_
            rintro k last2 Q1 hi hH next hother
            conv => arg 5; arg 1; simp only [List.cons_append, List.nil_append, keep, get, Nat.reduceEqDiff, if_true, if_false, ↓reduceIte]
            have hwk := wrap_in ((k : Int) + 1) (by omega)
            by_cases hkl : k < b.length
            · obtain ⟨h', hh'⟩ : ∃ h, b[k]? = some h := ⟨_, List.getElem?_eq_getElem hkl⟩
              have hhb := hatb k h' hh'
              have hl2' := h'.2
              have t2' := hash_take h'.1 hl2'
              have hbb : 32 ≤ (hsC b).length - k * 32 := by omega
              have he := eq_hash h.1 h'.1 hl2 hl2'
              by_cases heq : h.1 = h'.1
              · simp only [heq, decide_true] at he hha t2 hl2
                by_cases c : (k : Int) < last2
                · repeat' (first 
                   | (with_reducible first | refine awp_scope ?_ | refine awp_seq ?_ | refine awp_block ?_)
                   | ((with_reducible first | refine awp_label ?_ | refine awp_skip ?_); try simp only [thenA, inBlockA, noGotoA])
                   | (with_reducible refine awp_exit ?_; simp only [thenA, inBlockA, noGotoA, if_true, Nat.reduceEqDiff, if_false, ↓reduceIte])
                   | (with_reducible refine awp_ret ?_; (try simp only [thenA, inBlockA, noGotoA]); (try simp [-List.reduceReplicate, Nat.add_one_le_iff, -getElem?_pos, -getElem?_neg, List.getElem?_cons_zero, List.getElem?_cons_succ, iC, bC, hlt, hkl, hha, hhb, hl2, hl2', t2, t2', hba, hbb, he, c]))
                   | ((with_reducible first | refine awp_reg 79 hX [2, 3, 4, 6, 7, 8, 9, 27, 33, 40, 53, 56] ?_ | refine awp_drw 79 hX [2, 3, 4, 6, 7, 8, 9, 27, 33, 40, 53, 56] Tab.mixed (by kernel_rfl) ?_ | refine DEv_cut _ _ _ _ _ _ _ _ _ _ _ _ (by kernel_rfl) ?_ | change postOf _ _ _ _ _); simp [-List.reduceReplicate, Nat.add_one_le_iff, -getElem?_pos, -getElem?_neg, List.getElem?_cons_zero, List.getElem?_cons_succ, iC, bC, hlt, hkl, hha, hhb, hl2, hl2', t2, t2', hba, hbb, he, c])
                   | ((first | (refine (aw _).det ?_) | (refine ⟨_, _, aw _, fun _ => rfl, ?_⟩)); try simp [-List.reduceReplicate, Nat.add_one_le_iff, -getElem?_pos, -getElem?_neg, List.getElem?_cons_zero, List.getElem?_cons_succ, iC, bC, hlt, hkl, hha, hhb, hl2, hl2', t2, t2', hba, hbb, he, c])
                   | (with_reducible refine awp_if_b rfl (fun hc => ?_) (fun hc => ?_) <;> (try simp [-getElem?_pos, -getElem?_neg] at hc) <;> (try (exfalso; omega)))
                   | ((with_reducible first | refine GuardK_b (fun hc => ?_) (fun hc => ?_) | refine DGuard_b _ _ _ _ _ _ _ _ _ _ (fun hc => ?_) (fun hc => ?_)) <;> (try simp only [Bool.not_eq_true', Bool.not_eq_false', decide_eq_true_eq, decide_eq_false_iff_not] at hc) <;> (first | (exfalso; omega) | skip) <;> simp [-List.reduceReplicate, Nat.add_one_le_iff, -getElem?_pos, -getElem?_neg, List.getElem?_cons_zero, List.getElem?_cons_succ, iC, bC, hlt, hkl, hha, hhb, hl2, hl2', t2, t2', hba, hbb, he, c, hc])
                   | ((with_reducible first | refine hother _ _ rfl ?_ | refine hother2 _ _ rfl ?_); simp only [inBlockA, thenA, noGotoA, Nat.reduceEqDiff, if_false, if_true, ↓reduceIte])
                   | (with_reducible refine And.intro (by omega) ?_)
                   | fail)
                · have nx := inv_yes hH (by omega) (by omega)
                  repeat' (first 
                   | (with_reducible first | refine awp_scope ?_ | refine awp_seq ?_ | refine awp_block ?_)
                   | ((with_reducible first | refine awp_label ?_ | refine awp_skip ?_); try simp only [thenA, inBlockA, noGotoA])
                   | (with_reducible refine awp_exit ?_; simp only [thenA, inBlockA, noGotoA, if_true, Nat.reduceEqDiff, if_false, ↓reduceIte])
                   | (with_reducible refine awp_ret ?_; (try simp only [thenA, inBlockA, noGotoA]); (try simp [-List.reduceReplicate, Nat.add_one_le_iff, -getElem?_pos, -getElem?_neg, List.getElem?_cons_zero, List.getElem?_cons_succ, iC, bC, hlt, hkl, hha, hhb, hl2, hl2', t2, t2', hba, hbb, he, c, hwk]))
                   | ((with_reducible first | refine awp_reg 79 hX [2, 3, 4, 6, 7, 8, 9, 27, 33, 40, 53, 56] ?_ | refine awp_drw 79 hX [2, 3, 4, 6, 7, 8, 9, 27, 33, 40, 53, 56] Tab.mixed (by kernel_rfl) ?_ | refine DEv_cut _ _ _ _ _ _ _ _ _ _ _ _ (by kernel_rfl) ?_ | change postOf _ _ _ _ _); simp [-List.reduceReplicate, Nat.add_one_le_iff, -getElem?_pos, -getElem?_neg, List.getElem?_cons_zero, List.getElem?_cons_succ, iC, bC, hlt, hkl, hha, hhb, hl2, hl2', t2, t2', hba, hbb, he, c, hwk])
                   | (with_reducible refine awp_if_b rfl (fun hc => ?_) (fun hc => ?_) <;> (try simp [-getElem?_pos, -getElem?_neg] at hc) <;> (try (exfalso; omega)))
                   | ((with_reducible first | refine GuardK_b (fun hc => ?_) (fun hc => ?_) | refine DGuard_b _ _ _ _ _ _ _ _ _ _ (fun hc => ?_) (fun hc => ?_)) <;> (try simp only [Bool.not_eq_true', Bool.not_eq_false', decide_eq_true_eq, decide_eq_false_iff_not] at hc) <;> (first | (exfalso; omega) | skip) <;> simp [-List.reduceReplicate, Nat.add_one_le_iff, -getElem?_pos, -getElem?_neg, List.getElem?_cons_zero, List.getElem?_cons_succ, iC, bC, hlt, hkl, hha, hhb, hl2, hl2', t2, t2', hba, hbb, he, c, hwk, hc])
                   | ((with_reducible first | refine hother _ _ rfl ?_ | refine hother2 _ _ rfl ?_); simp only [inBlockA, thenA, noGotoA, Nat.reduceEqDiff, if_false, if_true, ↓reduceIte])
                   | (with_reducible refine And.intro (by omega) ?_)
                   | fail)
                  refine next _ _ ((k : Int)) (by omega) (by first | trivial | omega | assumption) (by simp [-List.reduceReplicate, keep, iC]) (by simp [-List.reduceReplicate, iC])
              · have nx := inv_no hH (fun ⟨u, v, m1, m2, m3⟩ => by
                  rw [hh] at m1; rw [hh'] at m2
                  obtain rfl := Option.some.inj m1
                  obtain rfl := Option.some.inj m2
                  exact heq m3)
                simp only [heq, decide_false] at he
                repeat' (first 
                 | (with_reducible first | refine awp_scope ?_ | refine awp_seq ?_ | refine awp_block ?_)
                 | ((with_reducible first | refine awp_label ?_ | refine awp_skip ?_); try simp only [thenA, inBlockA, noGotoA])
                 | (with_reducible refine awp_exit ?_; simp only [thenA, inBlockA, noGotoA, if_true, Nat.reduceEqDiff, if_false, ↓reduceIte])
                 | (with_reducible refine awp_ret ?_; (try simp only [thenA, inBlockA, noGotoA]); (try simp [-List.reduceReplicate, Nat.add_one_le_iff, -getElem?_pos, -getElem?_neg, List.getElem?_cons_zero, List.getElem?_cons_succ, iC, bC, hlt, hkl, hha, hhb, hl2, hl2', t2, t2', hba, hbb, he, hwk]))
                 | ((with_reducible first | refine awp_reg 79 hX [2, 3, 4, 6, 7, 8, 9, 27, 33, 40, 53, 56] ?_ | refine awp_drw 79 hX [2, 3, 4, 6, 7, 8, 9, 27, 33, 40, 53, 56] Tab.mixed (by kernel_rfl) ?_ | refine DEv_cut _ _ _ _ _ _ _ _ _ _ _ _ (by kernel_rfl) ?_ | change postOf _ _ _ _ _); simp [-List.reduceReplicate, Nat.add_one_le_iff, -getElem?_pos, -getElem?_neg, List.getElem?_cons_zero, List.getElem?_cons_succ, iC, bC, hlt, hkl, hha, hhb, hl2, hl2', t2, t2', hba, hbb, he, hwk])
                 | (with_reducible refine awp_if_b rfl (fun hc => ?_) (fun hc => ?_) <;> (try simp [-getElem?_pos, -getElem?_neg] at hc) <;> (try (exfalso; omega)))
                 | ((with_reducible first | refine GuardK_b (fun hc => ?_) (fun hc => ?_) | refine DGuard_b _ _ _ _ _ _ _ _ _ _ (fun hc => ?_) (fun hc => ?_)) <;> (try simp only [Bool.not_eq_true', Bool.not_eq_false', decide_eq_true_eq, decide_eq_false_iff_not] at hc) <;> (first | (exfalso; omega) | skip) <;> simp [-List.reduceReplicate, Nat.add_one_le_iff, -getElem?_pos, -getElem?_neg, List.getElem?_cons_zero, List.getElem?_cons_succ, iC, bC, hlt, hkl, hha, hhb, hl2, hl2', t2, t2', hba, hbb, he, hwk, hc])
                 | ((with_reducible first | refine hother _ _ rfl ?_ | refine hother2 _ _ rfl ?_); simp only [inBlockA, thenA, noGotoA, Nat.reduceEqDiff, if_false, if_true, ↓reduceIte])
                 | (with_reducible refine And.intro (by omega) ?_)
                 | fail)
                refine next _ _ (last2) (by omega) (by first | trivial | omega | assumption) (by simp [-List.reduceReplicate, keep, iC]) (by simp [-List.reduceReplicate, iC])
            · have hk2 : k = b.length := by omega
              subst hk2
              have nx := inv_row hH
              repeat' (first 
               | (with_reducible first | refine awp_scope ?_ | refine awp_seq ?_ | refine awp_block ?_)
               | ((with_reducible first | refine awp_label ?_ | refine awp_skip ?_); try simp only [thenA, inBlockA, noGotoA])
               | (with_reducible refine awp_exit ?_; simp only [thenA, inBlockA, noGotoA, if_true, Nat.reduceEqDiff, if_false, ↓reduceIte])
               | (with_reducible refine awp_ret ?_; (try simp only [thenA, inBlockA, noGotoA]); (try simp [-List.reduceReplicate, Nat.add_one_le_iff, -getElem?_pos, -getElem?_neg, List.getElem?_cons_zero, List.getElem?_cons_succ, iC, bC, hwi]))
               | ((with_reducible first | refine awp_reg 79 hX [2, 3, 4, 6, 7, 8, 9, 27, 33, 40, 53, 56] ?_ | refine awp_drw 79 hX [2, 3, 4, 6, 7, 8, 9, 27, 33, 40, 53, 56] Tab.mixed (by kernel_rfl) ?_ | refine DEv_cut _ _ _ _ _ _ _ _ _ _ _ _ (by kernel_rfl) ?_ | change postOf _ _ _ _ _); simp [-List.reduceReplicate, Nat.add_one_le_iff, -getElem?_pos, -getElem?_neg, List.getElem?_cons_zero, List.getElem?_cons_succ, iC, bC, hwi])
               | (with_reducible refine awp_if_b rfl (fun hc => ?_) (fun hc => ?_) <;> (try simp [-getElem?_pos, -getElem?_neg] at hc) <;> (try (exfalso; omega)))
               | ((with_reducible first | refine GuardK_b (fun hc => ?_) (fun hc => ?_) | refine DGuard_b _ _ _ _ _ _ _ _ _ _ (fun hc => ?_) (fun hc => ?_)) <;> (try simp only [Bool.not_eq_true', Bool.not_eq_false', decide_eq_true_eq, decide_eq_false_iff_not] at hc) <;> (first | (exfalso; omega) | skip) <;> simp [-List.reduceReplicate, Nat.add_one_le_iff, -getElem?_pos, -getElem?_neg, List.getElem?_cons_zero, List.getElem?_cons_succ, iC, bC, hwi, hc])
               | ((with_reducible first | refine hother _ _ rfl ?_ | refine hother2 _ _ rfl ?_); simp only [inBlockA, thenA, noGotoA, Nat.reduceEqDiff, if_false, if_true, ↓reduceIte])
               | (with_reducible refine And.intro (by omega) ?_)
               | fail)
              refine next1 _ _ (last2) (by omega) (by first | trivial | omega | assumption) (by simp [-List.reduceReplicate, keep, iC]) (by simp [-List.reduceReplicate, iC])
          · have hi2 : i = a.length := by omega
            subst hi2
            have hvv := hv (inv_end hH)
            have hwn := wrap_in (-v2) (by omega)
            repeat' (first 
             | (with_reducible first | refine awp_scope ?_ | refine awp_seq ?_ | refine awp_block ?_)
             | ((with_reducible first | refine awp_label ?_ | refine awp_skip ?_); try simp only [thenA, inBlockA, noGotoA])
             | (with_reducible refine awp_exit ?_; simp only [thenA, inBlockA, noGotoA, if_true, Nat.reduceEqDiff, if_false, ↓reduceIte])
             | (with_reducible refine awp_ret ?_; (try simp only [thenA, inBlockA, noGotoA]); (try simp [-List.reduceReplicate, Nat.add_one_le_iff, -getElem?_pos, -getElem?_neg, List.getElem?_cons_zero, List.getElem?_cons_succ, iC, bC, hwn, hvv]))
             | ((with_reducible first | refine awp_reg 79 hX [2, 3, 4, 6, 7, 8, 9, 27, 33, 40, 53, 56] ?_ | refine awp_drw 79 hX [2, 3, 4, 6, 7, 8, 9, 27, 33, 40, 53, 56] Tab.mixed (by kernel_rfl) ?_ | refine DEv_cut _ _ _ _ _ _ _ _ _ _ _ _ (by kernel_rfl) ?_ | change postOf _ _ _ _ _); simp [-List.reduceReplicate, Nat.add_one_le_iff, -getElem?_pos, -getElem?_neg, List.getElem?_cons_zero, List.getElem?_cons_succ, iC, bC, hwn, hvv])
             | ((first | (refine (p1 _).det ?_) | (refine ⟨_, _, p1 _, fun _ => rfl, ?_⟩) | (refine (p2 _).det ?_) | (refine ⟨_, _, p2 _, fun _ => rfl, ?_⟩) | (refine (p3 _).det ?_) | (refine ⟨_, _, p3 _, fun _ => rfl, ?_⟩) | (refine (aw _).det ?_) | (refine ⟨_, _, aw _, fun _ => rfl, ?_⟩)); try simp [-List.reduceReplicate, Nat.add_one_le_iff, -getElem?_pos, -getElem?_neg, List.getElem?_cons_zero, List.getElem?_cons_succ, iC, bC, hwn, hvv])
             | (with_reducible refine awp_if_b rfl (fun hc => ?_) (fun hc => ?_) <;> (try simp [-getElem?_pos, -getElem?_neg] at hc) <;> (try (exfalso; omega)))
             | ((with_reducible first | refine GuardK_b (fun hc => ?_) (fun hc => ?_) | refine DGuard_b _ _ _ _ _ _ _ _ _ _ (fun hc => ?_) (fun hc => ?_)) <;> (try simp only [Bool.not_eq_true', Bool.not_eq_false', decide_eq_true_eq, decide_eq_false_iff_not] at hc) <;> (first | (exfalso; omega) | skip) <;> simp [-List.reduceReplicate, Nat.add_one_le_iff, -getElem?_pos, -getElem?_neg, List.getElem?_cons_zero, List.getElem?_cons_succ, iC, bC, hwn, hvv, hc])
             | ((with_reducible first | refine hother _ _ rfl ?_ | refine hother2 _ _ rfl ?_); simp only [inBlockA, thenA, noGotoA, Nat.reduceEqDiff, if_false, if_true, ↓reduceIte])
             | (with_reducible refine And.intro (by omega) ?_)
             | fail)
    · rw [hg1] at g1
      rw [hg2] at g2
      unfold sideM sideL at *
      refine den_of Try.func11 rfl rfl (by simp [Try.ntmps11]) (fun X hX hO => ?_)
      rw [Try.ntmps11] at hX
      simp only [Try.results11]
      repeat' (first 
       | (with_reducible first | refine awp_scope ?_ | refine awp_seq ?_ | refine awp_block ?_)
       | ((with_reducible first | refine awp_label ?_ | refine awp_skip ?_); try simp only [thenA, inBlockA, noGotoA])
       | (with_reducible refine awp_exit ?_; simp only [thenA, inBlockA, noGotoA, if_true, Nat.reduceEqDiff, if_false, ↓reduceIte])
       | (with_reducible refine awp_ret ?_; (try simp only [thenA, inBlockA, noGotoA]); (try simp [-List.reduceReplicate, Nat.add_one_le_iff, -getElem?_pos, -getElem?_neg, List.getElem?_cons_zero, List.getElem?_cons_succ, bC]))
       | ((with_reducible first | refine awp_reg 79 hX [2, 3, 4, 6, 7, 8, 9, 27, 33, 40, 53, 56] ?_ | refine awp_drw 79 hX [2, 3, 4, 6, 7, 8, 9, 27, 33, 40, 53, 56] Tab.mixed (by kernel_rfl) ?_ | refine DEv_cut _ _ _ _ _ _ _ _ _ _ _ _ (by kernel_rfl) ?_ | change postOf _ _ _ _ _); simp [-List.reduceReplicate, Nat.add_one_le_iff, -getElem?_pos, -getElem?_neg, List.getElem?_cons_zero, List.getElem?_cons_succ, bC])
       | ((first | (refine (g1 _).det ?_) | (refine ⟨_, _, g1 _, fun _ => rfl, ?_⟩) | (refine (g2 _).det ?_) | (refine ⟨_, _, g2 _, fun _ => rfl, ?_⟩) | (refine (aw _).det ?_) | (refine ⟨_, _, aw _, fun _ => rfl, ?_⟩)); try simp [-List.reduceReplicate, Nat.add_one_le_iff, -getElem?_pos, -getElem?_neg, List.getElem?_cons_zero, List.getElem?_cons_succ, bC])
       | (with_reducible refine awp_if_b rfl (fun hc => ?_) (fun hc => ?_) <;> (try simp [-getElem?_pos, -getElem?_neg] at hc) <;> (try (exfalso; omega)))
       | ((with_reducible first | refine GuardK_b (fun hc => ?_) (fun hc => ?_) | refine DGuard_b _ _ _ _ _ _ _ _ _ _ (fun hc => ?_) (fun hc => ?_)) <;> (try simp only [Bool.not_eq_true', Bool.not_eq_false', decide_eq_true_eq, decide_eq_false_iff_not] at hc) <;> (first | (exfalso; omega) | skip) <;> simp [-List.reduceReplicate, Nat.add_one_le_iff, -getElem?_pos, -getElem?_neg, List.getElem?_cons_zero, List.getElem?_cons_succ, bC, hc])
       | ((with_reducible first | refine hother _ _ rfl ?_ | refine hother2 _ _ rfl ?_); simp only [inBlockA, thenA, noGotoA, Nat.reduceEqDiff, if_false, if_true, ↓reduceIte])
       | (with_reducible refine And.intro (by omega) ?_)
       | fail)
  · rw [hg1] at g1
    unfold sideM sideL at *
    refine den_of Try.func11 rfl rfl (by simp [Try.ntmps11]) (fun X hX hO => ?_)
    rw [Try.ntmps11] at hX
    simp only [Try.results11]
    repeat' (first 
     | (with_reducible first | refine awp_scope ?_ | refine awp_seq ?_ | refine awp_block ?_)
     | ((with_reducible first | refine awp_label ?_ | refine awp_skip ?_); try simp only [thenA, inBlockA, noGotoA])
     | (with_reducible refine awp_exit ?_; simp only [thenA, inBlockA, noGotoA, if_true, Nat.reduceEqDiff, if_false, ↓reduceIte])
     | (with_reducible refine awp_ret ?_; (try simp only [thenA, inBlockA, noGotoA]); (try simp [-List.reduceReplicate, Nat.add_one_le_iff, -getElem?_pos, -getElem?_neg, List.getElem?_cons_zero, List.getElem?_cons_succ, bC]))
     | ((with_reducible first | refine awp_reg 79 hX [2, 3, 4, 6, 7, 8, 9, 27, 33, 40, 53, 56] ?_ | refine awp_drw 79 hX [2, 3, 4, 6, 7, 8, 9, 27, 33, 40, 53, 56] Tab.mixed (by kernel_rfl) ?_ | refine DEv_cut _ _ _ _ _ _ _ _ _ _ _ _ (by kernel_rfl) ?_ | change postOf _ _ _ _ _); simp [-List.reduceReplicate, Nat.add_one_le_iff, -getElem?_pos, -getElem?_neg, List.getElem?_cons_zero, List.getElem?_cons_succ, bC])
     | ((first | (refine (g1 _).det ?_) | (refine ⟨_, _, g1 _, fun _ => rfl, ?_⟩) | (refine (aw _).det ?_) | (refine ⟨_, _, aw _, fun _ => rfl, ?_⟩)); try simp [-List.reduceReplicate, Nat.add_one_le_iff, -getElem?_pos, -getElem?_neg, List.getElem?_cons_zero, List.getElem?_cons_succ, bC])
     | (with_reducible refine awp_if_b rfl (fun hc => ?_) (fun hc => ?_) <;> (try simp [-getElem?_pos, -getElem?_neg] at hc) <;> (try (exfalso; omega)))
     | ((with_reducible first | refine GuardK_b (fun hc => ?_) (fun hc => ?_) | refine DGuard_b _ _ _ _ _ _ _ _ _ _ (fun hc => ?_) (fun hc => ?_)) <;> (try simp only [Bool.not_eq_true', Bool.not_eq_false', decide_eq_true_eq, decide_eq_false_iff_not] at hc) <;> (first | (exfalso; omega) | skip) <;> simp [-List.reduceReplicate, Nat.add_one_le_iff, -getElem?_pos, -getElem?_neg, List.getElem?_cons_zero, List.getElem?_cons_succ, bC, hc])
     | ((with_reducible first | refine hother _ _ rfl ?_ | refine hother2 _ _ rfl ?_); simp only [inBlockA, thenA, noGotoA, Nat.reduceEqDiff, if_false, if_true, ↓reduceIte])
     | (with_reducible refine And.intro (by omega) ?_)
     | fail)
end Go.Av
